/-
  What is proved here: the reference's errors in tides, means, spans and degrees. Conditions: none; each contract states its own.
  What is proved here: the reference's Mean, Span, Off and Cancels; the widest run. Conditions: none; each contract states its own.
  What is proved here: the reference's Off and Cancels; the widest run. Conditions: none; each contract states its own.
  What is proved here: the program's widest run. Conditions: none; each contract states its own.
  What is proved here: contracts of ships, and what they pay. Conditions: none; each contract states its own.
  What is proved here: what is paid for a speed, and for a trial. Conditions: none; each contract states its own.
  What is proved here: how the arguments of the laws read. Conditions: none.
-/
import Derived.Test.YtkiaepcklbidgaaM4
import Derived.Test.YtkiaepcklbidgaaM2
import Derived.Deep.Strs
import Derived.OpenShut
namespace Go.Proofs.Ytkiaepcklbidgaa
open Go Go.TH
attribute [local irreducible] W WO pt
set_option maxRecDepth 10000
set_option maxHeartbeats 1000000
/-- a number of each run, as a list -/
def runL (rs : List (Int × Int × Int)) (g : Int → Int) : List Int := (List.range rs.length).map fun (i : Nat) => g (i : Int)
theorem runL_len (rs : List (Int × Int × Int)) (g : Int → Int) : (runL rs g).length = rs.length := by unfold runL; simp
theorem runL_at {rs : List (Int × Int × Int)} {g : Int → Int} {i : Nat} (h : i < rs.length) : (runL rs g).getD i 0 = g i := range_getD (f := fun (i : Nat) => g (i : Int)) h
theorem runL_take {rs : List (Int × Int × Int)} {g : Int → Int} {i : Nat} (h : i < rs.length) : (runL rs g).take i ++ [g i] = (runL rs g).take (i + 1) := range_take (f := fun (i : Nat) => g (i : Int)) h
theorem runL_all (rs : List (Int × Int × Int)) (g : Int → Int) : (runL rs g).take rs.length = runL rs g := by rw [← runL_len rs g, List.take_length]
theorem runL_gX {m : Int} {rs : List (Int × Int × Int)} {g : Int → Int} : meanQ m rs (gX (runL rs g)) = meanQ m rs g := meanQ_congr fun j hj => by rw [gX_at, runL_at hj]
theorem runL_mem {rs : List (Int × Int × Int)} {g : Int → Int} {x : Int} (h : x ∈ runL rs g) : ∃ i : Nat, i < rs.length ∧ x = g i := by
  unfold runL at h
  obtain ⟨i, hi, rfl⟩ := List.mem_map.1 h
  exact ⟨i, List.mem_range.1 hi, rfl⟩
def tmT (rs : List (Int × Int × Int)) (T : Int → Int) (x : Int) : Int := T (tm rs x.toNat)
theorem turn_off {m : Int} {rs : List (Int × Int × Int)} {T : Int → Int} : meanQ m rs (gX (turnL (runL rs (tmT rs T)))) = meanQ m rs (offT rs T) := meanQ_congr fun j hj => by
  rw [gX_at]
  have e : (turnL (runL rs (tmT rs T))).getD j 0 = turnG (runL rs (tmT rs T)) j := by unfold turnL; exact range_getD (by rw [runL_len]; exact hj)
  rw [e]
  unfold turnG offT
  rw [runL_at hj]
  have hmod : ((j : Int).tmod 2) = ((j % 2 : Nat) : Int) := by rw [Int.tmod_eq_emod_of_nonneg (by omega)]; omega
  unfold tmT
  rw [Int.toNat_natCast, hmod]
  by_cases h : j % 2 = 1
  · rw [if_pos h, if_pos (by omega)]
  · rw [if_neg h, if_neg (by omega)]
theorem turn_ab {rs : List (Int × Int × Int)} {T : Int → Int} (hT : ∀ i : Nat, i < rs.length → ab (T (tm rs i)) ≤ 1000000000) : ∀ i, i < rs.length → ab (gX (turnL (runL rs (tmT rs T))) i) ≤ 1000000000 := by
  intro i hi
  rw [gX_at]
  have e : (turnL (runL rs (tmT rs T))).getD i 0 = turnG (runL rs (tmT rs T)) i := by unfold turnL; exact range_getD (by rw [runL_len]; exact hi)
  rw [e]
  unfold turnG
  rw [runL_at hi]
  have := hT i hi
  unfold tmT
  rw [Int.toNat_natCast]
  split
  · unfold ab at *; omega
  · exact this
theorem ref_off (w : World) (m : Int) (o v : Value) (rs : List (Int × Int × Int)) (xs : List Int) (hR : RdF encR 3 w.heap.size w o rs) (hX : RdF encI 1 w.heap.size w v xs) (hv : VT m rs) (hx : Tidal xs) : Ret Try.prog 50 [.agg #[.int .i64 m, o], v].toArray w (.agg (encP (meanQ m rs (offT rs (tideV xs)))).toArray) := by
  refine Ret.of mixed tyTab Try.func50 rfl rfl ?_
  replace hR : RdF encR 3 (fnCx mixed tyTab Try.f50.ntmps w).B (fnCx mixed tyTab Try.f50.ntmps w).w0 o rs := hR
  replace hX : RdF encI 1 (fnCx mixed tyTab Try.f50.ntmps w).B (fnCx mixed tyTab Try.f50.ntmps w).w0 v xs := hX
  have hn := hv.n
  have ho := hR.sl.oc
  have hta := tide_ab hv hx
  refine W.sreg ?_
  refine WO.boxA rfl rfl (fun b1 hb1 => ?_)
  refine WO.alloc rfl rfl rfl (fun b2 hb2 => ?_)
  refine WO.nil ?_
  refine W.sreg ?_
  refine WO.p rfl rfl ?_
  refine WO.nil ?_
  refine W.seq ?_
  refine W.sreg ?_
  refine WO.p rfl rfl ?_
  refine WO.nil ?_
  refine W.block ?_
  refine W.chg (owNil (enc := encI) (e := 2) (sz := 1)) ?_
  refine W.loop2 (fun (i : Nat) (l : Value) => i ≤ rs.length)
    (fun (i : Nat) (l : Value) => [(6, .int .i64 (i : Int)), (5, l), (4, .pointer (some ⟨b2, 0, none⟩)), (2, .pointer (some ⟨b1, 0, none⟩)), (1, v)])
    (fun (i : Nat) (l : Value) => [pt b1 (.cells #[.int .i64 m, o] 24 (0, 0)), pt b2 (.cells #[.int .i64 0, .int .i64 0] 36 (0, 0)), OwE encI 2 1 l ((runL rs (tmT rs (tideV xs))).take i)])
    (fun (i : Nat) (l : Value) => rs.length - i) 0 (.slice none 0 0)
    (by omega) ⟨rfl, rfl, rfl, rfl, rfl, trivial⟩ (by repeat (first | exact Sub.nil | refine Sub.cons (by repeat (first | exact Pick.head | apply Pick.tail)) ?_)) ?_
  rintro i l hi
  refine W.seq ?_
  refine W.sreg ?_
  refine WO.p rfl rfl (WO.fieldL rfl rfl rfl (WO.load rfl rfl (Cell.own Pick.head rfl) rfl ?_))
  refine' WO.len (n := _) rfl rfl ?hs rfl ?_
  case hs => (first | exact hR.sl)
  refine WO.p rfl rfl ?_
  refine WO.nil ?_
  refine W.cond_bl rfl (fun c1 => ?_) (fun c1 => ?_)
  · first
    | (exfalso; omega)
    | (refine W.skip ?_
       refine W.seq ?_
       refine W.block ?_
       have hru := hv.run (i := i) (by omega)
       refine W.region ?_
       refine WO.p rfl rfl (WO.p rfl rfl (WO.fieldL rfl rfl rfl (WO.load rfl rfl (Cell.own Pick.head rfl) rfl (WO.p rfl rfl ?_))))
       refine' WO.indexAddr (n := _) (i := _) rfl rfl rfl ?hs ?h1 rfl ?_
       case hs => (first | exact hR.sl)
       case h1 => (first | omega | (simp; omega))
       refine WO.field0 rfl rfl rfl ?_
       refine' WO.load (v := _) rfl rfl ?hc rfl ?_
       case hc => (first | (refine hR.cell0 ?_ r0 ?_ <;> first | rfl | omega))
       refine WO.callR (r := .int .i64 (tmT rs (tideV xs) (i : Int))) rfl Try.call62 (fun L w hi => ref_Tide w v xs (tm rs i) (hX.later hi) hx ⟨hru.1, hru.2.1⟩) rfl ?_
       refine' WO.buildSl (cs := _) rfl rfl rfl rfl ?hf rfl rfl ?hl rfl (fun v3 => ?_)
       case hf => (conv => lhs; simp [-List.getD_eq_getElem?_getD, fillL, vcl, wrl, TTab.pl?.lget']) <;> rfl
       case hl => rfl
       refine' WO.appendE (enc := encI) (m := 1) (ys := [tmT rs (tideV xs) (i : Int)]) encI_ok rfl rfl rfl rfl rfl (by repeat (first | exact Pick.head | apply Pick.tail)) (isSl_lit (by omega) (fun _ => ⟨_, _, rfl⟩)) (by omega) rfl (OwC.cells .head) (by rw [List.length_take, runL_len]; omega) (by rw [List.length_take, runL_len]; omega) rfl (fun g c => ?_)
       rw [runL_take (g := tmT rs (tideV xs)) (by omega)]
       refine WO.p rfl rfl ?_
       refine WO.nil ?_
       refine W.region ?_
       refine WO.p rfl rfl (WO.ar rfl rfl rfl (by (first | (unfold in64; omega) | (unfold in64; omega))) rfl (WO.p rfl rfl ?_))
       refine WO.nil ?_
       refine' ⟨i + 1, _, ?hp, ?hmu, ⟨rfl, rfl, rfl, rfl, rfl, trivial⟩, ?hS⟩
       case hS => repeat (first | exact Sub.nil | refine Sub.cons (by repeat (first | exact Pick.head | apply Pick.tail)) ?_)
       case hp => omega
       case hmu => omega)
  · first
    | (exfalso; omega)
    | (refine W.exit (blk_same ?_)
       refine W.seq ?_
       obtain rfl : i = rs.length := by omega
       rw [runL_all]
       refine W.drawD 3 [.b 0 [], .r 1 [], .c 2 []] [] (A0 := []) (Sub.refl _) (by kernel_rfl) ?_ ?_
       · exact (ALok.b (ALok.r (ALok.c ALok.nil)))
       refine' DT.b rfl rfl rfl ?hq ?_
       case hq =>
         refine WO.loadA rfl rfl (Cells.own Pick.head) rfl rfl ?_
         exact WO.nil ⟨rfl, rfl⟩
       refine' DT.r rfl rfl rfl ?hq ?_
       case hq =>
         refine WO.p rfl rfl ?_
         exact WO.nil ⟨rfl, rfl⟩
       refine DT.c [_, _, _] rfl rfl rfl rfl ?_
       refine WO.call (Post := fun r Hq => Hq = [OwE encI 2 1 r (turnL (runL rs (tmT rs (tideV xs))))]) rfl Try.call63 (fun L w hi => ref_Turned w l _ (RdF.of_ow (e := 2) encI_ok (by repeat (first | exact Pick.head | apply Pick.tail)) hi) (by rw [runL_len]; omega) (fun x hx => by obtain ⟨i, hi, rfl⟩ := runL_mem hx; unfold tmT; rw [Int.toNat_natCast]; exact hta i hi)) rfl ?_
       rintro tv _ rfl
       refine WO.nil ⟨_, [_], rfl, rfl, (Keep.r (Keep.b Keep.nil)), ?_⟩
       refine DT.nil [_, _, _, _] rfl ?_
       refine WO.callR rfl Try.call55 (fun L w hi => ref_mean w m o tv rs _ (hR.later hi) (RdF.of_ow (e := 2) (xs := turnL (runL rs (tmT rs (tideV xs)))) encI_ok (by repeat (first | exact Pick.head | apply Pick.tail)) hi) hv (by rw [turnL_len, runL_len]) (turn_ab hta)) rfl ?_
       refine WO.storeA rfl rfl rfl rfl (Pick.tail (Pick.tail (Pick.head))) rfl rfl ?_
       refine WO.nil ?_
       refine W.ret ?_
       exact fin.ret (Res.one rfl (RV.cell rfl rfl rfl (Cells.own Pick.head))) (by rw [turn_off]))
end Go.Proofs.Ytkiaepcklbidgaa
namespace Go.Proofs.Ytkiaepcklbidgaa
open Go Go.TH
attribute [local irreducible] W WO pt
set_option maxRecDepth 10000
set_option maxHeartbeats 1000000
theorem ref_Mean (w : World) (m : Int) (o v : Value) (rs : List (Int × Int × Int)) (xs : List Int) (hR : RdF encR 3 w.heap.size w o rs) (hX : RdF encI 1 w.heap.size w v xs) : Ret Try.prog 23 [.agg #[.int .i64 m, o], v].toArray w (meanR m rs xs) := by
  refine Ret.of mixed tyTab Try.func23 rfl rfl ?_
  replace hR : RdF encR 3 (fnCx mixed tyTab Try.f23.ntmps w).B (fnCx mixed tyTab Try.f23.ntmps w).w0 o rs := hR
  replace hX : RdF encI 1 (fnCx mixed tyTab Try.f23.ntmps w).B (fnCx mixed tyTab Try.f23.ntmps w).w0 v xs := hX
  have ho := hR.sl.oc
  have hle := hX.sl.le
  refine W.sreg ?_
  refine WO.boxA rfl rfl (fun b1 hb1 => ?_)
  refine WO.alloc rfl rfl rfl (fun b2 hb2 => ?_)
  refine WO.p rfl rfl ?_
  refine WO.nil ?_
  refine W.seq ?_
  refine W.sreg ?_
  refine WO.loadA rfl rfl (Cells.own (Pick.tail (Pick.head))) rfl rfl ?_
  refine WO.callR (r := .int .i64 (chkT m rs)) rfl Try.call20 (fun L w hi => ref_CheckTest w m _ rs (hR.later hi)) rfl ?_
  refine WO.p rfl rfl ?_
  refine WO.nil ?_
  refine W.cond_bl rfl (fun c1 => ?_) (fun c1 => ?_)
  · first
    | (exfalso; omega)
    | (refine W.sreg ?_
       refine' WO.build (cs := _) rfl rfl rfl ?hf rfl ?_
       case hf => (conv => lhs; simp [-List.getD_eq_getElem?_getD, fillL, vcl, wrl, TTab.pl?.lget']) <;> rfl
       refine WO.loadA rfl rfl (Cells.own (Pick.tail (Pick.head))) rfl rfl ?_
       refine WO.callR (r := .int .i64 (chkT m rs)) rfl Try.call20 (fun L w hi => ref_CheckTest w m _ rs (hR.later hi)) rfl ?_
       refine WO.storeA rfl rfl rfl rfl Pick.head rfl rfl (WO.p rfl rfl ?_)
       refine WO.nil ?_
       refine W.ret ?_
       refine fin.ret (Res.two rfl (RV.cell rfl rfl rfl (Cells.own Pick.head)) (RV.tmp rfl)) ?_
       first | exact meanR_1 (by assumption) | exact meanR_15 (by assumption) (by omega) | exact meanR_3 (i := i) (by assumption) (by omega) (by omega) (by assumption) | exact meanR_0 (by assumption) (by omega) hin')
  · first
    | (exfalso; omega)
    | (refine W.skip ?_
       refine W.seq ?_
       refine W.sreg ?_
       refine WO.p rfl rfl ?_
       refine' WO.len (n := _) rfl rfl ?hs rfl ?_
       case hs => (first | exact hX.sl | exact hR.sl)
       refine WO.fieldL rfl rfl rfl (WO.load rfl rfl (Cell.own (Pick.tail (Pick.head)) rfl) rfl ?_)
       refine' WO.len (n := _) rfl rfl ?hs rfl ?_
       case hs => (first | exact hX.sl | exact hR.sl)
       refine WO.p rfl rfl ?_
       refine WO.nil ?_
       refine W.cond_bl rfl (fun c2 => ?_) (fun c2 => ?_)
       · first
         | (exfalso; omega)
         | (refine W.sreg ?_
            refine' WO.build (cs := _) rfl rfl rfl ?hf rfl ?_
            case hf => (conv => lhs; simp [-List.getD_eq_getElem?_getD, fillL, vcl, wrl, TTab.pl?.lget']) <;> rfl
            refine WO.storeA rfl rfl rfl rfl Pick.head rfl rfl (WO.p rfl rfl ?_)
            refine WO.nil ?_
            refine W.ret ?_
            refine fin.ret (Res.two rfl (RV.cell rfl rfl rfl (Cells.own Pick.head)) (RV.tmp rfl)) ?_
            first | exact meanR_1 (by assumption) | exact meanR_15 (by assumption) (by omega) | exact meanR_3 (i := i) (by assumption) (by omega) (by omega) (by assumption) | exact meanR_0 (by assumption) (by omega) hin')
       · first
         | (exfalso; omega)
         | (refine W.skip ?_
            refine W.seq ?_
            refine W.sreg ?_
            refine WO.p rfl rfl ?_
            refine WO.nil ?_
            refine W.block ?_
            refine W.loop (fun (i : Nat) => i ≤ xs.length ∧ inTo rs xs i)
              (fun (i : Nat) => [(6, .int .i64 (i : Int)), (4, .pointer (some ⟨b2, 0, none⟩)), (2, .pointer (some ⟨b1, 0, none⟩)), (1, v)])
              (fun (i : Nat) => [pt b1 (.cells #[.int .i64 m, o] 24 (0, 0)), pt b2 (.cells #[.int .i64 0, .int .i64 0] 36 (0, 0))])
              (fun (i : Nat) => xs.length - i) 0
              (by exact ⟨by omega, fun j hj => by omega⟩) ⟨rfl, rfl, rfl, rfl, trivial⟩ (by repeat (first | exact Sub.nil | refine Sub.cons (by repeat (first | exact Pick.head | apply Pick.tail)) ?_)) ?_
            rintro i ⟨hi, hin⟩
            refine W.seq ?_
            refine W.sreg ?_
            refine WO.p rfl rfl (WO.p rfl rfl ?_)
            refine' WO.len (n := _) rfl rfl ?hs rfl ?_
            case hs => (first | exact hX.sl | exact hR.sl)
            refine WO.p rfl rfl ?_
            refine WO.nil ?_
            refine W.cond_bl rfl (fun c3 => ?_) (fun c3 => ?_)
            · first
              | (exfalso; omega)
              | (refine W.skip ?_
                 refine W.seq ?_
                 refine W.block ?_
                 refine W.seq ?_
                 refine W.drawD 18 [.r 0 [], .r 1 [], .r 2 [], .b 3 [], .r 4 [], .b 5 [], .r 6 [], .r 7 [], .r 8 [], .r 9 [], .b 10 [], .r 11 [], .b 12 [], .r 13 [], .r 14 [], .r 15 [], .r 16 [], .b 17 []] [] (A0 := []) (Sub.refl _) (by kernel_rfl) ?_ ?_
                 · exact (ALok.r (ALok.r (ALok.r (ALok.b (ALok.r (ALok.b (ALok.r (ALok.r (ALok.r (ALok.r (ALok.b (ALok.r (ALok.b (ALok.r (ALok.r (ALok.r (ALok.r (ALok.b ALok.nil))))))))))))))))))
                 refine' DT.r rfl rfl rfl ?hq ?_
                 case hq =>
                   refine WO.p rfl rfl ?_
                   exact WO.nil ⟨rfl, rfl⟩
                 refine' DT.r rfl rfl rfl ?hq ?_
                 case hq =>
                   refine WO.p rfl rfl ?_
                   exact WO.nil ⟨rfl, rfl⟩
                 refine' DT.r rfl rfl rfl ?hq ?_
                 case hq =>
                   refine' WO.indexAddr (n := _) (i := _) rfl rfl rfl ?hs ?h1 rfl ?_
                   case hs => (first | exact hX.sl | exact hR.sl)
                   case h1 => (first | omega | (simp; omega))
                   exact WO.nil ⟨rfl, rfl⟩
                 refine' DT.b rfl rfl rfl ?hq ?_
                 case hq =>
                   refine' WO.load (v := _) rfl rfl ?hc rfl ?_
                   case hc => (first | (refine hX.cell0 ?_ 0 ?_ <;> first | rfl | omega) | (refine hR.cellAt ?_ r0 ?_ <;> first | rfl | omega) | (refine RdF.cellAt2 hR ?_ r0 ?_ <;> first | rfl | omega))
                   exact WO.nil ⟨rfl, rfl⟩
                 refine' DT.r rfl rfl rfl ?hq ?_
                 case hq =>
                   refine WO.fieldL rfl rfl rfl ?_
                   exact WO.nil ⟨rfl, rfl⟩
                 refine' DT.b rfl rfl rfl ?hq ?_
                 case hq =>
                   refine WO.load rfl rfl (Cell.own Pick.head rfl) rfl ?_
                   exact WO.nil ⟨rfl, rfl⟩
                 refine' DT.r rfl rfl rfl ?hq ?_
                 case hq =>
                   refine WO.p rfl rfl ?_
                   exact WO.nil ⟨rfl, rfl⟩
                 refine' DT.r rfl rfl rfl ?hq ?_
                 case hq =>
                   refine' WO.indexAddr (n := _) (i := _) rfl rfl rfl ?hs ?h1 rfl ?_
                   case hs => (first | exact hX.sl | exact hR.sl)
                   case h1 => (first | omega | (simp; omega))
                   exact WO.nil ⟨rfl, rfl⟩
                 refine' DT.r rfl rfl rfl ?hq ?_
                 case hq =>
                   refine WO.field rfl rfl rfl ?_
                   exact WO.nil ⟨rfl, rfl⟩
                 refine' DT.r rfl rfl rfl ?hq ?_
                 case hq =>
                   refine WO.field0 rfl rfl rfl ?_
                   exact WO.nil ⟨rfl, rfl⟩
                 refine' DT.b rfl rfl rfl ?hq ?_
                 case hq =>
                   refine' WO.load (v := _) rfl rfl ?hc rfl ?_
                   case hc => (first | (refine hX.cell0 ?_ 0 ?_ <;> first | rfl | omega) | (refine hR.cellAt ?_ r0 ?_ <;> first | rfl | omega) | (refine RdF.cellAt2 hR ?_ r0 ?_ <;> first | rfl | omega))
                   exact WO.nil ⟨rfl, rfl⟩
                 refine' DT.r rfl rfl rfl ?hq ?_
                 case hq =>
                   refine WO.fieldL rfl rfl rfl ?_
                   exact WO.nil ⟨rfl, rfl⟩
                 refine' DT.b rfl rfl rfl ?hq ?_
                 case hq =>
                   refine WO.load rfl rfl (Cell.own Pick.head rfl) rfl ?_
                   exact WO.nil ⟨rfl, rfl⟩
                 refine' DT.r rfl rfl rfl ?hq ?_
                 case hq =>
                   refine WO.p rfl rfl ?_
                   exact WO.nil ⟨rfl, rfl⟩
                 refine' DT.r rfl rfl rfl ?hq ?_
                 case hq =>
                   refine' WO.indexAddr (n := _) (i := _) rfl rfl rfl ?hs ?h1 rfl ?_
                   case hs => (first | exact hX.sl | exact hR.sl)
                   case h1 => (first | omega | (simp; omega))
                   exact WO.nil ⟨rfl, rfl⟩
                 refine' DT.r rfl rfl rfl ?hq ?_
                 case hq =>
                   refine WO.field rfl rfl rfl ?_
                   exact WO.nil ⟨rfl, rfl⟩
                 refine' DT.r rfl rfl rfl ?hq ?_
                 case hq =>
                   refine WO.field rfl rfl rfl ?_
                   exact WO.nil ⟨rfl, rfl⟩
                 refine' DT.b rfl rfl rfl ?hq ?_
                 case hq =>
                   refine' WO.load (v := _) rfl rfl ?hc rfl ?_
                   case hc => (first | (refine hX.cell0 ?_ 0 ?_ <;> first | rfl | omega) | (refine hR.cellAt ?_ r0 ?_ <;> first | rfl | omega) | (refine RdF.cellAt2 hR ?_ r0 ?_ <;> first | rfl | omega))
                   exact WO.nil ⟨rfl, rfl⟩
                 refine DT.nil [_, _] rfl ?_
                 refine WO.callR (r := .bool (bl ((rs.getD i r0).2.1 ≤ xs.getD i 0 ∧ xs.getD i 0 ≤ (rs.getD i r0).2.2))) rfl Try.call52 (fun L w hi => ref_between w _ _ _) rfl ?_
                 refine WO.p rfl rfl ?_
                 refine WO.nil ?_
                 refine W.cond_nbl rfl (fun c4 => ?_) (fun c4 => ?_)
                 · first
                   | (exfalso; omega)
                   | (refine W.sreg ?_
                      refine' WO.build (cs := _) rfl rfl rfl ?hf rfl ?_
                      case hf => (conv => lhs; simp [-List.getD_eq_getElem?_getD, fillL, vcl, wrl, TTab.pl?.lget']) <;> rfl
                      refine WO.storeA rfl rfl rfl rfl (Pick.tail (Pick.head)) rfl rfl (WO.p rfl rfl ?_)
                      refine WO.nil ?_
                      refine W.ret ?_
                      refine fin.ret (Res.two rfl (RV.cell rfl rfl rfl (Cells.own Pick.head)) (RV.tmp rfl)) ?_
                      first | exact meanR_1 (by assumption) | exact meanR_15 (by assumption) (by omega) | exact meanR_3 (i := i) (by assumption) (by omega) (by omega) (by assumption) | exact meanR_0 (by assumption) (by omega) hin')
                 · first
                   | (exfalso; omega)
                   | (refine W.skip ?_
                      refine W.region ?_
                      refine WO.p rfl rfl (WO.ar rfl rfl rfl (by (first | (unfold in64; omega) | (unfold in64; omega))) rfl (WO.p rfl rfl ?_))
                      refine WO.nil ?_
                      refine' ⟨i + 1, ?hp, ?hmu, ⟨rfl, rfl, rfl, rfl, trivial⟩, ?hS⟩
                      case hS => repeat (first | exact Sub.nil | refine Sub.cons (by repeat (first | exact Pick.head | apply Pick.tail)) ?_)
                      case hp => exact ⟨by omega, inTo_succ hin (by omega)⟩
                      case hmu => omega))
            · first
              | (exfalso; omega)
              | (refine W.exit (blk_same ?_)
                 have hv : VT m rs := VT.of (by omega)
                 obtain rfl : i = xs.length := by omega
                 have hin' : inTo rs xs rs.length := fun j hj => hin j (by omega)
                 refine W.sreg ?_
                 refine WO.loadA rfl rfl (Cells.own Pick.head) rfl rfl (WO.p rfl rfl ?_)
                 refine WO.callR rfl Try.call55 (fun L w hi => ref_mean w m o v rs xs (hR.later hi) (hX.later hi) hv (by omega) (gX_ab hv hin')) rfl ?_
                 refine WO.storeA rfl rfl rfl rfl (Pick.tail (Pick.head)) rfl rfl (WO.p rfl rfl ?_)
                 refine WO.nil ?_
                 refine W.ret ?_
                 refine fin.ret (Res.two rfl (RV.cell rfl rfl rfl (Cells.own Pick.head)) (RV.tmp rfl)) ?_
                 first | exact meanR_1 (by assumption) | exact meanR_15 (by assumption) (by omega) | exact meanR_3 (i := i) (by assumption) (by omega) (by omega) (by assumption) | exact meanR_0 (by assumption) (by omega) hin')))
theorem ref_Span (w : World) (m : Int) (o : Value) (rs : List (Int × Int × Int)) (hR : RdF encR 3 w.heap.size w o rs) : Ret Try.prog 25 [.agg #[.int .i64 m, o]].toArray w (spanR m rs) := by
  refine Ret.of mixed tyTab Try.func25 rfl rfl ?_
  replace hR : RdF encR 3 (fnCx mixed tyTab Try.f25.ntmps w).B (fnCx mixed tyTab Try.f25.ntmps w).w0 o rs := hR
  have ho := hR.sl.oc
  refine W.sreg ?_
  refine WO.boxA rfl rfl (fun b1 hb1 => ?_)
  refine WO.alloc rfl rfl rfl (fun b2 hb2 => ?_)
  refine WO.p rfl rfl ?_
  refine WO.nil ?_
  refine W.seq ?_
  refine W.sreg ?_
  refine WO.loadA rfl rfl (Cells.own (Pick.tail (Pick.head))) rfl rfl ?_
  refine WO.callR (r := .int .i64 (chkT m rs)) rfl Try.call20 (fun L w hi => ref_CheckTest w m _ rs (hR.later hi)) rfl ?_
  refine WO.p rfl rfl ?_
  refine WO.nil ?_
  refine W.cond_bl rfl (fun c1 => ?_) (fun c1 => ?_)
  · first
    | (exfalso; omega)
    | (refine W.sreg ?_
       refine' WO.build (cs := _) rfl rfl rfl ?hf rfl ?_
       case hf => (conv => lhs; simp [-List.getD_eq_getElem?_getD, fillL, vcl, wrl, TTab.pl?.lget']) <;> rfl
       refine WO.loadA rfl rfl (Cells.own (Pick.tail (Pick.head))) rfl rfl ?_
       refine WO.callR (r := .int .i64 (chkT m rs)) rfl Try.call20 (fun L w hi => ref_CheckTest w m _ rs (hR.later hi)) rfl ?_
       refine WO.storeA rfl rfl rfl rfl Pick.head rfl rfl (WO.p rfl rfl ?_)
       refine WO.nil ?_
       refine W.ret ?_
       refine fin.ret (Res.two rfl (RV.cell rfl rfl rfl (Cells.own Pick.head)) (RV.tmp rfl)) ?_
       first | exact spanR_1 (by assumption) | exact spanR_0 hv.to)
  · first
    | (exfalso; omega)
    | (refine W.skip ?_
       have hv : VT m rs := VT.of (by omega)
       have hn := hv.n
       refine W.sreg ?_
       refine WO.p rfl rfl (WO.p rfl rfl ?_)
       refine WO.nil ?_
       refine W.seq ?_
       refine W.sreg ?_
       refine WO.p rfl rfl ?_
       refine WO.nil ?_
       refine W.block ?_
       refine W.chg (owNil (enc := encI) (e := 2) (sz := 1)) ?_
       refine W.chg (owNil (enc := encI) (e := 2) (sz := 1)) ?_
       refine W.loop3 (fun (i : Nat) (l : Value) (h : Value) => i ≤ rs.length)
         (fun (i : Nat) (l : Value) (h : Value) => [(6, .int .i64 (i : Int)), (5, h), (4, l), (2, .pointer (some ⟨b2, 0, none⟩)), (1, .pointer (some ⟨b1, 0, none⟩))])
         (fun (i : Nat) (l : Value) (h : Value) => [pt b1 (.cells #[.int .i64 m, o] 24 (0, 0)), pt b2 (.cells #[.int .i64 0, .int .i64 0, .int .i64 0, .int .i64 0] 40 (0, 0)), OwE encI 2 1 l ((runL rs (loT rs)).take i), OwE encI 2 1 h ((runL rs (hiT rs)).take i)])
         (fun (i : Nat) (l : Value) (h : Value) => rs.length - i) 0 (.slice none 0 0) (.slice none 0 0)
         (by omega) ⟨rfl, rfl, rfl, rfl, rfl, trivial⟩ (by repeat (first | exact Sub.nil | refine Sub.cons (by repeat (first | exact Pick.head | apply Pick.tail)) ?_)) ?_
       rintro i l h hi
       refine W.seq ?_
       refine W.sreg ?_
       refine WO.p rfl rfl (WO.fieldL rfl rfl rfl (WO.load rfl rfl (Cell.own Pick.head rfl) rfl ?_))
       refine' WO.len (n := _) rfl rfl ?hs rfl ?_
       case hs => (first | exact hR.sl)
       refine WO.p rfl rfl ?_
       refine WO.nil ?_
       refine W.cond_bl rfl (fun c2 => ?_) (fun c2 => ?_)
       · first
         | (exfalso; omega)
         | (refine W.skip ?_
            refine W.seq ?_
            refine W.block ?_
            refine W.sreg ?_
            refine WO.p rfl rfl (WO.fieldL rfl rfl rfl (WO.load rfl rfl (Cell.own Pick.head rfl) rfl (WO.p rfl rfl ?_)))
            refine' WO.indexAddr (n := _) (i := _) rfl rfl rfl ?hs ?h1 rfl ?_
            case hs => (first | exact hR.sl)
            case h1 => (first | omega | (simp; omega))
            refine WO.field rfl rfl rfl (WO.field0 rfl rfl rfl ?_)
            refine' WO.load (v := _) rfl rfl ?hc rfl ?_
            case hc => (first | (refine hR.cellAt ?_ r0 ?_ <;> first | rfl | omega))
            refine' WO.buildSl (cs := _) rfl rfl rfl rfl ?hf rfl rfl ?hl rfl (fun v3 => ?_)
            case hf => (conv => lhs; simp [-List.getD_eq_getElem?_getD, fillL, vcl, wrl, TTab.pl?.lget']) <;> rfl
            case hl => rfl
            refine' WO.appendE (enc := encI) (xs := (runL rs (loT rs)).take i) (m := 1) (ys := [loT rs (i : Int)]) encI_ok rfl rfl rfl rfl rfl (by repeat (first | exact Pick.head | apply Pick.tail)) (isSl_lit (by omega) (fun _ => ⟨_, _, rfl⟩)) (by omega) rfl (OwC.cells .head) (by rw [List.length_take, runL_len]; omega) (by rw [List.length_take, runL_len]; omega) rfl (fun g c => ?_)
            rw [runL_take (g := loT rs) (by omega)]
            refine WO.p rfl rfl ?_
            refine WO.nil ?_
            refine W.region ?_
            refine WO.p rfl rfl (WO.fieldL rfl rfl rfl (WO.load rfl rfl (Cell.own (Pick.tail (Pick.tail (Pick.head))) rfl) rfl (WO.p rfl rfl ?_)))
            refine' WO.indexAddr (n := _) (i := _) rfl rfl rfl ?hs ?h1 rfl ?_
            case hs => (first | exact hR.sl)
            case h1 => (first | omega | (simp; omega))
            refine WO.field rfl rfl rfl (WO.field rfl rfl rfl ?_)
            refine' WO.load (v := _) rfl rfl ?hc rfl ?_
            case hc => (first | (refine RdF.cellAt2 hR ?_ r0 ?_ <;> first | rfl | omega))
            refine' WO.buildSl (cs := _) rfl rfl rfl rfl ?hf rfl rfl ?hl rfl (fun v4 => ?_)
            case hf => (conv => lhs; simp [-List.getD_eq_getElem?_getD, fillL, vcl, wrl, TTab.pl?.lget']) <;> rfl
            case hl => rfl
            refine' WO.appendE (enc := encI) (xs := (runL rs (hiT rs)).take i) (m := 1) (ys := [hiT rs (i : Int)]) encI_ok rfl rfl rfl rfl rfl (by repeat (first | exact Pick.head | apply Pick.tail)) (isSl_lit (by omega) (fun _ => ⟨_, _, rfl⟩)) (by omega) rfl (OwC.cells .head) (by rw [List.length_take, runL_len]; omega) (by rw [List.length_take, runL_len]; omega) rfl (fun g2 c2 => ?_)
            rw [runL_take (g := hiT rs) (by omega)]
            refine WO.p rfl rfl ?_
            refine WO.nil ?_
            refine W.region ?_
            refine WO.p rfl rfl (WO.ar rfl rfl rfl (by (first | (unfold in64; omega) | (unfold in64; omega))) rfl (WO.p rfl rfl ?_))
            refine WO.nil ?_
            refine' ⟨i + 1, _, _, ?hp, ?hmu, ⟨rfl, rfl, rfl, rfl, rfl, trivial⟩, ?hS⟩
            case hS => repeat (first | exact Sub.nil | refine Sub.cons (by repeat (first | exact Pick.head | apply Pick.tail)) ?_)
            case hp => omega
            case hmu => omega)
       · first
         | (exfalso; omega)
         | (refine W.exit (blk_same ?_)
            refine W.seq ?_
            obtain rfl : i = rs.length := by omega
            rw [runL_all, runL_all]
            refine W.drawD 5 [.b 0 [], .r 1 [], .f 2 [], .b 3 [], .r 4 []] [] (A0 := []) (Sub.refl _) (by kernel_rfl) ?_ ?_
            · exact (ALok.b (ALok.r (ALok.f (ALok.b (ALok.r ALok.nil)))))
            refine' DT.b rfl rfl rfl ?hq ?_
            case hq =>
              refine WO.loadA rfl rfl (Cells.own Pick.head) rfl rfl ?_
              exact WO.nil ⟨rfl, rfl⟩
            refine' DT.r rfl rfl rfl ?hq ?_
            case hq =>
              refine WO.p rfl rfl ?_
              exact WO.nil ⟨rfl, rfl⟩
            refine' DT.f [_, _, _, _] rfl rfl rfl rfl ?hq ?_
            case hq =>
              refine WO.callR (r := .agg (encP (meanQ m rs (loT rs))).toArray) rfl Try.call55 (fun L w hi => by have h := ref_mean w m o l rs (runL rs (loT rs)) (hR.later hi) (RdF.of_ow (e := 2) encI_ok (by repeat (first | exact Pick.head | apply Pick.tail)) hi) hv (runL_len _ _) (fun i hi => by rw [gX_at, runL_at hi]; exact loT_ab hv i hi); rw [runL_gX] at h; exact h) rfl ?_
              exact WO.nil ⟨rfl, rfl⟩
            refine' DT.b rfl rfl rfl ?hq ?_
            case hq =>
              refine WO.loadA rfl rfl (Cells.own Pick.head) rfl rfl ?_
              exact WO.nil ⟨rfl, rfl⟩
            refine' DT.r rfl rfl rfl ?hq ?_
            case hq =>
              refine WO.p rfl rfl ?_
              exact WO.nil ⟨rfl, rfl⟩
            refine DT.nil [_, _, _, _] rfl ?_
            refine WO.callR (r := .agg (encP (meanQ m rs (hiT rs))).toArray) rfl Try.call55 (fun L w hi => by have hh := ref_mean w m o h rs (runL rs (hiT rs)) (hR.later hi) (RdF.of_ow (e := 2) encI_ok (by repeat (first | exact Pick.head | apply Pick.tail)) hi) hv (runL_len _ _) (fun i hi => by rw [gX_at, runL_at hi]; exact hiT_ab hv i hi); rw [runL_gX] at hh; exact hh) rfl ?_
            refine' WO.build (cs := _) rfl rfl rfl ?hf rfl ?_
            case hf => (conv => lhs; simp [-List.getD_eq_getElem?_getD, fillL, vcl, wrl, TTab.pl?.lget']) <;> rfl
            refine WO.storeA rfl rfl rfl rfl (Pick.tail (Pick.head)) rfl rfl (WO.p rfl rfl ?_)
            refine WO.nil ?_
            refine W.ret ?_
            refine fin.ret (Res.two rfl (RV.cell rfl rfl rfl (Cells.own Pick.head)) (RV.tmp rfl)) ?_
            first | exact spanR_1 (by assumption) | exact spanR_0 hv.to))
end Go.Proofs.Ytkiaepcklbidgaa
namespace Go.Proofs.Ytkiaepcklbidgaa
open Go Go.TH
attribute [local irreducible] W WO pt
set_option maxRecDepth 10000
set_option maxHeartbeats 1000000
theorem ref_Off (w : World) (m : Int) (o v : Value) (rs : List (Int × Int × Int)) (xs : List Int) (hR : RdF encR 3 w.heap.size w o rs) (hX : RdF encI 1 w.heap.size w v xs) : Ret Try.prog 27 [.agg #[.int .i64 m, o], v].toArray w (offR m rs xs) := by
  refine Ret.of mixed tyTab Try.func27 rfl rfl ?_
  replace hR : RdF encR 3 (fnCx mixed tyTab Try.f27.ntmps w).B (fnCx mixed tyTab Try.f27.ntmps w).w0 o rs := hR
  replace hX : RdF encI 1 (fnCx mixed tyTab Try.f27.ntmps w).B (fnCx mixed tyTab Try.f27.ntmps w).w0 v xs := hX
  have ho := hR.sl.oc
  have hle := hX.sl.le
  refine W.sreg ?_
  refine WO.boxA rfl rfl (fun b1 hb1 => ?_)
  refine WO.alloc rfl rfl rfl (fun b2 hb2 => ?_)
  refine WO.p rfl rfl ?_
  refine WO.nil ?_
  refine W.seq ?_
  refine W.sreg ?_
  refine WO.loadA rfl rfl (Cells.own (Pick.tail (Pick.head))) rfl rfl ?_
  refine WO.callR (r := .int .i64 (chkT m rs)) rfl Try.call20 (fun L w hi => ref_CheckTest w m _ rs (hR.later hi)) rfl ?_
  refine WO.p rfl rfl ?_
  refine WO.nil ?_
  refine W.cond_bl rfl (fun c1 => ?_) (fun c1 => ?_)
  · first
    | (exfalso; omega)
    | (refine W.sreg ?_
       refine' WO.build (cs := _) rfl rfl rfl ?hf rfl ?_
       case hf => (conv => lhs; simp [-List.getD_eq_getElem?_getD, fillL, vcl, wrl, TTab.pl?.lget']) <;> rfl
       refine WO.loadA rfl rfl (Cells.own (Pick.tail (Pick.head))) rfl rfl ?_
       refine WO.callR (r := .int .i64 (chkT m rs)) rfl Try.call20 (fun L w hi => ref_CheckTest w m _ rs (hR.later hi)) rfl ?_
       refine WO.storeA rfl rfl rfl rfl Pick.head rfl rfl (WO.p rfl rfl ?_)
       refine WO.nil ?_
       refine W.ret ?_
       refine fin.ret (Res.two rfl (RV.cell rfl rfl rfl (Cells.own Pick.head)) (RV.tmp rfl)) ?_
       first | exact offR_1 (by assumption) | exact offR_6 (by assumption) (by omega) | exact offR_3 (by assumption) (by omega) (not_all_getD (i := i) (by omega) 0 (by assumption)) | exact offR_0 (by assumption) (by omega) hal)
  · first
    | (exfalso; omega)
    | (refine W.skip ?_
       refine W.seq ?_
       refine W.sreg ?_
       refine WO.p rfl rfl ?_
       refine' WO.len (n := _) rfl rfl ?hs rfl ?_
       case hs => (first | exact hX.sl | exact hR.sl)
       refine WO.p rfl rfl ?_
       refine WO.nil ?_
       refine W.cond_bl rfl (fun c2 => ?_) (fun c2 => ?_)
       · first
         | (exfalso; omega)
         | (refine W.sreg ?_
            refine' WO.build (cs := _) rfl rfl rfl ?hf rfl ?_
            case hf => (conv => lhs; simp [-List.getD_eq_getElem?_getD, fillL, vcl, wrl, TTab.pl?.lget']) <;> rfl
            refine WO.storeA rfl rfl rfl rfl Pick.head rfl rfl (WO.p rfl rfl ?_)
            refine WO.nil ?_
            refine W.ret ?_
            refine fin.ret (Res.two rfl (RV.cell rfl rfl rfl (Cells.own Pick.head)) (RV.tmp rfl)) ?_
            first | exact offR_1 (by assumption) | exact offR_6 (by assumption) (by omega) | exact offR_3 (by assumption) (by omega) (not_all_getD (i := i) (by omega) 0 (by assumption)) | exact offR_0 (by assumption) (by omega) hal)
       · first
         | (exfalso; omega)
         | (refine W.skip ?_
            refine W.seq ?_
            refine W.sreg ?_
            refine WO.p rfl rfl ?_
            refine WO.nil ?_
            refine W.block ?_
            refine W.loop (fun (i : Nat) => i ≤ xs.length ∧ ∀ x ∈ xs.take i, -20 ≤ x ∧ x ≤ 20)
              (fun (i : Nat) => [(6, .int .i64 (i : Int)), (4, .pointer (some ⟨b2, 0, none⟩)), (2, .pointer (some ⟨b1, 0, none⟩)), (1, v)])
              (fun (i : Nat) => [pt b1 (.cells #[.int .i64 m, o] 24 (0, 0)), pt b2 (.cells #[.int .i64 0, .int .i64 0] 36 (0, 0))])
              (fun (i : Nat) => xs.length - i) 0
              (by exact ⟨by omega, fun x hx => by simp at hx⟩) ⟨rfl, rfl, rfl, rfl, trivial⟩ (by repeat (first | exact Sub.nil | refine Sub.cons (by repeat (first | exact Pick.head | apply Pick.tail)) ?_)) ?_
            rintro i ⟨hi, hin⟩
            refine W.seq ?_
            refine W.sreg ?_
            refine WO.p rfl rfl (WO.p rfl rfl ?_)
            refine' WO.len (n := _) rfl rfl ?hs rfl ?_
            case hs => (first | exact hX.sl | exact hR.sl)
            refine WO.p rfl rfl ?_
            refine WO.nil ?_
            refine W.cond_bl rfl (fun c3 => ?_) (fun c3 => ?_)
            · first
              | (exfalso; omega)
              | (refine W.skip ?_
                 refine W.seq ?_
                 refine W.block ?_
                 refine W.sreg ?_
                 refine WO.p rfl rfl (WO.p rfl rfl ?_)
                 refine' WO.indexAddr (n := _) (i := _) rfl rfl rfl ?hs ?h1 rfl ?_
                 case hs => (first | exact hX.sl | exact hR.sl)
                 case h1 => (first | omega | (simp; omega))
                 refine' WO.load (v := _) rfl rfl ?hc rfl ?_
                 case hc => (first | (refine hX.cell0 ?_ 0 ?_ <;> first | rfl | omega))
                 refine WO.callR (r := .bool (bl (-20 ≤ xs.getD i 0 ∧ xs.getD i 0 ≤ 20))) rfl Try.call52 (fun L w hi => ref_between w _ _ _) rfl ?_
                 refine WO.p rfl rfl ?_
                 refine WO.nil ?_
                 refine W.cond_nbl rfl (fun c4 => ?_) (fun c4 => ?_)
                 · first
                   | (exfalso; omega)
                   | (refine W.sreg ?_
                      refine' WO.build (cs := _) rfl rfl rfl ?hf rfl ?_
                      case hf => (conv => lhs; simp [-List.getD_eq_getElem?_getD, fillL, vcl, wrl, TTab.pl?.lget']) <;> rfl
                      refine WO.storeA rfl rfl rfl rfl (Pick.tail (Pick.head)) rfl rfl (WO.p rfl rfl ?_)
                      refine WO.nil ?_
                      refine W.ret ?_
                      refine fin.ret (Res.two rfl (RV.cell rfl rfl rfl (Cells.own Pick.head)) (RV.tmp rfl)) ?_
                      first | exact offR_1 (by assumption) | exact offR_6 (by assumption) (by omega) | exact offR_3 (by assumption) (by omega) (not_all_getD (i := i) (by omega) 0 (by assumption)) | exact offR_0 (by assumption) (by omega) hal)
                 · first
                   | (exfalso; omega)
                   | (refine W.skip ?_
                      refine W.region ?_
                      refine WO.p rfl rfl (WO.ar rfl rfl rfl (by (first | (unfold in64; omega) | (unfold in64; omega))) rfl (WO.p rfl rfl ?_))
                      refine WO.nil ?_
                      refine' ⟨i + 1, ?hp, ?hmu, ⟨rfl, rfl, rfl, rfl, trivial⟩, ?hS⟩
                      case hS => repeat (first | exact Sub.nil | refine Sub.cons (by repeat (first | exact Pick.head | apply Pick.tail)) ?_)
                      case hp => exact ⟨by omega, all_succ (by omega) 0 hin (by omega)⟩
                      case hmu => omega))
            · first
              | (exfalso; omega)
              | (refine W.exit (blk_same ?_)
                 have hv : VT m rs := VT.of (by omega)
                 obtain rfl : i = xs.length := by omega
                 have hal : allIn xs := fun x hx => by rw [List.take_length] at hin; exact hin x hx
                 refine W.sreg ?_
                 refine WO.loadA rfl rfl (Cells.own Pick.head) rfl rfl (WO.p rfl rfl ?_)
                 refine WO.callR rfl Try.call50 (fun L w hi => ref_off w m o v rs xs (hR.later hi) (hX.later hi) hv ⟨by omega, hal⟩) rfl ?_
                 refine WO.storeA rfl rfl rfl rfl (Pick.tail (Pick.head)) rfl rfl (WO.p rfl rfl ?_)
                 refine WO.nil ?_
                 refine W.ret ?_
                 refine fin.ret (Res.two rfl (RV.cell rfl rfl rfl (Cells.own Pick.head)) (RV.tmp rfl)) ?_
                 first | exact offR_1 (by assumption) | exact offR_6 (by assumption) (by omega) | exact offR_3 (by assumption) (by omega) (not_all_getD (i := i) (by omega) 0 (by assumption)) | exact offR_0 (by assumption) (by omega) hal)))
/-- the tide that is a power -/
def oneT (d : Nat) : List Int := (List.replicate (d + 1) 0).set d 1
theorem evP_zeros (t : Int) : ∀ d, evP t (List.replicate d 0 ++ [1]) = pw t d
  | 0 => by show 1 + 0 * t = 1; omega
  | d + 1 => by
    rw [List.replicate_succ, List.cons_append]
    show 0 + evP t (List.replicate d 0 ++ [1]) * t = pw t d * t
    rw [evP_zeros t d]; omega
theorem oneT_eq (d : Nat) : oneT d = List.replicate d 0 ++ [1] := by
  unfold oneT
  rw [List.replicate_succ', List.set_append_right _ _ (by simp)]
  simp
theorem oneT_val (d : Nat) : tideV (oneT d) = fun t => pw t d := by
  funext t; rw [tideV_ev, oneT_eq, evP_zeros]
theorem oneT_tidal {d : Nat} (hd : d < 5) : Tidal (oneT d) := by
  rw [oneT_eq]
  refine ⟨by simp; omega, fun x hx => ?_⟩
  rcases List.mem_append.1 hx with h | h
  · have := List.eq_of_mem_replicate h; omega
  · simp at h; omega
theorem ref_Cancels (w : World) (m : Int) (o : Value) (rs : List (Int × Int × Int)) (hR : RdF encR 3 w.heap.size w o rs) : Ret Try.prog 16 [.agg #[.int .i64 m, o]].toArray w (.tuple #[.int .i64 (canV m rs), .int .i64 (chkT m rs)]) := by
  refine Ret.of mixed tyTab Try.func16 rfl rfl ?_
  replace hR : RdF encR 3 (fnCx mixed tyTab Try.f16.ntmps w).B (fnCx mixed tyTab Try.f16.ntmps w).w0 o rs := hR
  have ho := hR.sl.oc
  refine W.sreg ?_
  refine WO.boxA rfl rfl (fun b1 hb1 => ?_)
  refine WO.p rfl rfl (WO.p rfl rfl ?_)
  refine WO.nil ?_
  refine W.seq ?_
  refine W.sreg ?_
  refine WO.loadA rfl rfl (Cells.own Pick.head) rfl rfl ?_
  refine WO.callR (r := .int .i64 (chkT m rs)) rfl Try.call20 (fun L w hi => ref_CheckTest w m _ rs (hR.later hi)) rfl ?_
  refine WO.p rfl rfl ?_
  refine WO.nil ?_
  refine W.cond_bl rfl (fun c1 => ?_) (fun c1 => ?_)
  · first
    | (exfalso; omega)
    | (refine W.sreg ?_
       refine WO.loadA rfl rfl (Cells.own Pick.head) rfl rfl ?_
       refine WO.callR (r := .int .i64 (chkT m rs)) rfl Try.call20 (fun L w hi => ref_CheckTest w m _ rs (hR.later hi)) rfl ?_
       refine WO.p rfl rfl (WO.p rfl rfl ?_)
       refine WO.nil ?_
       refine W.ret ?_
       refine fin.ret (Res.two rfl (RV.tmp rfl) (RV.tmp rfl)) ?_
       first | exact canR_1 (by assumption) | exact canR_0 hv (by omega) (by rw [hqp]; simpa using ‹_›) hal rfl | (exfalso; rw [hal dx (by omega)] at hdp; cases hdp))
  · first
    | (exfalso; omega)
    | (refine W.skip ?_
       refine W.seq ?_
       have hv : VT m rs := VT.of (by omega)
       have hn := hv.n
       obtain ⟨dx, hdx, hdp⟩ := offP_some hv
       refine W.sreg ?_
       refine WO.p rfl rfl ?_
       refine WO.nil ?_
       refine W.block ?_
       refine W.loop (fun (d : Nat) => d ≤ 5 ∧ ∀ k, k < d → offP m rs k = false)
         (fun (d : Nat) => [(4, .int .i64 (d : Int)), (1, .pointer (some ⟨b1, 0, none⟩))])
         (fun (d : Nat) => [pt b1 (.cells #[.int .i64 m, o] 24 (0, 0))])
         (fun (d : Nat) => 5 - d) 0
         (by exact ⟨by omega, fun k hk => by omega⟩) ⟨rfl, rfl, trivial⟩ (by repeat (first | exact Sub.nil | refine Sub.cons (by repeat (first | exact Pick.head | apply Pick.tail)) ?_)) ?_
       rintro d ⟨hd, hal⟩
       refine W.seq ?_
       refine W.sreg ?_
       refine WO.p rfl rfl (WO.p rfl rfl ?_)
       refine WO.nil ?_
       refine W.cond_bl rfl (fun c2 => ?_) (fun c2 => ?_)
       · first
         | (exfalso; omega)
         | (refine W.skip ?_
            refine W.seq ?_
            refine W.block ?_
            refine W.sreg ?_
            refine WO.p rfl rfl (WO.ar rfl rfl rfl (by (first | (unfold in64; omega) | (unfold in64; omega))) rfl ?_)
            refine WO.makeI (n := d + 1) rfl rfl rfl rfl (by omega) (by omega) rfl (fun b3 => ?_)
            refine WO.p rfl rfl ?_
            refine WO.nil ?_
            refine W.sreg ?_
            refine WO.p rfl rfl (WO.p rfl rfl ?_)
            refine' WO.indexAddr (n := _) (i := _) rfl rfl rfl ?hs ?h1 rfl ?_
            case hs => (first | exact isSl_lit (n := d + 1) (by omega) (fun _ => ⟨_, _, rfl⟩))
            case h1 => (first | omega | (simp; omega))
            refine WO.storeE (n := 1) (i := d) (xs := List.replicate (d + 1) 0) encI_ok rfl rfl rfl rfl (by repeat (first | exact Pick.head | apply Pick.tail)) (by rw [List.length_replicate]; omega) ?_
            refine WO.nil ?_
            obtain ⟨qn, qd, hq⟩ : ∃ a b, meanQ m rs (offT rs (fun t => pw t d)) = (a, b) := ⟨_, _, rfl⟩
            have hqp : offP m rs d = decide (qn ≠ 0) := by unfold offP; rw [hq]
            refine W.sreg ?_
            refine WO.loadA rfl rfl (Cells.own (Pick.tail (Pick.head))) rfl rfl (WO.p rfl rfl ?_)
            refine WO.callR (r := .agg #[.int .i64 qn, .int .i64 qd]) rfl Try.call50 (fun L w hi => by have h := ref_off w m o _ rs (oneT d) (hR.later hi) (RdF.of_ow (e := 2) encI_ok (by repeat (first | exact Pick.head | apply Pick.tail)) hi) hv (oneT_tidal (by omega)); rw [oneT_val, hq] at h; exact h) rfl ?_
            refine WO.field1 rfl rfl rfl rfl rfl ?_
            refine WO.p rfl rfl ?_
            refine WO.nil ?_
            refine W.cond_bl rfl (fun c3 => ?_) (fun c3 => ?_)
            · first
              | (exfalso; omega)
              | (refine W.sreg ?_
                 refine WO.p rfl rfl (WO.ar rfl rfl rfl (by (first | (unfold in64; omega) | (unfold in64; omega))) rfl (WO.p rfl rfl (WO.p rfl rfl ?_)))
                 refine WO.nil ?_
                 refine W.ret ?_
                 refine fin.ret (Res.two rfl (RV.tmp rfl) (RV.tmp rfl)) ?_
                 first | exact canR_1 (by assumption) | exact canR_0 hv (by omega) (by rw [hqp]; simpa using ‹_›) hal rfl | (exfalso; rw [hal dx (by omega)] at hdp; cases hdp))
            · first
              | (exfalso; omega)
              | (refine W.skip ?_
                 refine W.region ?_
                 refine WO.p rfl rfl (WO.ar rfl rfl rfl (by (first | (unfold in64; omega) | (unfold in64; omega))) rfl (WO.p rfl rfl ?_))
                 refine WO.nil ?_
                 refine' ⟨d + 1, ?hp, ?hmu, ⟨rfl, rfl, trivial⟩, ?hS⟩
                 case hS => repeat (first | exact Sub.nil | refine Sub.cons (by repeat (first | exact Pick.head | apply Pick.tail)) ?_)
                 case hp => exact ⟨by omega, fun k hk => by (rcases Nat.lt_or_ge k d with h | h; exact hal k h; obtain rfl : k = d := (by omega); rw [hqp, show qn = 0 from Decidable.not_not.1 (by assumption)]; rfl)⟩
                 case hmu => omega))
       · first
         | (exfalso; omega)
         | (refine W.exit (blk_same ?_)
            refine W.sreg ?_
            refine WO.p rfl rfl (WO.p rfl rfl ?_)
            refine WO.nil ?_
            refine W.ret ?_
            refine fin.ret (Res.two rfl (RV.tmp rfl) (RV.tmp rfl)) ?_
            first | exact canR_1 (by assumption) | exact canR_0 hv (by omega) (by rw [hqp]; simpa using ‹_›) hal rfl | (exfalso; rw [hal dx (by omega)] at hdp; cases hdp)))
theorem eq90 (a b c d : Int) : EqT Try.prog .eql 90 (.agg #[.int .i64 a, .int .i64 b]) (.agg #[.int .i64 c, .int .i64 d]) (.bool (bl ((a, b) = (c, d)))) := by
  intro x y w
  simp [go_sem, Try.eqGuardType90, Try.underlying90]
  by_cases h1 : a = c <;> by_cases h2 : b = d <;> simp [h1, h2, bl_eq]
theorem eq36 (a b c d : Int) : EqT Try.prog .eql 36 (.agg #[.int .i64 a, .int .i64 b]) (.agg #[.int .i64 c, .int .i64 d]) (.bool (bl ((a, b) = (c, d)))) := by
  intro x y w
  simp [go_sem, Try.eqGuardType36, Try.underlying36]
  by_cases h1 : a = c <;> by_cases h2 : b = d <;> simp [h1, h2, bl_eq]
theorem eq36t (a b : Int) : EqT Try.prog .eql 36 (.agg #[.int .i64 a, .int .i64 b]) (.agg #[.int .i64 a, .int .i64 b]) (.bool true) := by
  have := eq36 a b a b
  rwa [show bl ((a, b) = (a, b)) = true from bl_t.2 rfl] at this
theorem eq49 (a b c d : Int) : EqT Try.prog .eql 49 (.agg #[.int .i64 a, .int .i64 b]) (.agg #[.int .i64 c, .int .i64 d]) (.bool (bl ((a, b) = (c, d)))) := by
  intro x y w
  simp [go_sem, Try.eqGuardType49, Try.underlying49]
  by_cases h1 : a = c <;> by_cases h2 : b = d <;> simp [h1, h2, bl_eq]
theorem eq49t (a b : Int) : EqT Try.prog .eql 49 (.agg #[.int .i64 a, .int .i64 b]) (.agg #[.int .i64 a, .int .i64 b]) (.bool true) := by
  have := eq49 a b a b
  rwa [show bl ((a, b) = (a, b)) = true from bl_t.2 rfl] at this
theorem eq40 (a b c d a' b' c' d' : Int) : EqT Try.prog .eql 40 (.agg #[.int .i64 a, .int .i64 b, .int .i64 c, .int .i64 d]) (.agg #[.int .i64 a', .int .i64 b', .int .i64 c', .int .i64 d']) (.bool (bl ((a, b, c, d) = (a', b', c', d')))) := by
  intro x y w
  simp [go_sem, Try.eqGuardType40, Try.underlying40, Try.underlying36, Try.eqGuardType36]
  by_cases h1 : a = a' <;> by_cases h2 : b = b' <;> by_cases h3 : c = c' <;> by_cases h4 : d = d' <;> simp [h1, h2, h3, h4, bl_eq]
theorem eq40t (a b c d : Int) : EqT Try.prog .eql 40 (.agg #[.int .i64 a, .int .i64 b, .int .i64 c, .int .i64 d]) (.agg #[.int .i64 a, .int .i64 b, .int .i64 c, .int .i64 d]) (.bool true) := by
  have := eq40 a b c d a b c d
  rwa [show bl ((a, b, c, d) = (a, b, c, d)) = true from bl_t.2 rfl] at this
/-- how much a run adds to the width of the span -/
def wid (m : Int) (rs : List (Int × Int × Int)) (i : Nat) : Int := wts m rs i * ((rs.getD i r0).2.2 - (rs.getD i r0).2.1)
def wS (m : Int) (rs : List (Int × Int × Int)) : Nat → Int × Int
  | 0 => (0, -1)
  | i + 1 => if (wS m rs i).2 < wid m rs i then ((i : Int), wid m rs i) else wS m rs i
/-- what Widest answers -/
def widV (m : Int) (rs : List (Int × Int × Int)) : Int := if chkT m rs = 0 then (wS m rs rs.length).1 else 0
theorem wid_in {m : Int} {rs : List (Int × Int × Int)} (hv : VT m rs) {i : Nat} (hi : i < rs.length) : 0 ≤ wid m rs i ∧ wid m rs i ≤ 33417600000000 := by
  have h1 := wts_lt hv hi
  have h2 := hv.run hi
  unfold wid
  exact ⟨Int.mul_nonneg (by omega) (by omega), Int.mul_le_mul (c := 1670880000) (d := 20000) h1.2 (by omega) (by omega) (by omega)⟩
theorem wS_in {m : Int} {rs : List (Int × Int × Int)} (hv : VT m rs) : ∀ {i : Nat}, i ≤ rs.length → 0 ≤ (wS m rs i).1 ∧ (wS m rs i).1 ≤ i ∧ -1 ≤ (wS m rs i).2 ∧ (wS m rs i).2 ≤ 33417600000000
  | 0, _ => by simp [wS]
  | i + 1, h => by
    have ih := wS_in hv (i := i) (by omega)
    have h1 := wid_in hv (i := i) (by omega)
    unfold wS
    split
    · dsimp only; omega
    · omega
theorem ref_Widest (w : World) (m : Int) (o : Value) (rs : List (Int × Int × Int)) (hR : RdF encR 3 w.heap.size w o rs) : Ret Try.prog 18 [.agg #[.int .i64 m, o]].toArray w (.tuple #[.int .i64 (widV m rs), .int .i64 (chkT m rs)]) := by
  refine Ret.of mixed tyTab Try.func18 rfl rfl ?_
  replace hR : RdF encR 3 (fnCx mixed tyTab Try.f18.ntmps w).B (fnCx mixed tyTab Try.f18.ntmps w).w0 o rs := hR
  have ho := hR.sl.oc
  refine W.sreg ?_
  refine WO.boxA rfl rfl (fun b1 hb1 => ?_)
  refine WO.p rfl rfl (WO.p rfl rfl ?_)
  refine WO.nil ?_
  refine W.seq ?_
  refine W.sreg ?_
  refine WO.loadA rfl rfl (Cells.own Pick.head) rfl rfl ?_
  refine WO.callR (r := .int .i64 (chkT m rs)) rfl Try.call20 (fun L w hi => ref_CheckTest w m _ rs (hR.later hi)) rfl ?_
  refine WO.p rfl rfl ?_
  refine WO.nil ?_
  refine W.cond_bl rfl (fun c1 => ?_) (fun c1 => ?_)
  · first
    | (exfalso; omega)
    | (refine W.sreg ?_
       refine WO.loadA rfl rfl (Cells.own Pick.head) rfl rfl ?_
       refine WO.callR (r := .int .i64 (chkT m rs)) rfl Try.call20 (fun L w hi => ref_CheckTest w m _ rs (hR.later hi)) rfl ?_
       refine WO.p rfl rfl (WO.p rfl rfl ?_)
       refine WO.nil ?_
       refine W.ret ?_
       refine fin.ret (Res.two rfl (RV.tmp rfl) (RV.tmp rfl)) ?_
       first | (unfold widV; rw [if_neg (by assumption)]; done) | (unfold widV; rw [if_pos hv.to, hv.to, show rs.length = i by omega, hs]))
  · first
    | (exfalso; omega)
    | (refine W.skip ?_
       have hv : VT m rs := VT.of (by omega)
       have hn := hv.n
       have hwl := wL_len m rs
       refine W.sreg ?_
       refine WO.loadA rfl rfl (Cells.own Pick.head) rfl rfl ?_
       refine WO.call (Post := fun r Hq => ∃ x : Value, r = .tuple #[x, .int .i64 0] ∧ Hq = [OwE encI 2 1 x (wL m rs)]) rfl Try.call14 (fun L w hi => by have h := ref_Weights w m o rs (hR.later hi); rw [hv.to, show wA m rs = wL m rs by unfold wA; rw [if_pos hv.to]] at h; exact h) rfl ?_
       rintro _ _ ⟨wv, rfl, rfl⟩
       refine WO.p rfl rfl (WO.p rfl rfl (WO.p rfl rfl (WO.p rfl rfl (WO.p rfl rfl ?_))))
       refine WO.nil ?_
       refine W.fact (OwE.sl (enc := encI) (e := 2) (sz := 1) (by repeat (first | exact Pick.head | apply Pick.tail))) (fun hws2 => ?_)
       rw [hwl] at hws2
       refine W.sreg ?_
       refine WO.p rfl rfl (WO.p rfl rfl ?_)
       refine WO.nil ?_
       refine W.seq ?_
       refine W.sreg ?_
       refine WO.p rfl rfl ?_
       refine WO.nil ?_
       refine W.block ?_
       refine W.loop3 (fun (i : Nat) (a : Int) (b : Int) => i ≤ rs.length ∧ wS m rs i = (a, b))
         (fun (i : Nat) (a : Int) (b : Int) => [(8, .int .i64 (i : Int)), (7, .int .i64 b), (6, .int .i64 a), (4, wv), (1, .pointer (some ⟨b1, 0, none⟩))])
         (fun (i : Nat) (a : Int) (b : Int) => [pt b1 (.cells #[.int .i64 m, o] 24 (0, 0)), OwE encI 2 1 wv (wL m rs)])
         (fun (i : Nat) (a : Int) (b : Int) => rs.length - i) 0 0 (-1)
         (by exact ⟨by omega, rfl⟩) ⟨rfl, rfl, rfl, rfl, rfl, trivial⟩ (by repeat (first | exact Sub.nil | refine Sub.cons (by repeat (first | exact Pick.head | apply Pick.tail)) ?_)) ?_
       rintro i a b ⟨hi, hs⟩
       refine W.seq ?_
       refine W.sreg ?_
       refine WO.p rfl rfl (WO.p rfl rfl ?_)
       refine' WO.len (n := _) rfl rfl ?hs rfl ?_
       case hs => (first | exact hws2 | exact hR.sl)
       refine WO.p rfl rfl ?_
       refine WO.nil ?_
       refine W.cond_bl rfl (fun c2 => ?_) (fun c2 => ?_)
       · first
         | (exfalso; omega)
         | (refine W.skip ?_
            refine W.seq ?_
            refine W.block ?_
            refine W.seq ?_
            have hrun := hv.run (i := i) (by omega)
            have hwi := wid_in hv (i := i) (by omega)
            unfold wid at hwi
            refine W.drawD 19 [.r 0 [], .r 1 [], .r 2 [], .b 3 [], .r 4 [], .b 5 [], .r 6 [], .r 7 [], .r 8 [], .r 9 [], .b 10 [], .r 11 [], .b 12 [], .r 13 [], .r 14 [], .r 15 [], .r 16 [], .b 17 [], .r 18 []] [] (A0 := []) (Sub.refl _) (by kernel_rfl) ?_ ?_
            · exact (ALok.r (ALok.r (ALok.r (ALok.b (ALok.r (ALok.b (ALok.r (ALok.r (ALok.r (ALok.r (ALok.b (ALok.r (ALok.b (ALok.r (ALok.r (ALok.r (ALok.r (ALok.b (ALok.r ALok.nil)))))))))))))))))))
            refine' DT.r rfl rfl rfl ?hq ?_
            case hq =>
              refine WO.p rfl rfl ?_
              exact WO.nil ⟨rfl, rfl⟩
            refine' DT.r rfl rfl rfl ?hq ?_
            case hq =>
              refine WO.p rfl rfl ?_
              exact WO.nil ⟨rfl, rfl⟩
            refine' DT.r rfl rfl rfl ?hq ?_
            case hq =>
              refine' WO.indexAddr (n := _) (i := _) rfl rfl rfl ?hs ?h1 rfl ?_
              case hs => (first | exact hws2 | exact hR.sl)
              case h1 => (first | omega | (simp; omega))
              exact WO.nil ⟨rfl, rfl⟩
            refine' DT.b rfl rfl rfl ?hq ?_
            case hq =>
              refine' WO.load (v := _) rfl rfl ?hc rfl ?_
              case hc => (first | (refine owE_cellS (e := 2) (i := i) (xs := wL m rs) ?_ ?_ (wL_at (i := i) (by omega)); (repeat (first | exact Sub.nil | refine Sub.cons (by repeat (first | exact Pick.head | apply Pick.tail)) ?_)); omega))
              exact WO.nil ⟨rfl, rfl⟩
            refine' DT.r rfl rfl rfl ?hq ?_
            case hq =>
              refine WO.fieldL rfl rfl rfl ?_
              exact WO.nil ⟨rfl, rfl⟩
            refine' DT.b rfl rfl rfl ?hq ?_
            case hq =>
              refine WO.load rfl rfl (Cell.own Pick.head rfl) rfl ?_
              exact WO.nil ⟨rfl, rfl⟩
            refine' DT.r rfl rfl rfl ?hq ?_
            case hq =>
              refine WO.p rfl rfl ?_
              exact WO.nil ⟨rfl, rfl⟩
            refine' DT.r rfl rfl rfl ?hq ?_
            case hq =>
              refine' WO.indexAddr (n := _) (i := _) rfl rfl rfl ?hs ?h1 rfl ?_
              case hs => (first | exact hws2 | exact hR.sl)
              case h1 => (first | omega | (simp; omega))
              exact WO.nil ⟨rfl, rfl⟩
            refine' DT.r rfl rfl rfl ?hq ?_
            case hq =>
              refine WO.field rfl rfl rfl ?_
              exact WO.nil ⟨rfl, rfl⟩
            refine' DT.r rfl rfl rfl ?hq ?_
            case hq =>
              refine WO.field rfl rfl rfl ?_
              exact WO.nil ⟨rfl, rfl⟩
            refine' DT.b rfl rfl rfl ?hq ?_
            case hq =>
              refine' WO.load (v := _) rfl rfl ?hc rfl ?_
              case hc => (first | (refine RdF.cellAt2 hR ?_ r0 ?_ <;> first | rfl | omega))
              exact WO.nil ⟨rfl, rfl⟩
            refine' DT.r rfl rfl rfl ?hq ?_
            case hq =>
              refine WO.fieldL rfl rfl rfl ?_
              exact WO.nil ⟨rfl, rfl⟩
            refine' DT.b rfl rfl rfl ?hq ?_
            case hq =>
              refine WO.load rfl rfl (Cell.own Pick.head rfl) rfl ?_
              exact WO.nil ⟨rfl, rfl⟩
            refine' DT.r rfl rfl rfl ?hq ?_
            case hq =>
              refine WO.p rfl rfl ?_
              exact WO.nil ⟨rfl, rfl⟩
            refine' DT.r rfl rfl rfl ?hq ?_
            case hq =>
              refine' WO.indexAddr (n := _) (i := _) rfl rfl rfl ?hs ?h1 rfl ?_
              case hs => (first | exact hws2 | exact hR.sl)
              case h1 => (first | omega | (simp; omega))
              exact WO.nil ⟨rfl, rfl⟩
            refine' DT.r rfl rfl rfl ?hq ?_
            case hq =>
              refine WO.field rfl rfl rfl ?_
              exact WO.nil ⟨rfl, rfl⟩
            refine' DT.r rfl rfl rfl ?hq ?_
            case hq =>
              refine WO.field0 rfl rfl rfl ?_
              exact WO.nil ⟨rfl, rfl⟩
            refine' DT.b rfl rfl rfl ?hq ?_
            case hq =>
              refine' WO.load (v := _) rfl rfl ?hc rfl ?_
              case hc => (first | (refine hR.cellAt ?_ r0 ?_ <;> first | rfl | omega))
              exact WO.nil ⟨rfl, rfl⟩
            refine' DT.r rfl rfl rfl ?hq ?_
            case hq =>
              refine WO.ar rfl rfl rfl (by (first | (unfold in64; omega) | (unfold in64; omega))) rfl ?_
              exact WO.nil ⟨rfl, rfl⟩
            refine DT.nil [_, _] rfl ?_
            refine WO.ar rfl rfl rfl (by (first | (unfold in64; omega) | (unfold in64; omega))) rfl (WO.p rfl rfl ?_)
            refine WO.nil ?_
            refine W.sreg ?_
            refine WO.p rfl rfl (WO.p rfl rfl (WO.p rfl rfl ?_))
            refine WO.nil ?_
            refine W.cond_bl rfl (fun c3 => ?_) (fun c3 => ?_)
            · first
              | (exfalso; omega)
              | (refine W.region ?_
                 refine WO.p rfl rfl (WO.p rfl rfl (WO.p rfl rfl (WO.p rfl rfl ?_)))
                 refine WO.nil ?_
                 refine W.region ?_
                 refine WO.p rfl rfl (WO.ar rfl rfl rfl (by (first | (unfold in64; omega) | (unfold in64; omega))) rfl (WO.p rfl rfl ?_))
                 refine WO.nil ?_
                 refine' ⟨i + 1, _, _, ?hp, ?hmu, ⟨rfl, rfl, rfl, rfl, rfl, trivial⟩, ?hS⟩
                 case hS => repeat (first | exact Sub.nil | refine Sub.cons (by repeat (first | exact Pick.head | apply Pick.tail)) ?_)
                 case hp => refine ⟨by omega, ?_⟩; unfold wS; rw [hs]; first | (rw [if_pos (by assumption)]; rfl) | rw [if_neg (by assumption)]
                 case hmu => omega)
            · first
              | (exfalso; omega)
              | (refine W.skip ?_
                 refine W.region ?_
                 refine WO.p rfl rfl (WO.ar rfl rfl rfl (by (first | (unfold in64; omega) | (unfold in64; omega))) rfl (WO.p rfl rfl ?_))
                 refine WO.nil ?_
                 refine' ⟨i + 1, _, _, ?hp, ?hmu, ⟨rfl, rfl, rfl, rfl, rfl, trivial⟩, ?hS⟩
                 case hS => repeat (first | exact Sub.nil | refine Sub.cons (by repeat (first | exact Pick.head | apply Pick.tail)) ?_)
                 case hp => refine ⟨by omega, ?_⟩; unfold wS; rw [hs]; first | (rw [if_pos (by assumption)]; rfl) | rw [if_neg (by assumption)]
                 case hmu => omega))
       · first
         | (exfalso; omega)
         | (refine W.exit (blk_same ?_)
            refine W.sreg ?_
            refine WO.p rfl rfl (WO.p rfl rfl (WO.p rfl rfl ?_))
            refine WO.nil ?_
            refine W.ret ?_
            refine fin.ret (Res.two rfl (RV.tmp rfl) (RV.tmp rfl)) ?_
            first | (unfold widV; rw [if_neg (by assumption)]; done) | (unfold widV; rw [if_pos hv.to, hv.to, show rs.length = i by omega, hs])))
end Go.Proofs.Ytkiaepcklbidgaa
namespace Go.Proofs.Ytkiaepcklbidgaa
open Go Go.TH
attribute [local irreducible] W WO pt
set_option maxRecDepth 10000
set_option maxHeartbeats 1000000
theorem wid_go1 {m : Int} {rs : List (Int × Int × Int)} {i : Nat} {a b : Int} (hv : VT m rs) (hi : i < rs.length) (h0 : i = 0 → (a, b) = (-1, 0)) (h1 : 0 < i → wS m rs i = (a, b)) (h : (a, b) = (-1, 0) ∨ b < wid m rs i) : wS m rs (i + 1) = ((i : Int), wid m rs i) := by
  have hw := wid_in hv hi
  show (if (wS m rs i).2 < wid m rs i then ((i : Int), wid m rs i) else wS m rs i) = _
  by_cases e : i = 0
  · subst e
    rw [if_pos (by show (-1 : Int) < _; omega)]
  · have hs := wS_in hv (i := i) (by omega)
    rw [h1 (by omega)] at hs ⊢
    dsimp only at hs ⊢
    rcases h with h | h
    · simp only [Prod.mk.injEq] at h; omega
    · rw [if_pos h]
theorem wid_go2 {m : Int} {rs : List (Int × Int × Int)} {i : Nat} {a b : Int} (h0 : i = 0 → (a, b) = (-1, 0)) (h1 : 0 < i → wS m rs i = (a, b)) (h : ¬ (a, b) = (-1, 0)) (h2 : ¬ b < wid m rs i) : wS m rs (i + 1) = (a, b) := by
  have hi : 0 < i := by
    rcases Nat.eq_zero_or_pos i with e | e
    · exact absurd (h0 e) h
    · exact e
  show (if (wS m rs i).2 < wid m rs i then ((i : Int), wid m rs i) else wS m rs i) = _
  rw [h1 hi, if_neg h2]
theorem c_Widest (w : World) (m : Int) (o : Value) (rs : List (Int × Int × Int)) (hR : RdF encR 3 w.heap.size w o rs) : Ret Try.prog 17 [.agg #[.int .i64 m, o]].toArray w (.tuple #[.int .i64 (widV m rs), .int .i64 (chkT m rs)]) := by
  refine Ret.of mixed tyTab Try.func17 rfl rfl ?_
  replace hR : RdF encR 3 (fnCx mixed tyTab Try.f17.ntmps w).B (fnCx mixed tyTab Try.f17.ntmps w).w0 o rs := hR
  have ho := hR.sl.oc
  refine W.sreg ?_
  refine WO.boxA rfl rfl (fun b1 hb1 => ?_)
  refine WO.p rfl rfl (WO.p rfl rfl ?_)
  refine WO.nil ?_
  refine W.sreg ?_
  refine WO.loadA rfl rfl (Cells.own Pick.head) rfl rfl ?_
  refine WO.call (Post := fun v Hq => ∃ pv, v = .tuple #[pv, .int .i64 (chkT m rs)] ∧ Hq = [scP pv m o rs]) rfl Try.call45 (fun L w hi => c_newScales w m o rs (hR.later hi)) rfl ?_
  rintro _ _ ⟨pv, rfl, rfl⟩
  refine WO.p rfl rfl (WO.p rfl rfl (WO.p rfl rfl (WO.p rfl rfl (WO.p rfl rfl ?_))))
  refine WO.nil ?_
  refine W.seq ?_
  refine W.sreg ?_
  refine WO.p rfl rfl (WO.p rfl rfl ?_)
  refine WO.nil ?_
  refine W.cond_bl rfl (fun c1 => ?_) (fun c1 => ?_)
  · first
    | (exfalso; omega)
    | (refine W.sreg ?_
       refine WO.p rfl rfl (WO.p rfl rfl (WO.p rfl rfl ?_))
       refine WO.nil ?_
       refine W.ret ?_
       refine fin.ret (Res.two rfl (RV.tmp rfl) (RV.tmp rfl)) ?_
       first | (unfold widV; rw [if_neg (by assumption)]; done) | (unfold widV; rw [if_pos hv.to, hv.to, show rs.length = i by omega, h1 (by omega)]))
  · first
    | (exfalso; omega)
    | (refine W.skip ?_
       have hv : VT m rs := VT.of (by omega)
       have hn := hv.n
       refine W.chgE (PtrP.open (by repeat (first | exact Pick.head | apply Pick.tail)) hv.to) ?_
       rintro pb rfl
       refine W.sreg ?_
       refine' WO.build (cs := _) rfl rfl rfl ?hf rfl ?_
       case hf => (conv => lhs; simp [-List.getD_eq_getElem?_getD, fillL, vcl, wrl, TTab.pl?.lget']) <;> rfl
       refine WO.alloc rfl rfl rfl (fun b2 hb2 => ?_)
       refine WO.storeA rfl rfl rfl rfl Pick.head rfl rfl ?_
       refine WO.nil ?_
       refine W.sreg ?_
       refine WO.loadA rfl rfl (Cells.own Pick.head) rfl rfl ?_
       refine WO.alloc rfl rfl rfl (fun b3 hb3 => ?_)
       refine WO.storeA rfl rfl rfl rfl Pick.head rfl rfl ?_
       refine WO.nil ?_
       refine W.seq ?_
       refine W.sreg ?_
       refine WO.fieldL rfl rfl rfl (WO.load rfl rfl (Cell.own (Pick.tail (Pick.tail (Pick.tail (Pick.head)))) rfl) rfl ?_)
       refine' WO.len (n := _) rfl rfl ?hs rfl ?_
       case hs => (first | exact hR.sl)
       refine WO.p rfl rfl ?_
       refine WO.nil ?_
       refine W.block ?_
       refine W.loop3 (fun (i : Nat) (a : Int) (b : Int) => i ≤ rs.length ∧ (i = 0 → (a, b) = (-1, 0)) ∧ (0 < i → wS m rs i = (a, b)))
         (fun (i : Nat) (a : Int) (b : Int) => [(24, .int .i64 (i : Int)), (23, .int .i64 (rs.length : Int)), (22, o), (7, .pointer (some ⟨b3, 0, none⟩)), (6, .pointer (some ⟨b2, 0, none⟩)), (4, .pointer (some ⟨pb, 0, none⟩))])
         (fun (i : Nat) (a : Int) (b : Int) => [pt b2 (.cells #[.int .i64 (-1), .int .i64 0] 90 (0, 0)), pt b3 (.cells #[.int .i64 a, .int .i64 b] 90 (0, 0)), pt pb (.cells (sc m o (wTo (wts m rs) rs.length) (wsum m rs rs.length)).toArray 83 (0, 0))])
         (fun (i : Nat) (a : Int) (b : Int) => rs.length - i) 0 (-1) 0
         (by exact ⟨by omega, fun _ => rfl, fun h => by omega⟩) ⟨rfl, rfl, rfl, rfl, rfl, rfl, trivial⟩ (by repeat (first | exact Sub.nil | refine Sub.cons (by repeat (first | exact Pick.head | apply Pick.tail)) ?_)) ?_
       rintro i a b ⟨hi, h0, h1⟩
       refine W.sreg ?_
       refine WO.p rfl rfl ?_
       refine WO.nil ?_
       refine W.seq ?_
       refine W.cond_bl rfl (fun c2 => ?_) (fun c2 => ?_)
       · first
         | (exfalso; omega)
         | (refine W.skip ?_
            refine W.seq ?_
            refine W.block ?_
            refine W.sreg ?_
            refine WO.p rfl rfl ?_
            refine' WO.indexAddr (n := _) (i := _) rfl rfl rfl ?hs ?h1 rfl ?_
            case hs => (first | exact hR.sl)
            case h1 => (first | omega | (simp; omega))
            refine' WO.loadA (vs := _) rfl rfl ?hc ?hl rfl ?_
            case hc => (first | (refine hR.cells ?_ r0; omega))
            case hl => rfl
            refine WO.alloc rfl rfl rfl (fun b4 hb4 => ?_)
            refine WO.p rfl rfl (WO.storeA rfl rfl rfl rfl Pick.head rfl rfl ?_)
            refine WO.nil ?_
            refine W.seq ?_
            have hrun := hv.run (i := i) (by omega)
            have hwi := wid_in hv (i := i) (by omega)
            unfold wid at hwi
            refine W.drawD 17 [.r 0 [], .r 1 [], .r 2 [], .r 3 [], .r 4 [], .r 5 [], .b 6 [], .r 7 [], .r 8 [], .b 9 [], .r 10 [], .r 11 [], .b 12 [], .r 13 [], .r 14 [], .r 15 [], .a 16 10 (.cells #[.int .i64 0, .int .i64 0] 90 (0, 0))] [] (A0 := []) (Sub.refl _) (by kernel_rfl) ?_ ?_
            · exact (ALok.r (ALok.r (ALok.r (ALok.r (ALok.r (ALok.r (ALok.b (ALok.r (ALok.r (ALok.b (ALok.r (ALok.r (ALok.b (ALok.r (ALok.r (ALok.r (ALok.cons rfl rfl rfl rfl rfl ALok.nil)))))))))))))))))
            refine' DT.r rfl rfl rfl ?hq ?_
            case hq =>
              refine WO.p rfl rfl ?_
              exact WO.nil ⟨rfl, rfl⟩
            refine' DT.r rfl rfl rfl ?hq ?_
            case hq =>
              refine WO.p rfl rfl ?_
              exact WO.nil ⟨rfl, rfl⟩
            refine' DT.r rfl rfl rfl ?hq ?_
            case hq =>
              refine WO.p rfl rfl ?_
              exact WO.nil ⟨rfl, rfl⟩
            refine' DT.r rfl rfl rfl ?hq ?_
            case hq =>
              refine WO.p rfl rfl ?_
              exact WO.nil ⟨rfl, rfl⟩
            refine' DT.r rfl rfl rfl ?hq ?_
            case hq =>
              refine WO.fieldL rfl rfl rfl ?_
              exact WO.nil ⟨rfl, rfl⟩
            refine' DT.r rfl rfl rfl ?hq ?_
            case hq =>
              refine WO.indexArrL (i := i) (o' := 2 + i) rfl rfl rfl (by omega) (by omega) rfl ?_
              exact WO.nil ⟨rfl, rfl⟩
            refine' DT.b rfl rfl rfl ?hq ?_
            case hq =>
              refine' WO.load (v := _) rfl rfl ?hc rfl ?_
              case hc => (first | (refine sc_cellS (i := i) (t := 83) (fr := (0, 0)) (m := m) (o := o) (f := wTo (wts m rs) rs.length) (s := wsum m rs rs.length) ?_ ?_ (wTo_at (i := i) (by omega)); (repeat (first | exact Sub.nil | refine Sub.cons (by repeat (first | exact Pick.head | apply Pick.tail)) ?_)); omega))
              exact WO.nil ⟨rfl, rfl⟩
            refine' DT.r rfl rfl rfl ?hq ?_
            case hq =>
              refine WO.fieldL rfl rfl rfl ?_
              exact WO.nil ⟨rfl, rfl⟩
            refine' DT.r rfl rfl rfl ?hq ?_
            case hq =>
              refine WO.fieldL rfl rfl rfl ?_
              exact WO.nil ⟨rfl, rfl⟩
            refine' DT.b rfl rfl rfl ?hq ?_
            case hq =>
              refine WO.load rfl rfl (Cell.own Pick.head rfl) rfl ?_
              exact WO.nil ⟨rfl, rfl⟩
            refine' DT.r rfl rfl rfl ?hq ?_
            case hq =>
              refine WO.fieldL rfl rfl rfl ?_
              exact WO.nil ⟨rfl, rfl⟩
            refine' DT.r rfl rfl rfl ?hq ?_
            case hq =>
              refine WO.field0 rfl rfl rfl ?_
              exact WO.nil ⟨rfl, rfl⟩
            refine' DT.b rfl rfl rfl ?hq ?_
            case hq =>
              refine WO.load rfl rfl (Cell.own Pick.head rfl) rfl ?_
              exact WO.nil ⟨rfl, rfl⟩
            refine' DT.r rfl rfl rfl ?hq ?_
            case hq =>
              refine WO.ar rfl rfl rfl (by (first | (unfold in64; omega) | (unfold in64; omega))) rfl ?_
              exact WO.nil ⟨rfl, rfl⟩
            refine' DT.r rfl rfl rfl ?hq ?_
            case hq =>
              refine WO.ar rfl rfl rfl (by (first | (unfold in64; omega) | (unfold in64; omega))) rfl ?_
              exact WO.nil ⟨rfl, rfl⟩
            refine' DT.r rfl rfl rfl ?hq ?_
            case hq =>
              refine' WO.build (cs := _) rfl rfl rfl ?hf rfl ?_
              case hf => (conv => lhs; simp [-List.getD_eq_getElem?_getD, fillL, vcl, wrl, TTab.pl?.lget']) <;> rfl
              exact WO.nil ⟨rfl, rfl⟩
            refine DT.a (fun b5 => ?_)
            refine DT.nil [_, _, _, _, _] rfl ?_
            refine WO.storeA rfl rfl rfl rfl Pick.head rfl rfl ?_
            refine WO.nil ?_
            refine W.sreg ?_
            refine WO.loadA rfl rfl (Cells.own (Pick.tail (Pick.tail (Pick.tail (Pick.head))))) rfl rfl (WO.loadA rfl rfl (Cells.own (Pick.tail (Pick.tail (Pick.head)))) rfl rfl ?_)
            refine WO.eqT rfl rfl (eq90 _ _ _ _) rfl ?_
            refine WO.p rfl rfl ?_
            refine WO.guard_bl rfl rfl (fun c3 => ?_) (fun c3 => ?_)
            · first
              | (exfalso; omega)
              | (refine WO.no rfl rfl (WO.no rfl rfl (WO.no rfl rfl (WO.no rfl rfl (WO.no rfl rfl (WO.p rfl rfl ?_)))))
                 refine WO.nil ?_
                 refine W.cond_t rfl ?_
                 refine W.region ?_
                 refine WO.loadA rfl rfl (Cells.own Pick.head) rfl rfl (WO.storeA rfl rfl rfl rfl (Pick.tail (Pick.tail (Pick.tail (Pick.head)))) rfl rfl ?_)
                 refine WO.nil ?_
                 refine W.region ?_
                 refine WO.ar rfl rfl rfl (by (first | (unfold in64; omega) | (unfold in64; omega))) rfl (WO.p rfl rfl ?_)
                 refine WO.nil ?_
                 refine' ⟨i + 1, _, _, ?hp, ?hmu, ⟨rfl, rfl, rfl, rfl, rfl, rfl, trivial⟩, ?hS⟩
                 case hS => repeat (first | exact Sub.nil | refine Sub.cons (by repeat (first | exact Pick.head | apply Pick.tail)) ?_)
                 case hp => refine ⟨by omega, fun h => by omega, fun _ => ?_⟩; first | exact wid_go1 hv (by omega) h0 h1 (.inl (by assumption)) | exact wid_go1 hv (by omega) h0 h1 (.inr (by assumption)) | exact wid_go2 h0 h1 (by assumption) (by assumption)
                 case hmu => omega)
            · first
              | (exfalso; omega)
              | (refine WO.go' rfl (WO.fieldL rfl rfl rfl (WO.go' rfl (WO.load rfl rfl (Cell.own Pick.head rfl) rfl (WO.go' rfl (WO.fieldL rfl rfl rfl (WO.go' rfl (WO.load rfl rfl (Cell.own (Pick.tail (Pick.tail (Pick.tail (Pick.head)))) rfl) rfl (WO.pg rfl rfl rfl (WO.p rfl rfl ?_)))))))))
                 refine WO.nil ?_
                 refine W.cond_bl rfl (fun c4 => ?_) (fun c4 => ?_)
                 · first
                   | (exfalso; omega)
                   | (refine W.region ?_
                      refine WO.loadA rfl rfl (Cells.own Pick.head) rfl rfl (WO.storeA rfl rfl rfl rfl (Pick.tail (Pick.tail (Pick.tail (Pick.head)))) rfl rfl ?_)
                      refine WO.nil ?_
                      refine W.region ?_
                      refine WO.ar rfl rfl rfl (by (first | (unfold in64; omega) | (unfold in64; omega))) rfl (WO.p rfl rfl ?_)
                      refine WO.nil ?_
                      refine' ⟨i + 1, _, _, ?hp, ?hmu, ⟨rfl, rfl, rfl, rfl, rfl, rfl, trivial⟩, ?hS⟩
                      case hS => repeat (first | exact Sub.nil | refine Sub.cons (by repeat (first | exact Pick.head | apply Pick.tail)) ?_)
                      case hp => refine ⟨by omega, fun h => by omega, fun _ => ?_⟩; first | exact wid_go1 hv (by omega) h0 h1 (.inl (by assumption)) | exact wid_go1 hv (by omega) h0 h1 (.inr (by assumption)) | exact wid_go2 h0 h1 (by assumption) (by assumption)
                      case hmu => omega)
                 · first
                   | (exfalso; omega)
                   | (refine W.skip ?_
                      refine W.region ?_
                      refine WO.ar rfl rfl rfl (by (first | (unfold in64; omega) | (unfold in64; omega))) rfl (WO.p rfl rfl ?_)
                      refine WO.nil ?_
                      refine' ⟨i + 1, _, _, ?hp, ?hmu, ⟨rfl, rfl, rfl, rfl, rfl, rfl, trivial⟩, ?hS⟩
                      case hS => repeat (first | exact Sub.nil | refine Sub.cons (by repeat (first | exact Pick.head | apply Pick.tail)) ?_)
                      case hp => refine ⟨by omega, fun h => by omega, fun _ => ?_⟩; first | exact wid_go1 hv (by omega) h0 h1 (.inl (by assumption)) | exact wid_go1 hv (by omega) h0 h1 (.inr (by assumption)) | exact wid_go2 h0 h1 (by assumption) (by assumption)
                      case hmu => omega)))
       · first
         | (exfalso; omega)
         | (refine W.exit (blk_same ?_)
            refine W.sreg ?_
            refine WO.field0 rfl rfl rfl (WO.load rfl rfl (Cell.own (Pick.tail (Pick.head)) rfl) rfl (WO.p rfl rfl (WO.p rfl rfl ?_)))
            refine WO.nil ?_
            refine W.ret ?_
            refine fin.ret (Res.two rfl (RV.tmp rfl) (RV.tmp rfl)) ?_
            first | (unfold widV; rw [if_neg (by assumption)]; done) | (unfold widV; rw [if_pos hv.to, hv.to, show rs.length = i by omega, h1 (by omega)])))
end Go.Proofs.Ytkiaepcklbidgaa
namespace Go.Proofs.Ytkiaepcklbidgaa
open Go Go.TH
attribute [local irreducible] W WO pt
set_option maxRecDepth 10000
set_option maxHeartbeats 1000000
/-- a contract: speed, step, premium, penalty, most, refuse, refund -/
structure Con where
  sp : Int
  st : Int
  pr : Int
  pe : Int
  mo : Int
  rf : Int
  rd : Int
structure OkC (c : Con) : Prop where
  sp : 0 ≤ c.sp ∧ c.sp ≤ 20000
  st : 1 ≤ c.st ∧ c.st ≤ 1000
  pr : 0 ≤ c.pr ∧ c.pr ≤ 1000000000
  pe : 0 ≤ c.pe ∧ c.pe ≤ 1000000000
  rd : 0 ≤ c.rd ∧ c.rd ≤ 1000000000
  mo : 0 ≤ c.mo ∧ c.mo ≤ c.rd
  rf : 0 ≤ c.rf ∧ c.rf ≤ c.sp
open Classical in
/-- what CheckContract answers -/
noncomputable def chkC (c : Con) : Int := if OkC c then 0 else 2
theorem chkC_0 {c : Con} (h : OkC c) : chkC c = 0 := by unfold chkC; rw [if_pos h]
theorem chkC_2 {c : Con} (h : ¬ OkC c) : chkC c = 2 := by unfold chkC; rw [if_neg h]
theorem chkC_of {c : Con} (h : chkC c = 0) : OkC c := by
  refine Classical.byContradiction fun hn => ?_
  rw [chkC_2 hn] at h; omega
theorem btw3 (lo hi x y z : Int) : btw lo hi [x, y, z] = bl (lo ≤ x ∧ x ≤ hi ∧ lo ≤ y ∧ y ≤ hi ∧ lo ≤ z ∧ z ≤ hi) := by
  unfold btw; rw [bl_eq, bl_eq, bl_eq]
  show (decide (lo ≤ min (min x y) z) && decide (max (max x y) z ≤ hi)) = _
  rw [← Bool.decide_and, decide_eq_decide]
  omega
def conA (c : Con) : Array Value := #[.int .i64 c.sp, .int .i64 c.st, .int .i64 c.pr, .int .i64 c.pe, .int .i64 c.mo, .int .i64 c.rf, .int .i64 c.rd]
theorem c_CheckContract (w : World) (c : Con) : Ret Try.prog 32 [.agg #[.int .i64 c.sp, .int .i64 c.st, .int .i64 c.pr, .int .i64 c.pe, .int .i64 c.mo, .int .i64 c.rf, .int .i64 c.rd]].toArray w (.int .i64 (chkC c)) := by
  refine Ret.of mixed tyTab Try.func32 rfl rfl ?_
  refine W.sreg ?_
  refine WO.boxA rfl rfl (fun b1 hb1 => ?_)
  refine WO.p rfl rfl ?_
  refine WO.nil ?_
  refine W.seq ?_
  refine W.sreg ?_
  refine WO.field0 rfl rfl rfl (WO.load rfl rfl (Cell.own Pick.head rfl) rfl ?_)
  refine' WO.buildSl (cs := _) rfl rfl rfl rfl ?hf rfl rfl ?hl rfl (fun v2 => ?_)
  case hf => (conv => lhs; simp [-List.getD_eq_getElem?_getD, fillL, vcl, wrl, TTab.pl?.lget']) <;> rfl
  case hl => rfl
  refine WO.callR (r := .bool (bl (0 ≤ c.sp ∧ c.sp ≤ 20000))) rfl Try.call51 (fun L w hi => by rw [← btw1]; exact c_within w _ _ _ [c.sp] (RdF.of_ow (e := 2) encI_ok (by repeat (first | exact Pick.head | apply Pick.tail)) hi) (by simp)) rfl ?_
  refine WO.p rfl rfl (WO.p rfl rfl ?_)
  refine WO.guard_nbl rfl rfl (fun c1 => ?_) (fun c1 => ?_)
  · first
    | (exfalso; omega)
    | (refine WO.no rfl rfl (WO.no rfl rfl (WO.no rfl rfl (WO.no rfl rfl (WO.no rfl rfl (WO.p rfl rfl (WO.p rfl rfl (WO.no rfl rfl (WO.no rfl rfl (WO.no rfl rfl (WO.no rfl rfl (WO.no rfl rfl ?_)))))))))))
       refine WO.no rfl rfl (WO.no rfl rfl (WO.no rfl rfl (WO.no rfl rfl (WO.p rfl rfl (WO.p rfl rfl (WO.no rfl rfl (WO.no rfl rfl (WO.no rfl rfl (WO.no rfl rfl (WO.no rfl rfl (WO.no rfl rfl ?_)))))))))))
       refine WO.no rfl rfl (WO.p rfl rfl (WO.p rfl rfl (WO.no rfl rfl (WO.no rfl rfl (WO.no rfl rfl (WO.no rfl rfl (WO.no rfl rfl (WO.no rfl rfl (WO.no rfl rfl (WO.p rfl rfl ?_))))))))))
       refine WO.nil ?_
       refine W.cond_t rfl ?_
       refine W.sreg ?_
       refine WO.p rfl rfl ?_
       refine WO.nil ?_
       refine W.ret ?_
       refine fin.ret (Res.one rfl (RV.tmp rfl)) (congrArg (Value.int .i64) ?_)
       first | exact (chkC_0 ⟨by omega, by omega, by omega, by omega, by omega, by omega, by omega⟩).symm | exact (chkC_2 (fun h => by have h1 := h.sp; have h2 := h.st; have h3 := h.pr; have h4 := h.pe; have h5 := h.rd; have h6 := h.mo; have h7 := h.rf; omega)).symm)
  · first
    | (exfalso; omega)
    | (refine WO.go' rfl (WO.fieldL rfl rfl rfl (WO.go' rfl (WO.load rfl rfl (Cell.own (Pick.tail (Pick.head)) rfl) rfl (WO.go' rfl ?_))))
       refine' WO.buildSl (cs := _) rfl rfl rfl rfl ?hf rfl rfl ?hl rfl (fun v3 => ?_)
       case hf => (conv => lhs; simp [-List.getD_eq_getElem?_getD, fillL, vcl, wrl, TTab.pl?.lget']) <;> rfl
       case hl => rfl
       refine WO.go' rfl ?_
       refine WO.callR (r := .bool (bl (1 ≤ c.st ∧ c.st ≤ 1000))) rfl Try.call51 (fun L w hi => by rw [← btw1]; exact c_within w _ _ _ [c.st] (RdF.of_ow (e := 2) encI_ok (by repeat (first | exact Pick.head | apply Pick.tail)) hi) (by simp)) rfl ?_
       refine WO.pg rfl rfl rfl (WO.p rfl rfl (WO.p rfl rfl ?_))
       refine WO.guard_nbl rfl rfl (fun c2 => ?_) (fun c2 => ?_)
       · first
         | (exfalso; omega)
         | (refine WO.no rfl rfl (WO.no rfl rfl (WO.no rfl rfl (WO.no rfl rfl (WO.no rfl rfl (WO.no rfl rfl (WO.no rfl rfl (WO.no rfl rfl (WO.no rfl rfl (WO.p rfl rfl (WO.p rfl rfl (WO.no rfl rfl ?_)))))))))))
            refine WO.no rfl rfl (WO.no rfl rfl (WO.no rfl rfl (WO.no rfl rfl (WO.no rfl rfl (WO.no rfl rfl (WO.p rfl rfl (WO.p rfl rfl (WO.no rfl rfl (WO.no rfl rfl (WO.no rfl rfl (WO.no rfl rfl ?_)))))))))))
            refine WO.no rfl rfl (WO.no rfl rfl (WO.no rfl rfl (WO.p rfl rfl ?_)))
            refine WO.nil ?_
            refine W.cond_t rfl ?_
            refine W.sreg ?_
            refine WO.p rfl rfl ?_
            refine WO.nil ?_
            refine W.ret ?_
            refine fin.ret (Res.one rfl (RV.tmp rfl)) (congrArg (Value.int .i64) ?_)
            first | exact (chkC_0 ⟨by omega, by omega, by omega, by omega, by omega, by omega, by omega⟩).symm | exact (chkC_2 (fun h => by have h1 := h.sp; have h2 := h.st; have h3 := h.pr; have h4 := h.pe; have h5 := h.rd; have h6 := h.mo; have h7 := h.rf; omega)).symm)
       · first
         | (exfalso; omega)
         | (refine WO.go' rfl (WO.fieldL rfl rfl rfl (WO.go' rfl (WO.load rfl rfl (Cell.own (Pick.tail (Pick.tail (Pick.head))) rfl) rfl (WO.go' rfl (WO.fieldL rfl rfl rfl (WO.go' rfl (WO.load rfl rfl (Cell.own (Pick.tail (Pick.tail (Pick.head))) rfl) rfl (WO.go' rfl (WO.fieldL rfl rfl rfl (WO.go' rfl (WO.load rfl rfl (Cell.own (Pick.tail (Pick.tail (Pick.head))) rfl) rfl ?_)))))))))))
            refine WO.go' rfl ?_
            refine' WO.buildSl (cs := _) rfl rfl rfl rfl ?hf rfl rfl ?hl rfl (fun v4 => ?_)
            case hf => (conv => lhs; simp [-List.getD_eq_getElem?_getD, fillL, vcl, wrl, TTab.pl?.lget']) <;> rfl
            case hl => rfl
            refine WO.go' rfl ?_
            refine WO.callR (r := .bool (bl (0 ≤ c.pr ∧ c.pr ≤ 1000000000 ∧ 0 ≤ c.pe ∧ c.pe ≤ 1000000000 ∧ 0 ≤ c.rd ∧ c.rd ≤ 1000000000))) rfl Try.call51 (fun L w hi => by rw [← btw3]; exact c_within w _ _ _ [c.pr, c.pe, c.rd] (RdF.of_ow (e := 2) encI_ok (by repeat (first | exact Pick.head | apply Pick.tail)) hi) (by simp)) rfl ?_
            refine WO.pg rfl rfl rfl (WO.p rfl rfl (WO.p rfl rfl ?_))
            refine WO.guard_nbl rfl rfl (fun c3 => ?_) (fun c3 => ?_)
            · first
              | (exfalso; omega)
              | (refine WO.no rfl rfl (WO.no rfl rfl (WO.no rfl rfl (WO.no rfl rfl (WO.no rfl rfl (WO.no rfl rfl (WO.no rfl rfl (WO.p rfl rfl (WO.p rfl rfl (WO.no rfl rfl (WO.no rfl rfl (WO.no rfl rfl ?_)))))))))))
                 refine WO.no rfl rfl (WO.no rfl rfl (WO.no rfl rfl (WO.no rfl rfl (WO.p rfl rfl ?_))))
                 refine WO.nil ?_
                 refine W.cond_t rfl ?_
                 refine W.sreg ?_
                 refine WO.p rfl rfl ?_
                 refine WO.nil ?_
                 refine W.ret ?_
                 refine fin.ret (Res.one rfl (RV.tmp rfl)) (congrArg (Value.int .i64) ?_)
                 first | exact (chkC_0 ⟨by omega, by omega, by omega, by omega, by omega, by omega, by omega⟩).symm | exact (chkC_2 (fun h => by have h1 := h.sp; have h2 := h.st; have h3 := h.pr; have h4 := h.pe; have h5 := h.rd; have h6 := h.mo; have h7 := h.rf; omega)).symm)
            · first
              | (exfalso; omega)
              | (refine WO.go' rfl (WO.fieldL rfl rfl rfl (WO.go' rfl (WO.load rfl rfl (Cell.own (Pick.tail (Pick.tail (Pick.tail (Pick.head)))) rfl) rfl (WO.go' rfl (WO.fieldL rfl rfl rfl (WO.go' rfl (WO.load rfl rfl (Cell.own (Pick.tail (Pick.tail (Pick.tail (Pick.head)))) rfl) rfl (WO.go' rfl ?_))))))))
                 refine' WO.buildSl (cs := _) rfl rfl rfl rfl ?hf rfl rfl ?hl rfl (fun v5 => ?_)
                 case hf => (conv => lhs; simp [-List.getD_eq_getElem?_getD, fillL, vcl, wrl, TTab.pl?.lget']) <;> rfl
                 case hl => rfl
                 refine WO.go' rfl ?_
                 refine WO.callR (r := .bool (bl (0 ≤ c.mo ∧ c.mo ≤ c.rd))) rfl Try.call51 (fun L w hi => by rw [← btw1]; exact c_within w _ _ _ [c.mo] (RdF.of_ow (e := 2) encI_ok (by repeat (first | exact Pick.head | apply Pick.tail)) hi) (by simp)) rfl ?_
                 refine WO.pg rfl rfl rfl (WO.p rfl rfl (WO.p rfl rfl ?_))
                 refine WO.guard_nbl rfl rfl (fun c4 => ?_) (fun c4 => ?_)
                 · first
                   | (exfalso; omega)
                   | (refine WO.no rfl rfl (WO.no rfl rfl (WO.no rfl rfl (WO.no rfl rfl (WO.no rfl rfl (WO.no rfl rfl (WO.no rfl rfl (WO.p rfl rfl ?_)))))))
                      refine WO.nil ?_
                      refine W.cond_t rfl ?_
                      refine W.sreg ?_
                      refine WO.p rfl rfl ?_
                      refine WO.nil ?_
                      refine W.ret ?_
                      refine fin.ret (Res.one rfl (RV.tmp rfl)) (congrArg (Value.int .i64) ?_)
                      first | exact (chkC_0 ⟨by omega, by omega, by omega, by omega, by omega, by omega, by omega⟩).symm | exact (chkC_2 (fun h => by have h1 := h.sp; have h2 := h.st; have h3 := h.pr; have h4 := h.pe; have h5 := h.rd; have h6 := h.mo; have h7 := h.rf; omega)).symm)
                 · first
                   | (exfalso; omega)
                   | (refine WO.go' rfl (WO.field0 rfl rfl rfl (WO.go' rfl (WO.load rfl rfl (Cell.own (Pick.tail (Pick.tail (Pick.tail (Pick.tail (Pick.head))))) rfl) rfl (WO.go' rfl (WO.fieldL rfl rfl rfl (WO.go' rfl (WO.load rfl rfl (Cell.own (Pick.tail (Pick.tail (Pick.tail (Pick.tail (Pick.head))))) rfl) rfl (WO.go' rfl ?_))))))))
                      refine' WO.buildSl (cs := _) rfl rfl rfl rfl ?hf rfl rfl ?hl rfl (fun v6 => ?_)
                      case hf => (conv => lhs; simp [-List.getD_eq_getElem?_getD, fillL, vcl, wrl, TTab.pl?.lget']) <;> rfl
                      case hl => rfl
                      refine WO.go' rfl ?_
                      refine WO.callR (r := .bool (bl (0 ≤ c.rf ∧ c.rf ≤ c.sp))) rfl Try.call51 (fun L w hi => by rw [← btw1]; exact c_within w _ _ _ [c.rf] (RdF.of_ow (e := 2) encI_ok (by repeat (first | exact Pick.head | apply Pick.tail)) hi) (by simp)) rfl ?_
                      refine WO.pg rfl rfl rfl (WO.p rfl rfl ?_)
                      refine WO.nil ?_
                      refine W.cond_nbl rfl (fun c5 => ?_) (fun c5 => ?_)
                      · first
                        | (exfalso; omega)
                        | (refine W.sreg ?_
                           refine WO.p rfl rfl ?_
                           refine WO.nil ?_
                           refine W.ret ?_
                           refine fin.ret (Res.one rfl (RV.tmp rfl)) (congrArg (Value.int .i64) ?_)
                           first | exact (chkC_0 ⟨by omega, by omega, by omega, by omega, by omega, by omega, by omega⟩).symm | exact (chkC_2 (fun h => by have h1 := h.sp; have h2 := h.st; have h3 := h.pr; have h4 := h.pe; have h5 := h.rd; have h6 := h.mo; have h7 := h.rf; omega)).symm)
                      · first
                        | (exfalso; omega)
                        | (refine W.skip ?_
                           refine W.sreg ?_
                           refine WO.p rfl rfl ?_
                           refine WO.nil ?_
                           refine W.ret ?_
                           refine fin.ret (Res.one rfl (RV.tmp rfl)) (congrArg (Value.int .i64) ?_)
                           first | exact (chkC_0 ⟨by omega, by omega, by omega, by omega, by omega, by omega, by omega⟩).symm | exact (chkC_2 (fun h => by have h1 := h.sp; have h2 := h.st; have h3 := h.pr; have h4 := h.pe; have h5 := h.rd; have h6 := h.mo; have h7 := h.rf; omega)).symm)))))
theorem ref_CheckContract (w : World) (c : Con) : Ret Try.prog 33 [.agg #[.int .i64 c.sp, .int .i64 c.st, .int .i64 c.pr, .int .i64 c.pe, .int .i64 c.mo, .int .i64 c.rf, .int .i64 c.rd]].toArray w (.int .i64 (chkC c)) := by
  refine Ret.of mixed tyTab Try.func33 rfl rfl ?_
  refine W.sreg ?_
  refine WO.boxA rfl rfl (fun b1 hb1 => ?_)
  refine WO.p rfl rfl ?_
  refine WO.nil ?_
  refine W.seq ?_
  refine W.sreg ?_
  refine WO.field0 rfl rfl rfl (WO.load rfl rfl (Cell.own Pick.head rfl) rfl ?_)
  refine WO.callR rfl Try.call52 (fun L w hi => ref_between w c.sp 0 20000) rfl ?_
  refine WO.p rfl rfl (WO.p rfl rfl ?_)
  refine WO.guard_nbl rfl rfl (fun c1 => ?_) (fun c1 => ?_)
  · first
    | (exfalso; omega)
    | (refine WO.no rfl rfl (WO.no rfl rfl (WO.no rfl rfl (WO.no rfl rfl (WO.p rfl rfl (WO.p rfl rfl (WO.no rfl rfl (WO.no rfl rfl (WO.no rfl rfl (WO.no rfl rfl (WO.p rfl rfl (WO.p rfl rfl ?_)))))))))))
       refine WO.no rfl rfl (WO.no rfl rfl (WO.no rfl rfl (WO.no rfl rfl (WO.p rfl rfl (WO.p rfl rfl (WO.no rfl rfl (WO.no rfl rfl (WO.no rfl rfl (WO.no rfl rfl (WO.p rfl rfl (WO.p rfl rfl ?_)))))))))))
       refine WO.no rfl rfl (WO.no rfl rfl (WO.no rfl rfl (WO.no rfl rfl (WO.no rfl rfl (WO.no rfl rfl (WO.p rfl rfl (WO.p rfl rfl (WO.no rfl rfl (WO.no rfl rfl (WO.no rfl rfl (WO.no rfl rfl ?_)))))))))))
       refine WO.no rfl rfl (WO.no rfl rfl (WO.p rfl rfl ?_))
       refine WO.nil ?_
       refine W.cond_t rfl ?_
       refine W.sreg ?_
       refine WO.p rfl rfl ?_
       refine WO.nil ?_
       refine W.ret ?_
       refine fin.ret (Res.one rfl (RV.tmp rfl)) (congrArg (Value.int .i64) ?_)
       first | exact (chkC_0 ⟨by omega, by omega, by omega, by omega, by omega, by omega, by omega⟩).symm | exact (chkC_2 (fun h => by have h1 := h.sp; have h2 := h.st; have h3 := h.pr; have h4 := h.pe; have h5 := h.rd; have h6 := h.mo; have h7 := h.rf; omega)).symm)
  · first
    | (exfalso; omega)
    | (refine WO.go' rfl (WO.fieldL rfl rfl rfl (WO.go' rfl (WO.load rfl rfl (Cell.own Pick.head rfl) rfl (WO.go' rfl ?_))))
       refine WO.callR rfl Try.call52 (fun L w hi => ref_between w c.st 1 1000) rfl ?_
       refine WO.pg rfl rfl rfl (WO.p rfl rfl (WO.p rfl rfl ?_))
       refine WO.guard_nbl rfl rfl (fun c2 => ?_) (fun c2 => ?_)
       · first
         | (exfalso; omega)
         | (refine WO.no rfl rfl (WO.no rfl rfl (WO.no rfl rfl (WO.no rfl rfl (WO.p rfl rfl (WO.p rfl rfl (WO.no rfl rfl (WO.no rfl rfl (WO.no rfl rfl (WO.no rfl rfl (WO.p rfl rfl (WO.p rfl rfl ?_)))))))))))
            refine WO.no rfl rfl (WO.no rfl rfl (WO.no rfl rfl (WO.no rfl rfl (WO.p rfl rfl (WO.p rfl rfl (WO.no rfl rfl (WO.no rfl rfl (WO.no rfl rfl (WO.no rfl rfl (WO.no rfl rfl (WO.no rfl rfl ?_)))))))))))
            refine WO.p rfl rfl (WO.p rfl rfl (WO.no rfl rfl (WO.no rfl rfl (WO.no rfl rfl (WO.no rfl rfl (WO.no rfl rfl (WO.no rfl rfl (WO.p rfl rfl ?_))))))))
            refine WO.nil ?_
            refine W.cond_t rfl ?_
            refine W.sreg ?_
            refine WO.p rfl rfl ?_
            refine WO.nil ?_
            refine W.ret ?_
            refine fin.ret (Res.one rfl (RV.tmp rfl)) (congrArg (Value.int .i64) ?_)
            first | exact (chkC_0 ⟨by omega, by omega, by omega, by omega, by omega, by omega, by omega⟩).symm | exact (chkC_2 (fun h => by have h1 := h.sp; have h2 := h.st; have h3 := h.pr; have h4 := h.pe; have h5 := h.rd; have h6 := h.mo; have h7 := h.rf; omega)).symm)
       · first
         | (exfalso; omega)
         | (refine WO.go' rfl (WO.fieldL rfl rfl rfl (WO.go' rfl (WO.load rfl rfl (Cell.own Pick.head rfl) rfl (WO.go' rfl ?_))))
            refine WO.callR rfl Try.call52 (fun L w hi => ref_between w c.pr 0 1000000000) rfl ?_
            refine WO.pg rfl rfl rfl (WO.p rfl rfl (WO.p rfl rfl ?_))
            refine WO.guard_nbl rfl rfl (fun c3 => ?_) (fun c3 => ?_)
            · first
              | (exfalso; omega)
              | (refine WO.no rfl rfl (WO.no rfl rfl (WO.no rfl rfl (WO.no rfl rfl (WO.p rfl rfl (WO.p rfl rfl (WO.no rfl rfl (WO.no rfl rfl (WO.no rfl rfl (WO.no rfl rfl (WO.p rfl rfl (WO.p rfl rfl ?_)))))))))))
                 refine WO.no rfl rfl (WO.no rfl rfl (WO.no rfl rfl (WO.no rfl rfl (WO.no rfl rfl (WO.no rfl rfl (WO.p rfl rfl (WO.p rfl rfl (WO.no rfl rfl (WO.no rfl rfl (WO.no rfl rfl (WO.no rfl rfl ?_)))))))))))
                 refine WO.no rfl rfl (WO.no rfl rfl (WO.p rfl rfl ?_))
                 refine WO.nil ?_
                 refine W.cond_t rfl ?_
                 refine W.sreg ?_
                 refine WO.p rfl rfl ?_
                 refine WO.nil ?_
                 refine W.ret ?_
                 refine fin.ret (Res.one rfl (RV.tmp rfl)) (congrArg (Value.int .i64) ?_)
                 first | exact (chkC_0 ⟨by omega, by omega, by omega, by omega, by omega, by omega, by omega⟩).symm | exact (chkC_2 (fun h => by have h1 := h.sp; have h2 := h.st; have h3 := h.pr; have h4 := h.pe; have h5 := h.rd; have h6 := h.mo; have h7 := h.rf; omega)).symm)
            · first
              | (exfalso; omega)
              | (refine WO.go' rfl (WO.fieldL rfl rfl rfl (WO.go' rfl (WO.load rfl rfl (Cell.own Pick.head rfl) rfl (WO.go' rfl ?_))))
                 refine WO.callR rfl Try.call52 (fun L w hi => ref_between w c.pe 0 1000000000) rfl ?_
                 refine WO.pg rfl rfl rfl (WO.p rfl rfl (WO.p rfl rfl ?_))
                 refine WO.guard_nbl rfl rfl (fun c4 => ?_) (fun c4 => ?_)
                 · first
                   | (exfalso; omega)
                   | (refine WO.no rfl rfl (WO.no rfl rfl (WO.no rfl rfl (WO.no rfl rfl (WO.p rfl rfl (WO.p rfl rfl (WO.no rfl rfl (WO.no rfl rfl (WO.no rfl rfl (WO.no rfl rfl (WO.no rfl rfl (WO.no rfl rfl ?_)))))))))))
                      refine WO.p rfl rfl (WO.p rfl rfl (WO.no rfl rfl (WO.no rfl rfl (WO.no rfl rfl (WO.no rfl rfl (WO.no rfl rfl (WO.no rfl rfl (WO.p rfl rfl ?_))))))))
                      refine WO.nil ?_
                      refine W.cond_t rfl ?_
                      refine W.sreg ?_
                      refine WO.p rfl rfl ?_
                      refine WO.nil ?_
                      refine W.ret ?_
                      refine fin.ret (Res.one rfl (RV.tmp rfl)) (congrArg (Value.int .i64) ?_)
                      first | exact (chkC_0 ⟨by omega, by omega, by omega, by omega, by omega, by omega, by omega⟩).symm | exact (chkC_2 (fun h => by have h1 := h.sp; have h2 := h.st; have h3 := h.pr; have h4 := h.pe; have h5 := h.rd; have h6 := h.mo; have h7 := h.rf; omega)).symm)
                 · first
                   | (exfalso; omega)
                   | (refine WO.go' rfl (WO.fieldL rfl rfl rfl (WO.go' rfl (WO.load rfl rfl (Cell.own Pick.head rfl) rfl (WO.go' rfl ?_))))
                      refine WO.callR rfl Try.call52 (fun L w hi => ref_between w c.rd 0 1000000000) rfl ?_
                      refine WO.pg rfl rfl rfl (WO.p rfl rfl (WO.p rfl rfl ?_))
                      refine WO.guard_nbl rfl rfl (fun c5 => ?_) (fun c5 => ?_)
                      · first
                        | (exfalso; omega)
                        | (refine WO.no rfl rfl (WO.no rfl rfl (WO.no rfl rfl (WO.no rfl rfl (WO.no rfl rfl (WO.no rfl rfl (WO.p rfl rfl (WO.p rfl rfl (WO.no rfl rfl (WO.no rfl rfl (WO.no rfl rfl (WO.no rfl rfl ?_)))))))))))
                           refine WO.no rfl rfl (WO.no rfl rfl (WO.p rfl rfl ?_))
                           refine WO.nil ?_
                           refine W.cond_t rfl ?_
                           refine W.sreg ?_
                           refine WO.p rfl rfl ?_
                           refine WO.nil ?_
                           refine W.ret ?_
                           refine fin.ret (Res.one rfl (RV.tmp rfl)) (congrArg (Value.int .i64) ?_)
                           first | exact (chkC_0 ⟨by omega, by omega, by omega, by omega, by omega, by omega, by omega⟩).symm | exact (chkC_2 (fun h => by have h1 := h.sp; have h2 := h.st; have h3 := h.pr; have h4 := h.pe; have h5 := h.rd; have h6 := h.mo; have h7 := h.rf; omega)).symm)
                      · first
                        | (exfalso; omega)
                        | (refine WO.go' rfl (WO.fieldL rfl rfl rfl (WO.go' rfl (WO.load rfl rfl (Cell.own Pick.head rfl) rfl (WO.go' rfl (WO.fieldL rfl rfl rfl (WO.go' rfl (WO.load rfl rfl (Cell.own Pick.head rfl) rfl (WO.go' rfl ?_))))))))
                           refine WO.callR rfl Try.call52 (fun L w hi => ref_between w c.mo 0 c.rd) rfl ?_
                           refine WO.pg rfl rfl rfl (WO.p rfl rfl (WO.p rfl rfl ?_))
                           refine WO.guard_nbl rfl rfl (fun c6 => ?_) (fun c6 => ?_)
                           · first
                             | (exfalso; omega)
                             | (refine WO.no rfl rfl (WO.no rfl rfl (WO.no rfl rfl (WO.no rfl rfl (WO.no rfl rfl (WO.no rfl rfl (WO.p rfl rfl ?_))))))
                                refine WO.nil ?_
                                refine W.cond_t rfl ?_
                                refine W.sreg ?_
                                refine WO.p rfl rfl ?_
                                refine WO.nil ?_
                                refine W.ret ?_
                                refine fin.ret (Res.one rfl (RV.tmp rfl)) (congrArg (Value.int .i64) ?_)
                                first | exact (chkC_0 ⟨by omega, by omega, by omega, by omega, by omega, by omega, by omega⟩).symm | exact (chkC_2 (fun h => by have h1 := h.sp; have h2 := h.st; have h3 := h.pr; have h4 := h.pe; have h5 := h.rd; have h6 := h.mo; have h7 := h.rf; omega)).symm)
                           · first
                             | (exfalso; omega)
                             | (refine WO.go' rfl (WO.fieldL rfl rfl rfl (WO.go' rfl (WO.load rfl rfl (Cell.own Pick.head rfl) rfl (WO.go' rfl (WO.field0 rfl rfl rfl (WO.go' rfl (WO.load rfl rfl (Cell.own Pick.head rfl) rfl (WO.go' rfl ?_))))))))
                                refine WO.callR rfl Try.call52 (fun L w hi => ref_between w c.rf 0 c.sp) rfl ?_
                                refine WO.pg rfl rfl rfl (WO.p rfl rfl ?_)
                                refine WO.nil ?_
                                refine W.cond_nbl rfl (fun c7 => ?_) (fun c7 => ?_)
                                · first
                                  | (exfalso; omega)
                                  | (refine W.sreg ?_
                                     refine WO.p rfl rfl ?_
                                     refine WO.nil ?_
                                     refine W.ret ?_
                                     refine fin.ret (Res.one rfl (RV.tmp rfl)) (congrArg (Value.int .i64) ?_)
                                     first | exact (chkC_0 ⟨by omega, by omega, by omega, by omega, by omega, by omega, by omega⟩).symm | exact (chkC_2 (fun h => by have h1 := h.sp; have h2 := h.st; have h3 := h.pr; have h4 := h.pe; have h5 := h.rd; have h6 := h.mo; have h7 := h.rf; omega)).symm)
                                · first
                                  | (exfalso; omega)
                                  | (refine W.skip ?_
                                     refine W.sreg ?_
                                     refine WO.p rfl rfl ?_
                                     refine WO.nil ?_
                                     refine W.ret ?_
                                     refine fin.ret (Res.one rfl (RV.tmp rfl)) (congrArg (Value.int .i64) ?_)
                                     first | exact (chkC_0 ⟨by omega, by omega, by omega, by omega, by omega, by omega, by omega⟩).symm | exact (chkC_2 (fun h => by have h1 := h.sp; have h2 := h.st; have h3 := h.pr; have h4 := h.pe; have h5 := h.rd; have h6 := h.mo; have h7 := h.rf; omega)).symm)))))))
/-- a fraction that can be a speed, but for its least terms -/
def SpB (n d : Int) : Prop := (1 ≤ d ∧ d ≤ 10000000000) ∧ 0 ≤ n ∧ n ≤ 20000 * d
def isS (n d : Int) : Prop := SpB n d ∧ red n d = (n, d)
/-- what is paid for a speed -/
def payV (c : Con) (n d : Int) : Int :=
  if n < c.rf * d then -c.rd
  else if 0 ≤ n - c.sp * d then min c.mo (c.pr * (n - c.sp * d).tdiv (c.st * d))
  else -(min c.mo (c.pe * ((-(n - c.sp * d)).tdiv (c.st * d) + if (-(n - c.sp * d)).tmod (c.st * d) ≠ 0 then 1 else 0)))
theorem q20 {a s : Int} (h0 : 0 ≤ a) (h : a ≤ 20000 * s) (hs : 0 < s) : 0 ≤ a.tdiv s ∧ a.tdiv s ≤ 20000 := by
  refine ⟨Int.tdiv_nonneg h0 (by omega), ?_⟩
  rw [Int.tdiv_eq_ediv_of_nonneg h0]
  exact Int.ediv_le_of_le_mul hs h
theorem mulE9 {a b : Int} (ha : 0 ≤ a ∧ a ≤ 1000000000) (hb : 0 ≤ b ∧ b ≤ 20001) : 0 ≤ a * b ∧ a * b ≤ 20001000000000 :=
  ⟨Int.mul_nonneg ha.1 hb.1, Int.mul_le_mul (c := 1000000000) (d := 20001) ha.2 hb.2 hb.1 (by omega)⟩
/-- rounded up -/
theorem ceil_q {b s : Int} (hb : 0 ≤ b) (hs : 0 < s) : (s - 1 + b).tdiv s = b.tdiv s + (if b.tmod s ≠ 0 then 1 else 0) := by
  rw [Int.tdiv_eq_ediv_of_nonneg hb, Int.tdiv_eq_ediv_of_nonneg (by omega), Int.tmod_eq_emod_of_nonneg hb]
  have h1 := Int.emod_nonneg b (show s ≠ 0 by omega)
  have h2 := Int.emod_lt_of_pos b hs
  have h3 := Int.mul_ediv_add_emod b s
  have e : s - 1 + b = (b % s + (s - 1)) + s * (b / s) := by omega
  rw [e, Int.add_mul_ediv_left _ _ (by omega)]
  by_cases h : b % s = 0
  · rw [if_neg (by simp [h]), h, Int.zero_add, Int.ediv_eq_zero_of_lt (by omega) (by omega)]; omega
  · rw [if_pos h, show b % s + (s - 1) = (b % s - 1) + s * 1 by omega, Int.add_mul_ediv_left _ _ (by omega), Int.ediv_eq_zero_of_lt (by omega) (by omega)]; omega
/-- what is needed of the numbers -/
structure PB (c : Con) (n d : Int) : Prop where
  i1 : 0 ≤ c.sp * d ∧ c.sp * d ≤ 20000 * d
  i2 : d ≤ c.st * d ∧ c.st * d ≤ 1000 * d
  i3 : 0 ≤ c.rf * d ∧ c.rf * d ≤ c.sp * d
  hi : 0 ≤ n - c.sp * d → 0 ≤ (n - c.sp * d).tdiv (c.st * d) ∧ (n - c.sp * d).tdiv (c.st * d) ≤ 20000
  lo : n - c.sp * d < 0 → 0 ≤ (-(n - c.sp * d)).tdiv (c.st * d) ∧ (-(n - c.sp * d)).tdiv (c.st * d) ≤ 20000
  hp : 0 ≤ n - c.sp * d → 0 ≤ c.pr * (n - c.sp * d).tdiv (c.st * d) ∧ c.pr * (n - c.sp * d).tdiv (c.st * d) ≤ 20001000000000
  up : n - c.sp * d < 0 → (c.st * d - 1 - (n - c.sp * d)).tdiv (c.st * d) = (-(n - c.sp * d)).tdiv (c.st * d) + (if (-(n - c.sp * d)).tmod (c.st * d) ≠ 0 then 1 else 0)
  lp : n - c.sp * d < 0 → 0 ≤ c.pe * (c.st * d - 1 - (n - c.sp * d)).tdiv (c.st * d) ∧ c.pe * (c.st * d - 1 - (n - c.sp * d)).tdiv (c.st * d) ≤ 20001000000000
theorem PB.of {c : Con} {n d : Int} (h : OkC c) (hs : SpB n d) : PB c n d := by
  obtain ⟨⟨d1, d2⟩, n1, n2⟩ := hs
  have a1 := h.sp; have a2 := h.st; have a3 := h.rf; have a4 := h.pr; have a5 := h.pe
  have i1 : 0 ≤ c.sp * d ∧ c.sp * d ≤ 20000 * d := ⟨Int.mul_nonneg a1.1 (by omega), Int.mul_le_mul_of_nonneg_right a1.2 (by omega)⟩
  have i2 : d ≤ c.st * d ∧ c.st * d ≤ 1000 * d := ⟨by have := Int.mul_le_mul_of_nonneg_right a2.1 (show 0 ≤ d by omega); omega, Int.mul_le_mul_of_nonneg_right a2.2 (by omega)⟩
  have i3 : 0 ≤ c.rf * d ∧ c.rf * d ≤ c.sp * d := ⟨Int.mul_nonneg a3.1 (by omega), Int.mul_le_mul_of_nonneg_right a3.2 (by omega)⟩
  have hi : 0 ≤ n - c.sp * d → 0 ≤ (n - c.sp * d).tdiv (c.st * d) ∧ (n - c.sp * d).tdiv (c.st * d) ≤ 20000 := fun h => q20 h (by omega) (by omega)
  have lo : n - c.sp * d < 0 → 0 ≤ (-(n - c.sp * d)).tdiv (c.st * d) ∧ (-(n - c.sp * d)).tdiv (c.st * d) ≤ 20000 := fun h => q20 (by omega) (by omega) (by omega)
  have up : n - c.sp * d < 0 → (c.st * d - 1 - (n - c.sp * d)).tdiv (c.st * d) = (-(n - c.sp * d)).tdiv (c.st * d) + (if (-(n - c.sp * d)).tmod (c.st * d) ≠ 0 then 1 else 0) := fun h => by
    have := ceil_q (b := -(n - c.sp * d)) (s := c.st * d) (by omega) (by omega)
    rw [← this]; congr 1
  refine ⟨i1, i2, i3, hi, lo, fun h => mulE9 a4 ⟨(hi h).1, by have := (hi h).2; omega⟩, up, fun h => mulE9 a5 ?_⟩
  have h1 := lo h
  rw [up h]
  split <;> omega
theorem pay_1 {c : Con} {n d : Int} (h : n < c.rf * d) : -c.rd = payV c n d := by unfold payV; rw [if_pos h]
theorem pay_2 {c : Con} {n d : Int} (h : ¬ n < c.rf * d) (h2 : 0 ≤ n - c.sp * d) : min c.mo (c.pr * (n - c.sp * d).tdiv (c.st * d)) = payV c n d := by unfold payV; rw [if_neg h, if_pos h2]
theorem pay_3 {c : Con} {n d : Int} (h : ¬ n < c.rf * d) (h2 : ¬ 0 ≤ n - c.sp * d) (hp : PB c n d) : max (-c.mo) (-(c.st * d - 1 - (n - c.sp * d)).tdiv (c.st * d) * c.pe) = payV c n d := by
  unfold payV; rw [if_neg h, if_neg h2, ← hp.up (by omega), Int.neg_mul, Int.mul_comm _ c.pe]
  omega
theorem c_pay (w : World) (c : Con) (n d : Int) (hc : OkC c) (hs : SpB n d) : Ret Try.prog 60 [.agg #[.int .i64 c.sp, .int .i64 c.st, .int .i64 c.pr, .int .i64 c.pe, .int .i64 c.mo, .int .i64 c.rf, .int .i64 c.rd], .agg #[.int .i64 n, .int .i64 d]].toArray w (.int .i64 (payV c n d)) := by
  refine Ret.of mixed tyTab Try.func60 rfl rfl ?_
  have hp := PB.of hc hs
  obtain ⟨⟨d1, d2⟩, n1, n2⟩ := hs
  have p1 := hp.i1; have p2 := hp.i2; have p3 := hp.i3
  have a4 := hc.pr; have a5 := hc.pe; have a6 := hc.rd; have a7 := hc.mo
  refine W.sreg ?_
  refine WO.boxA rfl rfl (fun b1 hb1 => ?_)
  refine WO.boxA rfl rfl (fun b2 hb2 => ?_)
  refine WO.p rfl rfl ?_
  refine WO.nil ?_
  refine W.seq ?_
  refine W.drawD 14 [.r 0 [], .b 1 [], .r 2 [], .b 3 [], .r 4 [], .b 5 [], .r 6 [], .r 7 [], .r 8 [], .b 9 [], .r 10 [], .b 11 [], .r 12 [], .r 13 []] [] (A0 := []) (Sub.refl _) (by kernel_rfl) ?_ ?_
  · exact (ALok.r (ALok.b (ALok.r (ALok.b (ALok.r (ALok.b (ALok.r (ALok.r (ALok.r (ALok.b (ALok.r (ALok.b (ALok.r (ALok.r ALok.nil))))))))))))))
  refine' DT.r rfl rfl rfl ?hq ?_
  case hq =>
    refine WO.field0 rfl rfl rfl ?_
    exact WO.nil ⟨rfl, rfl⟩
  refine' DT.b rfl rfl rfl ?hq ?_
  case hq =>
    refine WO.load rfl rfl (Cell.own Pick.head rfl) rfl ?_
    exact WO.nil ⟨rfl, rfl⟩
  refine' DT.r rfl rfl rfl ?hq ?_
  case hq =>
    refine WO.field0 rfl rfl rfl ?_
    exact WO.nil ⟨rfl, rfl⟩
  refine' DT.b rfl rfl rfl ?hq ?_
  case hq =>
    refine WO.load rfl rfl (Cell.own (Pick.tail (Pick.head)) rfl) rfl ?_
    exact WO.nil ⟨rfl, rfl⟩
  refine' DT.r rfl rfl rfl ?hq ?_
  case hq =>
    refine WO.fieldL rfl rfl rfl ?_
    exact WO.nil ⟨rfl, rfl⟩
  refine' DT.b rfl rfl rfl ?hq ?_
  case hq =>
    refine WO.load rfl rfl (Cell.own Pick.head rfl) rfl ?_
    exact WO.nil ⟨rfl, rfl⟩
  refine' DT.r rfl rfl rfl ?hq ?_
  case hq =>
    refine WO.ar rfl rfl rfl (by (first | (unfold in64; omega) | (unfold in64; omega) | (rw [Int.neg_mul]; unfold in64; omega))) rfl ?_
    exact WO.nil ⟨rfl, rfl⟩
  refine' DT.r rfl rfl rfl ?hq ?_
  case hq =>
    refine WO.ar rfl rfl rfl (by (first | (unfold in64; omega) | (unfold in64; omega) | (rw [Int.neg_mul]; unfold in64; omega))) rfl ?_
    exact WO.nil ⟨rfl, rfl⟩
  refine' DT.r rfl rfl rfl ?hq ?_
  case hq =>
    refine WO.fieldL rfl rfl rfl ?_
    exact WO.nil ⟨rfl, rfl⟩
  refine' DT.b rfl rfl rfl ?hq ?_
  case hq =>
    refine WO.load rfl rfl (Cell.own (Pick.tail (Pick.head)) rfl) rfl ?_
    exact WO.nil ⟨rfl, rfl⟩
  refine' DT.r rfl rfl rfl ?hq ?_
  case hq =>
    refine WO.fieldL rfl rfl rfl ?_
    exact WO.nil ⟨rfl, rfl⟩
  refine' DT.b rfl rfl rfl ?hq ?_
  case hq =>
    refine WO.load rfl rfl (Cell.own Pick.head rfl) rfl ?_
    exact WO.nil ⟨rfl, rfl⟩
  refine' DT.r rfl rfl rfl ?hq ?_
  case hq =>
    refine WO.ar rfl rfl rfl (by (first | (unfold in64; omega) | (unfold in64; omega) | (rw [Int.neg_mul]; unfold in64; omega))) rfl ?_
    exact WO.nil ⟨rfl, rfl⟩
  refine' DT.r rfl rfl rfl ?hq ?_
  case hq =>
    refine WO.p rfl rfl ?_
    exact WO.nil ⟨rfl, rfl⟩
  refine DT.nil [_, _] rfl ?_
  refine WO.p rfl rfl ?_
  refine WO.nil ?_
  refine W.seq ?_
  refine W.block ?_
  refine W.sreg ?_
  refine WO.p rfl rfl (WO.p rfl rfl (WO.p rfl rfl ?_))
  refine WO.nil ?_
  refine W.cond_bl rfl (fun c1 => ?_) (fun c1 => ?_)
  · first
    | (exfalso; omega)
    | (refine W.seq ?_
       have q1 := hp.hi (by omega)
       have q2 := hp.hp (by omega)
       rw [Int.mul_comm] at q2
       refine W.drawD 8 [.r 0 [], .b 1 [], .r 2 [], .r 3 [], .r 4 [], .r 5 [], .b 6 [], .r 7 []] [] (A0 := []) (Sub.refl _) (by kernel_rfl) ?_ ?_
       · exact (ALok.r (ALok.b (ALok.r (ALok.r (ALok.r (ALok.r (ALok.b (ALok.r ALok.nil))))))))
       refine' DT.r rfl rfl rfl ?hq ?_
       case hq =>
         refine WO.fieldL rfl rfl rfl ?_
         exact WO.nil ⟨rfl, rfl⟩
       refine' DT.b rfl rfl rfl ?hq ?_
       case hq =>
         refine WO.load rfl rfl (Cell.own (Pick.tail (Pick.head)) rfl) rfl ?_
         exact WO.nil ⟨rfl, rfl⟩
       refine' DT.r rfl rfl rfl ?hq ?_
       case hq =>
         refine WO.p rfl rfl ?_
         exact WO.nil ⟨rfl, rfl⟩
       refine' DT.r rfl rfl rfl ?hq ?_
       case hq =>
         refine WO.p rfl rfl ?_
         exact WO.nil ⟨rfl, rfl⟩
       refine' DT.r rfl rfl rfl ?hq ?_
       case hq =>
         refine WO.quo rfl rfl (by first | omega | assumption) (by (first | (unfold in64; omega) | (unfold in64; omega) | (rw [Int.neg_mul]; unfold in64; omega))) rfl ?_
         exact WO.nil ⟨rfl, rfl⟩
       refine' DT.r rfl rfl rfl ?hq ?_
       case hq =>
         refine WO.fieldL rfl rfl rfl ?_
         exact WO.nil ⟨rfl, rfl⟩
       refine' DT.b rfl rfl rfl ?hq ?_
       case hq =>
         refine WO.load rfl rfl (Cell.own (Pick.tail (Pick.head)) rfl) rfl ?_
         exact WO.nil ⟨rfl, rfl⟩
       refine' DT.r rfl rfl rfl ?hq ?_
       case hq =>
         refine WO.ar rfl rfl rfl (by (first | (unfold in64; omega) | (unfold in64; omega) | (rw [Int.neg_mul]; unfold in64; omega))) rfl ?_
         exact WO.nil ⟨rfl, rfl⟩
       refine DT.nil [_, _] rfl ?_
       refine WO.min2 rfl rfl rfl ?_
       refine WO.p rfl rfl ?_
       refine WO.nil ?_
       refine W.ret ?_
       refine fin.ret (Res.one rfl (RV.tmp rfl)) (congrArg (Value.int .i64) ?_)
       first | exact pay_1 (by assumption) | (rw [Int.mul_comm _ c.pr]; exact pay_2 (by omega) (by assumption)) | exact pay_3 (by assumption) (by assumption) hp)
  · first
    | (exfalso; omega)
    | (refine W.sreg ?_
       refine WO.field0 rfl rfl rfl (WO.load rfl rfl (Cell.own Pick.head rfl) rfl (WO.fieldL rfl rfl rfl (WO.load rfl rfl (Cell.own (Pick.tail (Pick.head)) rfl) rfl (WO.fieldL rfl rfl rfl (WO.load rfl rfl (Cell.own Pick.head rfl) rfl (WO.ar rfl rfl rfl (by (first | (unfold in64; omega) | (unfold in64; omega) | (rw [Int.neg_mul]; unfold in64; omega))) rfl (WO.p rfl rfl (WO.p rfl rfl ?_))))))))
       refine WO.nil ?_
       refine W.cond_bl rfl (fun c2 => ?_) (fun c2 => ?_)
       · first
         | (exfalso; omega)
         | (refine W.sreg ?_
            refine WO.fieldL rfl rfl rfl (WO.load rfl rfl (Cell.own (Pick.tail (Pick.head)) rfl) rfl (WO.neg rfl (by (first | (unfold in64; omega) | (unfold in64; omega) | (rw [Int.neg_mul]; unfold in64; omega))) rfl (WO.p rfl rfl ?_)))
            refine WO.nil ?_
            refine W.ret ?_
            refine fin.ret (Res.one rfl (RV.tmp rfl)) (congrArg (Value.int .i64) ?_)
            first | exact pay_1 (by assumption) | (rw [Int.mul_comm _ c.pr]; exact pay_2 (by omega) (by assumption)) | exact pay_3 (by assumption) (by assumption) hp)
       · first
         | (exfalso; omega)
         | (refine W.skip ?_
            refine W.seq ?_
            have q1 := hp.lo (by omega)
            have q2 := hp.lp (by omega)
            have q3 := hp.up (by omega)
            rw [Int.mul_comm] at q2
            have q4 : 0 ≤ (c.st * d - 1 - (n - c.sp * d)).tdiv (c.st * d) ∧ (c.st * d - 1 - (n - c.sp * d)).tdiv (c.st * d) ≤ 20001 := by rw [q3]; split <;> omega
            refine W.drawD 13 [.r 0 [], .b 1 [], .r 2 [], .r 3 [], .r 4 [], .r 5 [], .r 6 [], .r 7 [], .r 8 [], .r 9 [], .r 10 [], .b 11 [], .r 12 []] [] (A0 := []) (Sub.refl _) (by kernel_rfl) ?_ ?_
            · exact (ALok.r (ALok.b (ALok.r (ALok.r (ALok.r (ALok.r (ALok.r (ALok.r (ALok.r (ALok.r (ALok.r (ALok.b (ALok.r ALok.nil)))))))))))))
            refine' DT.r rfl rfl rfl ?hq ?_
            case hq =>
              refine WO.fieldL rfl rfl rfl ?_
              exact WO.nil ⟨rfl, rfl⟩
            refine' DT.b rfl rfl rfl ?hq ?_
            case hq =>
              refine WO.load rfl rfl (Cell.own (Pick.tail (Pick.head)) rfl) rfl ?_
              exact WO.nil ⟨rfl, rfl⟩
            refine' DT.r rfl rfl rfl ?hq ?_
            case hq =>
              refine WO.neg rfl (by (first | (unfold in64; omega) | (unfold in64; omega) | (rw [Int.neg_mul]; unfold in64; omega))) rfl ?_
              exact WO.nil ⟨rfl, rfl⟩
            refine' DT.r rfl rfl rfl ?hq ?_
            case hq =>
              refine WO.p rfl rfl ?_
              exact WO.nil ⟨rfl, rfl⟩
            refine' DT.r rfl rfl rfl ?hq ?_
            case hq =>
              refine WO.ar rfl rfl rfl (by (first | (unfold in64; omega) | (unfold in64; omega) | (rw [Int.neg_mul]; unfold in64; omega))) rfl ?_
              exact WO.nil ⟨rfl, rfl⟩
            refine' DT.r rfl rfl rfl ?hq ?_
            case hq =>
              refine WO.p rfl rfl ?_
              exact WO.nil ⟨rfl, rfl⟩
            refine' DT.r rfl rfl rfl ?hq ?_
            case hq =>
              refine WO.ar rfl rfl rfl (by (first | (unfold in64; omega) | (unfold in64; omega) | (rw [Int.neg_mul]; unfold in64; omega))) rfl ?_
              exact WO.nil ⟨rfl, rfl⟩
            refine' DT.r rfl rfl rfl ?hq ?_
            case hq =>
              refine WO.p rfl rfl ?_
              exact WO.nil ⟨rfl, rfl⟩
            refine' DT.r rfl rfl rfl ?hq ?_
            case hq =>
              refine WO.quo rfl rfl (by first | omega | assumption) (by (first | (unfold in64; omega) | (unfold in64; omega) | (rw [Int.neg_mul]; unfold in64; omega))) rfl ?_
              exact WO.nil ⟨rfl, rfl⟩
            refine' DT.r rfl rfl rfl ?hq ?_
            case hq =>
              refine WO.neg rfl (by (first | (unfold in64; omega) | (unfold in64; omega) | (rw [Int.neg_mul]; unfold in64; omega))) rfl ?_
              exact WO.nil ⟨rfl, rfl⟩
            refine' DT.r rfl rfl rfl ?hq ?_
            case hq =>
              refine WO.fieldL rfl rfl rfl ?_
              exact WO.nil ⟨rfl, rfl⟩
            refine' DT.b rfl rfl rfl ?hq ?_
            case hq =>
              refine WO.load rfl rfl (Cell.own (Pick.tail (Pick.head)) rfl) rfl ?_
              exact WO.nil ⟨rfl, rfl⟩
            refine' DT.r rfl rfl rfl ?hq ?_
            case hq =>
              refine WO.ar rfl rfl rfl (by (first | (unfold in64; omega) | (unfold in64; omega) | (rw [Int.neg_mul]; unfold in64; omega))) rfl ?_
              exact WO.nil ⟨rfl, rfl⟩
            refine DT.nil [_, _] rfl ?_
            refine WO.max2 rfl rfl rfl ?_
            refine WO.p rfl rfl ?_
            refine WO.nil ?_
            refine W.ret ?_
            refine fin.ret (Res.one rfl (RV.tmp rfl)) (congrArg (Value.int .i64) ?_)
            first | exact pay_1 (by assumption) | (rw [Int.mul_comm _ c.pr]; exact pay_2 (by omega) (by assumption)) | exact pay_3 (by assumption) (by assumption) hp))
theorem ref_pay (w : World) (c : Con) (n d : Int) (hc : OkC c) (hs : SpB n d) : Ret Try.prog 61 [.agg #[.int .i64 c.sp, .int .i64 c.st, .int .i64 c.pr, .int .i64 c.pe, .int .i64 c.mo, .int .i64 c.rf, .int .i64 c.rd], .agg #[.int .i64 n, .int .i64 d]].toArray w (.int .i64 (payV c n d)) := by
  refine Ret.of mixed tyTab Try.func61 rfl rfl ?_
  have hp := PB.of hc hs
  obtain ⟨⟨d1, d2⟩, n1, n2⟩ := hs
  have p1 := hp.i1; have p2 := hp.i2; have p3 := hp.i3
  have a4 := hc.pr; have a5 := hc.pe; have a6 := hc.rd; have a7 := hc.mo
  refine W.sreg ?_
  refine WO.boxA rfl rfl (fun b1 hb1 => ?_)
  refine WO.boxA rfl rfl (fun b2 hb2 => ?_)
  refine WO.p rfl rfl ?_
  refine WO.nil ?_
  refine W.seq ?_
  refine W.sreg ?_
  refine WO.field0 rfl rfl rfl (WO.load rfl rfl (Cell.own Pick.head rfl) rfl (WO.fieldL rfl rfl rfl (WO.load rfl rfl (Cell.own (Pick.tail (Pick.head)) rfl) rfl (WO.fieldL rfl rfl rfl (WO.load rfl rfl (Cell.own Pick.head rfl) rfl (WO.ar rfl rfl rfl (by (first | (unfold in64; omega) | (unfold in64; omega))) rfl (WO.p rfl rfl ?_)))))))
  refine WO.nil ?_
  refine W.cond_bl rfl (fun c1 => ?_) (fun c1 => ?_)
  · first
    | (exfalso; omega)
    | (refine W.sreg ?_
       refine WO.fieldL rfl rfl rfl (WO.load rfl rfl (Cell.own (Pick.tail (Pick.head)) rfl) rfl (WO.neg rfl (by (first | (unfold in64; omega) | (unfold in64; omega))) rfl (WO.p rfl rfl ?_)))
       refine WO.nil ?_
       refine W.ret ?_
       refine fin.ret (Res.one rfl (RV.tmp rfl)) (congrArg (Value.int .i64) ?_)
       first | exact pay_1 (by assumption) | exact pay_2 (by assumption) (by assumption) | (unfold payV; rw [if_neg (by assumption), if_neg (by assumption)]; first | (rw [if_pos (by assumption)]; done) | (rw [if_neg (by assumption), Int.add_zero]; done)))
  · first
    | (exfalso; omega)
    | (refine W.skip ?_
       refine W.sreg ?_
       refine WO.field0 rfl rfl rfl (WO.load rfl rfl (Cell.own Pick.head rfl) rfl (WO.field0 rfl rfl rfl (WO.load rfl rfl (Cell.own (Pick.tail (Pick.head)) rfl) rfl (WO.fieldL rfl rfl rfl (WO.load rfl rfl (Cell.own Pick.head rfl) rfl (WO.ar rfl rfl rfl (by (first | (unfold in64; omega) | (unfold in64; omega))) rfl (WO.ar rfl rfl rfl (by (first | (unfold in64; omega) | (unfold in64; omega))) rfl (WO.p rfl rfl ?_))))))))
       refine WO.nil ?_
       refine W.seq ?_
       refine W.sreg ?_
       refine WO.p rfl rfl (WO.p rfl rfl ?_)
       refine WO.nil ?_
       refine W.cond_bl rfl (fun c2 => ?_) (fun c2 => ?_)
       · first
         | (exfalso; omega)
         | (refine W.seq ?_
            have q1 := hp.hi (by omega)
            have q2 := hp.hp (by omega)
            refine W.drawD 12 [.r 0 [], .b 1 [], .r 2 [], .b 3 [], .r 4 [], .r 5 [], .b 6 [], .r 7 [], .b 8 [], .r 9 [], .r 10 [], .r 11 []] [] (A0 := []) (Sub.refl _) (by kernel_rfl) ?_ ?_
            · exact (ALok.r (ALok.b (ALok.r (ALok.b (ALok.r (ALok.r (ALok.b (ALok.r (ALok.b (ALok.r (ALok.r (ALok.r ALok.nil))))))))))))
            refine' DT.r rfl rfl rfl ?hq ?_
            case hq =>
              refine WO.fieldL rfl rfl rfl ?_
              exact WO.nil ⟨rfl, rfl⟩
            refine' DT.b rfl rfl rfl ?hq ?_
            case hq =>
              refine WO.load rfl rfl (Cell.own (Pick.tail (Pick.head)) rfl) rfl ?_
              exact WO.nil ⟨rfl, rfl⟩
            refine' DT.r rfl rfl rfl ?hq ?_
            case hq =>
              refine WO.fieldL rfl rfl rfl ?_
              exact WO.nil ⟨rfl, rfl⟩
            refine' DT.b rfl rfl rfl ?hq ?_
            case hq =>
              refine WO.load rfl rfl (Cell.own (Pick.tail (Pick.head)) rfl) rfl ?_
              exact WO.nil ⟨rfl, rfl⟩
            refine' DT.r rfl rfl rfl ?hq ?_
            case hq =>
              refine WO.p rfl rfl ?_
              exact WO.nil ⟨rfl, rfl⟩
            refine' DT.r rfl rfl rfl ?hq ?_
            case hq =>
              refine WO.fieldL rfl rfl rfl ?_
              exact WO.nil ⟨rfl, rfl⟩
            refine' DT.b rfl rfl rfl ?hq ?_
            case hq =>
              refine WO.load rfl rfl (Cell.own (Pick.tail (Pick.head)) rfl) rfl ?_
              exact WO.nil ⟨rfl, rfl⟩
            refine' DT.r rfl rfl rfl ?hq ?_
            case hq =>
              refine WO.fieldL rfl rfl rfl ?_
              exact WO.nil ⟨rfl, rfl⟩
            refine' DT.b rfl rfl rfl ?hq ?_
            case hq =>
              refine WO.load rfl rfl (Cell.own Pick.head rfl) rfl ?_
              exact WO.nil ⟨rfl, rfl⟩
            refine' DT.r rfl rfl rfl ?hq ?_
            case hq =>
              refine WO.ar rfl rfl rfl (by (first | (unfold in64; omega) | (unfold in64; omega))) rfl ?_
              exact WO.nil ⟨rfl, rfl⟩
            refine' DT.r rfl rfl rfl ?hq ?_
            case hq =>
              refine WO.quo rfl rfl (by first | omega | assumption) (by (first | (unfold in64; omega) | (unfold in64; omega))) rfl ?_
              exact WO.nil ⟨rfl, rfl⟩
            refine' DT.r rfl rfl rfl ?hq ?_
            case hq =>
              refine WO.ar rfl rfl rfl (by (first | (unfold in64; omega) | (unfold in64; omega))) rfl ?_
              exact WO.nil ⟨rfl, rfl⟩
            refine DT.nil [_, _] rfl ?_
            refine WO.min2 rfl rfl rfl ?_
            refine WO.p rfl rfl ?_
            refine WO.nil ?_
            refine W.ret ?_
            refine fin.ret (Res.one rfl (RV.tmp rfl)) (congrArg (Value.int .i64) ?_)
            first | exact pay_1 (by assumption) | exact pay_2 (by assumption) (by assumption) | (unfold payV; rw [if_neg (by assumption), if_neg (by assumption)]; first | (rw [if_pos (by assumption)]; done) | (rw [if_neg (by assumption), Int.add_zero]; done)))
       · first
         | (exfalso; omega)
         | (refine W.skip ?_
            refine W.seq ?_
            refine W.drawD 8 [.r 0 [], .r 1 [], .r 2 [], .b 3 [], .r 4 [], .b 5 [], .r 6 [], .r 7 []] [] (A0 := []) (Sub.refl _) (by kernel_rfl) ?_ ?_
            · exact (ALok.r (ALok.r (ALok.r (ALok.b (ALok.r (ALok.b (ALok.r (ALok.r ALok.nil))))))))
            refine' DT.r rfl rfl rfl ?hq ?_
            case hq =>
              refine WO.p rfl rfl ?_
              exact WO.nil ⟨rfl, rfl⟩
            refine' DT.r rfl rfl rfl ?hq ?_
            case hq =>
              refine WO.neg rfl (by (first | (unfold in64; omega) | (unfold in64; omega))) rfl ?_
              exact WO.nil ⟨rfl, rfl⟩
            refine' DT.r rfl rfl rfl ?hq ?_
            case hq =>
              refine WO.fieldL rfl rfl rfl ?_
              exact WO.nil ⟨rfl, rfl⟩
            refine' DT.b rfl rfl rfl ?hq ?_
            case hq =>
              refine WO.load rfl rfl (Cell.own (Pick.tail (Pick.head)) rfl) rfl ?_
              exact WO.nil ⟨rfl, rfl⟩
            refine' DT.r rfl rfl rfl ?hq ?_
            case hq =>
              refine WO.fieldL rfl rfl rfl ?_
              exact WO.nil ⟨rfl, rfl⟩
            refine' DT.b rfl rfl rfl ?hq ?_
            case hq =>
              refine WO.load rfl rfl (Cell.own Pick.head rfl) rfl ?_
              exact WO.nil ⟨rfl, rfl⟩
            refine' DT.r rfl rfl rfl ?hq ?_
            case hq =>
              refine WO.ar rfl rfl rfl (by (first | (unfold in64; omega) | (unfold in64; omega))) rfl ?_
              exact WO.nil ⟨rfl, rfl⟩
            refine' DT.r rfl rfl rfl ?hq ?_
            case hq =>
              refine WO.p rfl rfl ?_
              exact WO.nil ⟨rfl, rfl⟩
            refine DT.nil [_, _] rfl ?_
            refine WO.p rfl rfl ?_
            refine WO.nil ?_
            have q1 := hp.lo (by omega)
            have q2 := hp.lp (by omega)
            have q3 := hp.up (by omega)
            rw [q3] at q2
            refine W.sreg ?_
            refine WO.p rfl rfl (WO.p rfl rfl (WO.quo rfl rfl (by first | omega | assumption) (by (first | (unfold in64; omega) | (unfold in64; omega))) rfl (WO.p rfl rfl ?_)))
            refine WO.nil ?_
            refine W.seq ?_
            refine W.sreg ?_
            refine WO.p rfl rfl (WO.p rfl rfl (WO.rem rfl rfl (by first | omega | assumption) rfl (WO.p rfl rfl ?_)))
            refine WO.nil ?_
            refine W.cond_bl rfl (fun c3 => ?_) (fun c3 => ?_)
            · first
              | (exfalso; omega)
              | (refine W.region ?_
                 refine WO.p rfl rfl (WO.ar rfl rfl rfl (by (first | (unfold in64; omega) | (unfold in64; omega))) rfl (WO.p rfl rfl ?_))
                 refine WO.nil ?_
                 first | rw [if_pos (by assumption)] at q2 | (rw [if_neg (by assumption), Int.add_zero] at q2)
                 refine W.sreg ?_
                 refine WO.fieldL rfl rfl rfl (WO.load rfl rfl (Cell.own (Pick.tail (Pick.head)) rfl) rfl (WO.fieldL rfl rfl rfl (WO.load rfl rfl (Cell.own (Pick.tail (Pick.head)) rfl) rfl (WO.p rfl rfl (WO.ar rfl rfl rfl (by (first | (unfold in64; omega) | (unfold in64; omega))) rfl ?_)))))
                 refine WO.min2 rfl rfl rfl ?_
                 refine WO.neg rfl (by (first | (unfold in64; omega) | (unfold in64; omega))) rfl (WO.p rfl rfl ?_)
                 refine WO.nil ?_
                 refine W.ret ?_
                 refine fin.ret (Res.one rfl (RV.tmp rfl)) (congrArg (Value.int .i64) ?_)
                 first | exact pay_1 (by assumption) | exact pay_2 (by assumption) (by assumption) | (unfold payV; rw [if_neg (by assumption), if_neg (by assumption)]; first | (rw [if_pos (by assumption)]; done) | (rw [if_neg (by assumption), Int.add_zero]; done)))
            · first
              | (exfalso; omega)
              | (refine W.skip ?_
                 first | rw [if_pos (by assumption)] at q2 | (rw [if_neg (by assumption), Int.add_zero] at q2)
                 refine W.sreg ?_
                 refine WO.fieldL rfl rfl rfl (WO.load rfl rfl (Cell.own (Pick.tail (Pick.head)) rfl) rfl (WO.fieldL rfl rfl rfl (WO.load rfl rfl (Cell.own (Pick.tail (Pick.head)) rfl) rfl (WO.p rfl rfl (WO.ar rfl rfl rfl (by (first | (unfold in64; omega) | (unfold in64; omega))) rfl ?_)))))
                 refine WO.min2 rfl rfl rfl ?_
                 refine WO.neg rfl (by (first | (unfold in64; omega) | (unfold in64; omega))) rfl (WO.p rfl rfl ?_)
                 refine WO.nil ?_
                 refine W.ret ?_
                 refine fin.ret (Res.one rfl (RV.tmp rfl)) (congrArg (Value.int .i64) ?_)
                 first | exact pay_1 (by assumption) | exact pay_2 (by assumption) (by assumption) | (unfold payV; rw [if_neg (by assumption), if_neg (by assumption)]; first | (rw [if_pos (by assumption)]; done) | (rw [if_neg (by assumption), Int.add_zero]; done)))))
end Go.Proofs.Ytkiaepcklbidgaa
namespace Go.Proofs.Ytkiaepcklbidgaa
open Go Go.TH
attribute [local irreducible] W WO pt
set_option maxRecDepth 10000
set_option maxHeartbeats 1000000
theorem red_mul {n d : Int} (hd : 0 < d) : 0 < gcd2 (ab n) d ∧ (red n d).1 * gcd2 (ab n) d = n ∧ (red n d).2 * gcd2 (ab n) d = d := by
  have hg := gcd2_pos (ab_nn n) hd
  have hdv : gcd2 (ab n) d ∣ n := by
    have h1 := gcd2_dvdL (ab n) d (ab_nn n)
    unfold ab at h1 ⊢
    rcases Int.le_total 0 n with h | h
    · rwa [show max n (-n) = n by omega] at h1 ⊢
    · rw [show max n (-n) = -n by omega] at h1 ⊢
      exact Int.dvd_neg.1 h1
  exact ⟨hg, Int.tdiv_mul_cancel hdv, Int.tdiv_mul_cancel (gcd2_dvdR (ab n) d (by omega))⟩
theorem red_den {n d : Int} (hd : 0 < d) : 1 ≤ (red n d).2 ∧ (red n d).2 ≤ d := by
  obtain ⟨h1, _, h3⟩ := red_mul (n := n) hd
  have h4 : 0 < (red n d).2 := by
    rcases Int.lt_or_le 0 (red n d).2 with h | h
    · exact h
    · have := Int.mul_le_mul_of_nonneg_right h (show 0 ≤ gcd2 (ab n) d by omega)
      rw [h3, Int.zero_mul] at this; omega
  have h5 := Int.mul_le_mul_of_nonneg_left (show 1 ≤ gcd2 (ab n) d by omega) (show 0 ≤ (red n d).2 by omega)
  rw [h3, Int.mul_one] at h5
  exact ⟨by omega, h5⟩
theorem red_SpB {n d : Int} (h : (1 ≤ d ∧ d ≤ 10000000000) ∧ 0 ≤ n ∧ n ≤ 20000 * d) : SpB (red n d).1 (red n d).2 := by
  obtain ⟨⟨d1, d2⟩, n1, n2⟩ := h
  obtain ⟨g1, g2, g3⟩ := red_mul (n := n) (d := d) (by omega)
  have hd := red_den (n := n) (d := d) (by omega)
  refine ⟨⟨hd.1, by omega⟩, ?_, ?_⟩
  · refine Int.le_of_mul_le_mul_right (a := gcd2 (ab n) d) ?_ g1
    rw [g2, Int.zero_mul]; exact n1
  · refine Int.le_of_mul_le_mul_right (a := gcd2 (ab n) d) ?_ g1
    rw [g2, Int.mul_assoc, g3]; exact n2
theorem msum_span {m : Int} {rs : List (Int × Int × Int)} {g : Int → Int} (hv : VT m rs) (hg : ∀ i : Nat, i < rs.length → 0 ≤ g i ∧ g i ≤ 20000) : ∀ {i : Nat}, i ≤ rs.length → 0 ≤ msum m rs g i ∧ msum m rs g i ≤ 20000 * wsum m rs i
  | 0, _ => by simp [msum, wsum]
  | i + 1, h => by
    have ih := msum_span hv hg (i := i) (by omega)
    have h1 := hg i (by omega)
    have h2 := wts_lt hv (i := i) (by omega)
    have e1 : msum m rs g (i + 1) = msum m rs g i + wts m rs i * g (i : Int) := rfl
    have e2 : wsum m rs (i + 1) = wsum m rs i + wts m rs i := rfl
    have h3 : 0 ≤ wts m rs i * g (i : Int) := Int.mul_nonneg (by omega) h1.1
    have h4 : wts m rs i * g (i : Int) ≤ wts m rs i * 20000 := Int.mul_le_mul_of_nonneg_left h1.2 (by omega)
    rw [e1, e2]
    omega
theorem mean_SpB {m : Int} {rs : List (Int × Int × Int)} {g : Int → Int} (hv : VT m rs) (hg : ∀ i : Nat, i < rs.length → 0 ≤ g i ∧ g i ≤ 20000) : SpB (meanQ m rs g).1 (meanQ m rs g).2 := by
  have hn := hv.n
  have h1 := msum_span hv hg (i := rs.length) (Nat.le_refl _)
  have h2 := wsum_lt hv (i := rs.length) (Nat.le_refl _)
  exact red_SpB ⟨⟨by omega, by omega⟩, h1.1, h1.2⟩
theorem loT_in {m : Int} {rs : List (Int × Int × Int)} (hv : VT m rs) : ∀ i : Nat, i < rs.length → 0 ≤ loT rs i ∧ loT rs i ≤ 20000 := fun i hi => by
  have := hv.run hi
  unfold loT; rw [Int.toNat_natCast]; omega
theorem hiT_in {m : Int} {rs : List (Int × Int × Int)} (hv : VT m rs) : ∀ i : Nat, i < rs.length → 0 ≤ hiT rs i ∧ hiT rs i ≤ 20000 := fun i hi => by
  have := hv.run hi
  unfold hiT; rw [Int.toNat_natCast]; omega
theorem red_one {n d : Int} (h : SpB n d) : red n d = (n, d) ↔ gcd2 n d = 1 := by
  obtain ⟨⟨d1, d2⟩, n1, n2⟩ := h
  have ea : ab n = n := by unfold ab; omega
  obtain ⟨g1, g2, g3⟩ := red_mul (n := n) (d := d) (by omega)
  rw [ea] at g1 g2 g3
  constructor
  · intro e
    rw [e] at g3
    dsimp only at g3
    have : d * (gcd2 n d - 1) = 0 := by rw [Int.mul_sub, g3]; omega
    rcases Int.mul_eq_zero.1 this with h | h <;> omega
  · intro e
    rw [e, Int.mul_one] at g2 g3
    exact Prod.ext g2 g3
open Classical in
/-- what Pay answers -/
noncomputable def payE (c : Con) (n d : Int) : Int := if chkC c ≠ 0 then chkC c else if isS n d then 0 else 2
noncomputable def payA (c : Con) (n d : Int) : Int := if payE c n d = 0 then payV c n d else 0
noncomputable def payR (c : Con) (n d : Int) : Value := .tuple #[.int .i64 (payA c n d), .int .i64 (payE c n d)]
theorem payR_1 {c : Con} {n d : Int} (h : chkC c ≠ 0) : .tuple #[.int .i64 0, .int .i64 (chkC c)] = payR c n d := by
  have e : payE c n d = chkC c := by unfold payE; rw [if_pos h]
  unfold payR payA; rw [e, if_neg h]
theorem payR_2 {c : Con} {n d : Int} (h : ¬ chkC c ≠ 0) (hs : ¬ isS n d) : .tuple #[.int .i64 0, .int .i64 2] = payR c n d := by
  have e : payE c n d = 2 := by unfold payE; rw [if_neg h, if_neg hs]
  unfold payR payA; rw [e, if_neg (by omega)]
theorem payR_0 {c : Con} {n d : Int} (h : ¬ chkC c ≠ 0) (hs : isS n d) : .tuple #[.int .i64 (payV c n d), .int .i64 0] = payR c n d := by
  have e : payE c n d = 0 := by unfold payE; rw [if_neg h, if_pos hs]
  unfold payR payA; rw [e, if_pos rfl]
theorem c_Pay (w : World) (c : Con) (n d : Int) : Ret Try.prog 28 [.agg #[.int .i64 c.sp, .int .i64 c.st, .int .i64 c.pr, .int .i64 c.pe, .int .i64 c.mo, .int .i64 c.rf, .int .i64 c.rd], .agg #[.int .i64 n, .int .i64 d]].toArray w (payR c n d) := by
  refine Ret.of mixed tyTab Try.func28 rfl rfl ?_
  refine W.sreg ?_
  refine WO.boxA rfl rfl (fun b1 hb1 => ?_)
  refine WO.boxA rfl rfl (fun b2 hb2 => ?_)
  refine WO.p rfl rfl (WO.p rfl rfl ?_)
  refine WO.nil ?_
  refine W.seq ?_
  refine W.sreg ?_
  refine WO.loadA rfl rfl (Cells.own (Pick.tail (Pick.head))) rfl rfl ?_
  refine WO.callR (r := .int .i64 (chkC c)) rfl Try.call32 (fun L w hi => c_CheckContract w c) rfl ?_
  refine WO.p rfl rfl ?_
  refine WO.nil ?_
  refine W.sreg ?_
  refine WO.p rfl rfl (WO.p rfl rfl ?_)
  refine WO.nil ?_
  refine W.cond_bl rfl (fun c1 => ?_) (fun c1 => ?_)
  · first
    | (exfalso; omega)
    | (refine W.sreg ?_
       refine WO.p rfl rfl (WO.p rfl rfl (WO.p rfl rfl ?_))
       refine WO.nil ?_
       refine W.ret ?_
       refine fin.ret (Res.two rfl (RV.tmp rfl) (RV.tmp rfl)) ?_
       first | exact payR_1 (by assumption) | exact payR_2 (by assumption) (fun h => by obtain ⟨⟨h1, h2, h3⟩, h4⟩ := h; omega) | exact payR_2 (by assumption) (fun h => by have h4 := (red_one h.1).1 h.2; omega) | exact payR_0 (by assumption) ⟨⟨by omega, by omega, by omega⟩, (red_one ⟨by omega, by omega, by omega⟩).2 (by omega)⟩)
  · first
    | (exfalso; omega)
    | (refine W.skip ?_
       refine W.seq ?_
       refine W.sreg ?_
       refine WO.fieldL rfl rfl rfl (WO.load rfl rfl (Cell.own Pick.head rfl) rfl ?_)
       refine' WO.buildSl (cs := _) rfl rfl rfl rfl ?hf rfl rfl ?hl rfl (fun v3 => ?_)
       case hf => (conv => lhs; simp [-List.getD_eq_getElem?_getD, fillL, vcl, wrl, TTab.pl?.lget']) <;> rfl
       case hl => rfl
       refine WO.callR (r := .bool (bl (1 ≤ d ∧ d ≤ 10000000000))) rfl Try.call51 (fun L w hi => by rw [← btw1]; exact c_within w _ _ _ [d] (RdF.of_ow (e := 2) encI_ok (by repeat (first | exact Pick.head | apply Pick.tail)) hi) (by simp)) rfl ?_
       refine WO.p rfl rfl (WO.p rfl rfl ?_)
       refine WO.guard_nbl rfl rfl (fun c2 => ?_) (fun c2 => ?_)
       · first
         | (exfalso; omega)
         | (refine WO.no rfl rfl (WO.no rfl rfl (WO.no rfl rfl (WO.no rfl rfl (WO.no rfl rfl (WO.no rfl rfl (WO.no rfl rfl (WO.no rfl rfl (WO.p rfl rfl (WO.p rfl rfl (WO.no rfl rfl (WO.no rfl rfl ?_)))))))))))
            refine WO.no rfl rfl (WO.no rfl rfl (WO.no rfl rfl (WO.no rfl rfl (WO.no rfl rfl (WO.p rfl rfl ?_)))))
            refine WO.nil ?_
            refine W.cond_t rfl ?_
            refine W.sreg ?_
            refine WO.p rfl rfl (WO.p rfl rfl ?_)
            refine WO.nil ?_
            refine W.ret ?_
            refine fin.ret (Res.two rfl (RV.tmp rfl) (RV.tmp rfl)) ?_
            first | exact payR_1 (by assumption) | exact payR_2 (by assumption) (fun h => by obtain ⟨⟨h1, h2, h3⟩, h4⟩ := h; omega) | exact payR_2 (by assumption) (fun h => by have h4 := (red_one h.1).1 h.2; omega) | exact payR_0 (by assumption) ⟨⟨by omega, by omega, by omega⟩, (red_one ⟨by omega, by omega, by omega⟩).2 (by omega)⟩)
       · first
         | (exfalso; omega)
         | (refine WO.go' rfl (WO.fieldL rfl rfl rfl (WO.go' rfl (WO.load rfl rfl (Cell.own (Pick.tail (Pick.head)) rfl) rfl (WO.go' rfl (WO.ar rfl rfl rfl (by (first | (unfold in64; omega) | (unfold in64; omega))) rfl (WO.go' rfl (WO.field0 rfl rfl rfl (WO.go' rfl (WO.load rfl rfl (Cell.own (Pick.tail (Pick.head)) rfl) rfl (WO.go' rfl ?_))))))))))
            refine' WO.buildSl (cs := _) rfl rfl rfl rfl ?hf rfl rfl ?hl rfl (fun v4 => ?_)
            case hf => (conv => lhs; simp [-List.getD_eq_getElem?_getD, fillL, vcl, wrl, TTab.pl?.lget']) <;> rfl
            case hl => rfl
            refine WO.go' rfl ?_
            refine WO.callR (r := .bool (bl (0 ≤ n ∧ n ≤ 20000 * d))) rfl Try.call51 (fun L w hi => by rw [← btw1]; exact c_within w _ _ _ [n] (RdF.of_ow (e := 2) encI_ok (by repeat (first | exact Pick.head | apply Pick.tail)) hi) (by simp)) rfl ?_
            refine WO.pg rfl rfl rfl (WO.p rfl rfl (WO.p rfl rfl ?_))
            refine WO.guard_nbl rfl rfl (fun c3 => ?_) (fun c3 => ?_)
            · first
              | (exfalso; omega)
              | (refine WO.no rfl rfl (WO.no rfl rfl (WO.no rfl rfl (WO.no rfl rfl (WO.no rfl rfl (WO.no rfl rfl (WO.no rfl rfl (WO.p rfl rfl ?_)))))))
                 refine WO.nil ?_
                 refine W.cond_t rfl ?_
                 refine W.sreg ?_
                 refine WO.p rfl rfl (WO.p rfl rfl ?_)
                 refine WO.nil ?_
                 refine W.ret ?_
                 refine fin.ret (Res.two rfl (RV.tmp rfl) (RV.tmp rfl)) ?_
                 first | exact payR_1 (by assumption) | exact payR_2 (by assumption) (fun h => by obtain ⟨⟨h1, h2, h3⟩, h4⟩ := h; omega) | exact payR_2 (by assumption) (fun h => by have h4 := (red_one h.1).1 h.2; omega) | exact payR_0 (by assumption) ⟨⟨by omega, by omega, by omega⟩, (red_one ⟨by omega, by omega, by omega⟩).2 (by omega)⟩)
            · first
              | (exfalso; omega)
              | (refine WO.go' rfl (WO.field0 rfl rfl rfl (WO.go' rfl (WO.load rfl rfl (Cell.own (Pick.tail (Pick.tail (Pick.head))) rfl) rfl (WO.go' rfl (WO.fieldL rfl rfl rfl (WO.go' rfl (WO.load rfl rfl (Cell.own (Pick.tail (Pick.tail (Pick.head))) rfl) rfl (WO.go' rfl ?_))))))))
                 refine' WO.buildSl (cs := _) rfl rfl rfl rfl ?hf rfl rfl ?hl rfl (fun v5 => ?_)
                 case hf => (conv => lhs; simp [-List.getD_eq_getElem?_getD, fillL, vcl, wrl, TTab.pl?.lget']) <;> rfl
                 case hl => rfl
                 refine WO.go' rfl ?_
                 refine WO.callR (r := .int .i64 (gcd2 n d)) rfl Try.call59 (fun L w hi => by have h := c_divisor w _ [n, d] (RdF.of_ow (e := 2) encI_ok (by repeat (first | exact Pick.head | apply Pick.tail)) hi) (by simp; omega); rw [show gcdL [n, d] = gcd2 n d by unfold gcdL; simp only [List.foldl]; rw [gcd2_0 (by omega)]] at h; exact h) rfl ?_
                 refine WO.pg rfl rfl rfl (WO.p rfl rfl ?_)
                 refine WO.nil ?_
                 refine W.cond_bl rfl (fun c4 => ?_) (fun c4 => ?_)
                 · first
                   | (exfalso; omega)
                   | (refine W.sreg ?_
                      refine WO.p rfl rfl (WO.p rfl rfl ?_)
                      refine WO.nil ?_
                      refine W.ret ?_
                      refine fin.ret (Res.two rfl (RV.tmp rfl) (RV.tmp rfl)) ?_
                      first | exact payR_1 (by assumption) | exact payR_2 (by assumption) (fun h => by obtain ⟨⟨h1, h2, h3⟩, h4⟩ := h; omega) | exact payR_2 (by assumption) (fun h => by have h4 := (red_one h.1).1 h.2; omega) | exact payR_0 (by assumption) ⟨⟨by omega, by omega, by omega⟩, (red_one ⟨by omega, by omega, by omega⟩).2 (by omega)⟩)
                 · first
                   | (exfalso; omega)
                   | (refine W.skip ?_
                      refine W.sreg ?_
                      refine WO.loadA rfl rfl (Cells.own (Pick.tail (Pick.tail (Pick.tail (Pick.tail (Pick.head)))))) rfl rfl (WO.loadA rfl rfl (Cells.own (Pick.tail (Pick.tail (Pick.tail (Pick.head))))) rfl rfl ?_)
                      refine WO.callR rfl Try.call60 (fun L w hi => c_pay w c n d (chkC_of (Decidable.not_not.1 (by assumption))) ⟨by omega, by omega, by omega⟩) rfl ?_
                      refine WO.p rfl rfl (WO.p rfl rfl ?_)
                      refine WO.nil ?_
                      refine W.ret ?_
                      refine fin.ret (Res.two rfl (RV.tmp rfl) (RV.tmp rfl)) ?_
                      first | exact payR_1 (by assumption) | exact payR_2 (by assumption) (fun h => by obtain ⟨⟨h1, h2, h3⟩, h4⟩ := h; omega) | exact payR_2 (by assumption) (fun h => by have h4 := (red_one h.1).1 h.2; omega) | exact payR_0 (by assumption) ⟨⟨by omega, by omega, by omega⟩, (red_one ⟨by omega, by omega, by omega⟩).2 (by omega)⟩))))
open Classical in
noncomputable def isSB (n d : Int) : Bool := decide (isS n d)
theorem isSB_t {n d : Int} : isSB n d = true ↔ isS n d := by unfold isSB; simp
theorem ref_IsSpeed (w : World) (n d : Int) : Ret Try.prog 41 [.agg #[.int .i64 n, .int .i64 d]].toArray w (.bool (isSB n d)) := by
  refine Ret.of mixed tyTab Try.func41 rfl rfl ?_
  obtain ⟨qn, qd, hq⟩ : ∃ a b, red n d = (a, b) := ⟨_, _, rfl⟩
  refine W.sreg ?_
  refine WO.boxA rfl rfl (fun b1 hb1 => ?_)
  refine WO.p rfl rfl ?_
  refine WO.nil ?_
  refine W.seq ?_
  refine W.drawD 23 [.r 0 [], .b 1 [], .r 2 [], .r 3 [], .r 4 [], .b 5 [], .r 6 [], .r 7 [], .r 8 [], .r 9 [], .b 10 [], .r 11 [], .b 12 [], .r 13 [], .b 14 [], .r 15 [], .r 16 [], .r 17 [], .b 18 [], .r 19 [], .b 20 [], .b 21 [], .b 22 []] [] (A0 := []) (Sub.refl _) (by kernel_rfl) ?_ ?_
  · exact (ALok.r (ALok.b (ALok.r (ALok.r (ALok.r (ALok.b (ALok.r (ALok.r (ALok.r (ALok.r (ALok.b (ALok.r (ALok.b (ALok.r (ALok.b (ALok.r (ALok.r (ALok.r (ALok.b (ALok.r (ALok.b (ALok.b (ALok.b ALok.nil)))))))))))))))))))))))
  refine' DT.r rfl rfl rfl ?hq ?_
  case hq =>
    refine WO.fieldL rfl rfl rfl ?_
    exact WO.nil ⟨rfl, rfl⟩
  refine' DT.b rfl rfl rfl ?hq ?_
  case hq =>
    refine WO.load rfl rfl (Cell.own Pick.head rfl) rfl ?_
    exact WO.nil ⟨rfl, rfl⟩
  refine' DT.r rfl rfl rfl ?hq ?_
  case hq =>
    refine WO.p rfl rfl ?_
    exact WO.nil ⟨rfl, rfl⟩
  refine' DT.rB rfl rfl rfl ?hq (fun c1 => ?_) (fun c1 => ?_)
  case hq =>
    refine WO.p rfl rfl ?_
    exact WO.nil ⟨rfl, rfl⟩
  · first
    | (exfalso; omega)
    | (refine' DT.r rfl rfl rfl ?hq ?_
       case hq =>
         refine WO.go' rfl (WO.fieldL rfl rfl rfl ?_)
         exact WO.nil ⟨rfl, rfl⟩
       refine' DT.b rfl rfl rfl ?hq ?_
       case hq =>
         refine WO.go' rfl (WO.load rfl rfl (Cell.own Pick.head rfl) rfl ?_)
         exact WO.nil ⟨rfl, rfl⟩
       refine' DT.r rfl rfl rfl ?hq ?_
       case hq =>
         refine WO.pg rfl rfl rfl ?_
         exact WO.nil ⟨rfl, rfl⟩
       refine' DT.r rfl rfl rfl ?hq ?_
       case hq =>
         refine WO.p rfl rfl ?_
         exact WO.nil ⟨rfl, rfl⟩
       refine' DT.rB rfl rfl rfl ?hq (fun c2 => ?_) (fun c2 => ?_)
       case hq =>
         refine WO.p rfl rfl ?_
         exact WO.nil ⟨rfl, rfl⟩
       · first
         | (exfalso; omega)
         | (refine' DT.r rfl rfl rfl ?hq ?_
            case hq =>
              refine WO.go' rfl (WO.field0 rfl rfl rfl ?_)
              exact WO.nil ⟨rfl, rfl⟩
            refine' DT.b rfl rfl rfl ?hq ?_
            case hq =>
              refine WO.go' rfl (WO.load rfl rfl (Cell.own Pick.head rfl) rfl ?_)
              exact WO.nil ⟨rfl, rfl⟩
            refine' DT.r rfl rfl rfl ?hq ?_
            case hq =>
              refine WO.go' rfl (WO.fieldL rfl rfl rfl ?_)
              exact WO.nil ⟨rfl, rfl⟩
            refine' DT.b rfl rfl rfl ?hq ?_
            case hq =>
              refine WO.go' rfl (WO.load rfl rfl (Cell.own Pick.head rfl) rfl ?_)
              exact WO.nil ⟨rfl, rfl⟩
            refine' DT.r rfl rfl rfl ?hq ?_
            case hq =>
              refine WO.go' rfl (WO.ar rfl rfl rfl (by (first | (unfold in64; omega) | (unfold in64; omega))) rfl ?_)
              exact WO.nil ⟨rfl, rfl⟩
            refine' DT.b rfl rfl rfl ?hq ?_
            case hq =>
              refine WO.go' rfl ?_
              refine WO.callR rfl Try.call52 (fun L w hi => ref_between w n 0 (20000 * d)) rfl ?_
              exact WO.nil ⟨rfl, rfl⟩
            refine' DT.r rfl rfl rfl ?hq ?_
            case hq =>
              refine WO.p rfl rfl ?_
              exact WO.nil ⟨rfl, rfl⟩
            refine' DT.rB rfl rfl rfl ?hq (fun c3 => ?_) (fun c3 => ?_)
            case hq =>
              refine WO.p rfl rfl ?_
              exact WO.nil ⟨rfl, rfl⟩
            · first
              | (exfalso; omega)
              | (refine' DT.r rfl rfl rfl ?hq ?_
                 case hq =>
                   refine WO.go' rfl (WO.field0 rfl rfl rfl ?_)
                   exact WO.nil ⟨rfl, rfl⟩
                 refine' DT.b rfl rfl rfl ?hq ?_
                 case hq =>
                   refine WO.go' rfl (WO.load rfl rfl (Cell.own Pick.head rfl) rfl ?_)
                   exact WO.nil ⟨rfl, rfl⟩
                 refine' DT.r rfl rfl rfl ?hq ?_
                 case hq =>
                   refine WO.go' rfl (WO.fieldL rfl rfl rfl ?_)
                   exact WO.nil ⟨rfl, rfl⟩
                 refine' DT.b rfl rfl rfl ?hq ?_
                 case hq =>
                   refine WO.go' rfl (WO.load rfl rfl (Cell.own Pick.head rfl) rfl ?_)
                   exact WO.nil ⟨rfl, rfl⟩
                 refine' DT.b rfl rfl rfl ?hq ?_
                 case hq =>
                   refine WO.go' rfl ?_
                   refine WO.callR (r := .agg #[.int .i64 qn, .int .i64 qd]) rfl Try.call42 (fun L w hi => by have h := ref_Fraction w n d (by unfold ab; omega) (by omega) (by unfold in64; omega); rw [hq] at h; exact h) rfl ?_
                   exact WO.nil ⟨rfl, rfl⟩
                 refine' DT.b rfl rfl rfl ?hq ?_
                 case hq =>
                   refine WO.go' rfl (WO.loadA rfl rfl (Cells.own Pick.head) rfl rfl ?_)
                   exact WO.nil ⟨rfl, rfl⟩
                 refine DT.nil [_] rfl ?_
                 refine WO.go' rfl ?_
                 refine WO.eqT rfl rfl (eq36 _ _ _ _) rfl ?_
                 refine WO.p rfl rfl (WO.p rfl rfl ?_)
                 refine WO.nil ?_
                 refine W.ret ?_
                 refine fin.ret (Res.one rfl (RV.tmp rfl)) (congrArg Value.bool ?_)
                 first | exact (Bool.eq_false_iff.2 (fun h => by obtain ⟨⟨h1, h2, h3⟩, h4⟩ := isSB_t.1 h; omega)).symm | (cases hb : isSB n d; exact bl_f.2 (fun e => by have := isSB_t.2 ⟨⟨by omega, by omega, by omega⟩, hq.trans e⟩; rw [hb] at this; cases this); exact bl_t.2 (hq.symm.trans (isSB_t.1 hb).2)))
            · first
              | (exfalso; omega)
              | (refine' DT.r rfl rfl rfl ?hq ?_
                 case hq =>
                   refine WO.no rfl rfl ?_
                   exact WO.nil ⟨rfl, rfl⟩
                 refine' DT.b rfl rfl rfl ?hq ?_
                 case hq =>
                   refine WO.no rfl rfl ?_
                   exact WO.nil ⟨rfl, rfl⟩
                 refine' DT.r rfl rfl rfl ?hq ?_
                 case hq =>
                   refine WO.no rfl rfl ?_
                   exact WO.nil ⟨rfl, rfl⟩
                 refine' DT.b rfl rfl rfl ?hq ?_
                 case hq =>
                   refine WO.no rfl rfl ?_
                   exact WO.nil ⟨rfl, rfl⟩
                 refine' DT.b rfl rfl rfl ?hq ?_
                 case hq =>
                   refine WO.no rfl rfl ?_
                   exact WO.nil ⟨rfl, rfl⟩
                 refine' DT.b rfl rfl rfl ?hq ?_
                 case hq =>
                   refine WO.no rfl rfl ?_
                   exact WO.nil ⟨rfl, rfl⟩
                 refine DT.nil [_] rfl ?_
                 refine WO.no rfl rfl (WO.p rfl rfl (WO.p rfl rfl ?_))
                 refine WO.nil ?_
                 refine W.ret ?_
                 refine fin.ret (Res.one rfl (RV.tmp rfl)) (congrArg Value.bool ?_)
                 first | exact (Bool.eq_false_iff.2 (fun h => by obtain ⟨⟨h1, h2, h3⟩, h4⟩ := isSB_t.1 h; omega)).symm | (cases hb : isSB n d; exact bl_f.2 (fun e => by have := isSB_t.2 ⟨⟨by omega, by omega, by omega⟩, hq.trans e⟩; rw [hb] at this; cases this); exact bl_t.2 (hq.symm.trans (isSB_t.1 hb).2))))
       · first
         | (exfalso; omega)
         | (refine' DT.r rfl rfl rfl ?hq ?_
            case hq =>
              refine WO.no rfl rfl ?_
              exact WO.nil ⟨rfl, rfl⟩
            refine' DT.b rfl rfl rfl ?hq ?_
            case hq =>
              refine WO.no rfl rfl ?_
              exact WO.nil ⟨rfl, rfl⟩
            refine' DT.r rfl rfl rfl ?hq ?_
            case hq =>
              refine WO.no rfl rfl ?_
              exact WO.nil ⟨rfl, rfl⟩
            refine' DT.b rfl rfl rfl ?hq ?_
            case hq =>
              refine WO.no rfl rfl ?_
              exact WO.nil ⟨rfl, rfl⟩
            refine' DT.r rfl rfl rfl ?hq ?_
            case hq =>
              refine WO.no rfl rfl ?_
              exact WO.nil ⟨rfl, rfl⟩
            refine' DT.b rfl rfl rfl ?hq ?_
            case hq =>
              refine WO.no rfl rfl ?_
              exact WO.nil ⟨rfl, rfl⟩
            refine' DT.r rfl rfl rfl ?hq ?_
            case hq =>
              refine WO.p rfl rfl ?_
              exact WO.nil ⟨rfl, rfl⟩
            refine' DT.r rfl rfl rfl ?hq ?_
            case hq =>
              refine WO.p rfl rfl ?_
              exact WO.nil ⟨rfl, rfl⟩
            refine' DT.r rfl rfl rfl ?hq ?_
            case hq =>
              refine WO.no rfl rfl ?_
              exact WO.nil ⟨rfl, rfl⟩
            refine' DT.b rfl rfl rfl ?hq ?_
            case hq =>
              refine WO.no rfl rfl ?_
              exact WO.nil ⟨rfl, rfl⟩
            refine' DT.r rfl rfl rfl ?hq ?_
            case hq =>
              refine WO.no rfl rfl ?_
              exact WO.nil ⟨rfl, rfl⟩
            refine' DT.b rfl rfl rfl ?hq ?_
            case hq =>
              refine WO.no rfl rfl ?_
              exact WO.nil ⟨rfl, rfl⟩
            refine' DT.b rfl rfl rfl ?hq ?_
            case hq =>
              refine WO.no rfl rfl ?_
              exact WO.nil ⟨rfl, rfl⟩
            refine' DT.b rfl rfl rfl ?hq ?_
            case hq =>
              refine WO.no rfl rfl ?_
              exact WO.nil ⟨rfl, rfl⟩
            refine DT.nil [_] rfl ?_
            refine WO.no rfl rfl (WO.p rfl rfl (WO.p rfl rfl ?_))
            refine WO.nil ?_
            refine W.ret ?_
            refine fin.ret (Res.one rfl (RV.tmp rfl)) (congrArg Value.bool ?_)
            first | exact (Bool.eq_false_iff.2 (fun h => by obtain ⟨⟨h1, h2, h3⟩, h4⟩ := isSB_t.1 h; omega)).symm | (cases hb : isSB n d; exact bl_f.2 (fun e => by have := isSB_t.2 ⟨⟨by omega, by omega, by omega⟩, hq.trans e⟩; rw [hb] at this; cases this); exact bl_t.2 (hq.symm.trans (isSB_t.1 hb).2))))
  · first
    | (exfalso; omega)
    | (refine' DT.r rfl rfl rfl ?hq ?_
       case hq =>
         refine WO.no rfl rfl ?_
         exact WO.nil ⟨rfl, rfl⟩
       refine' DT.b rfl rfl rfl ?hq ?_
       case hq =>
         refine WO.no rfl rfl ?_
         exact WO.nil ⟨rfl, rfl⟩
       refine' DT.r rfl rfl rfl ?hq ?_
       case hq =>
         refine WO.no rfl rfl ?_
         exact WO.nil ⟨rfl, rfl⟩
       refine' DT.r rfl rfl rfl ?hq ?_
       case hq =>
         refine WO.p rfl rfl ?_
         exact WO.nil ⟨rfl, rfl⟩
       refine' DT.r rfl rfl rfl ?hq ?_
       case hq =>
         refine WO.p rfl rfl ?_
         exact WO.nil ⟨rfl, rfl⟩
       refine' DT.r rfl rfl rfl ?hq ?_
       case hq =>
         refine WO.no rfl rfl ?_
         exact WO.nil ⟨rfl, rfl⟩
       refine' DT.b rfl rfl rfl ?hq ?_
       case hq =>
         refine WO.no rfl rfl ?_
         exact WO.nil ⟨rfl, rfl⟩
       refine' DT.r rfl rfl rfl ?hq ?_
       case hq =>
         refine WO.no rfl rfl ?_
         exact WO.nil ⟨rfl, rfl⟩
       refine' DT.b rfl rfl rfl ?hq ?_
       case hq =>
         refine WO.no rfl rfl ?_
         exact WO.nil ⟨rfl, rfl⟩
       refine' DT.r rfl rfl rfl ?hq ?_
       case hq =>
         refine WO.no rfl rfl ?_
         exact WO.nil ⟨rfl, rfl⟩
       refine' DT.b rfl rfl rfl ?hq ?_
       case hq =>
         refine WO.no rfl rfl ?_
         exact WO.nil ⟨rfl, rfl⟩
       refine' DT.r rfl rfl rfl ?hq ?_
       case hq =>
         refine WO.p rfl rfl ?_
         exact WO.nil ⟨rfl, rfl⟩
       refine' DT.r rfl rfl rfl ?hq ?_
       case hq =>
         refine WO.p rfl rfl ?_
         exact WO.nil ⟨rfl, rfl⟩
       refine' DT.r rfl rfl rfl ?hq ?_
       case hq =>
         refine WO.no rfl rfl ?_
         exact WO.nil ⟨rfl, rfl⟩
       refine' DT.b rfl rfl rfl ?hq ?_
       case hq =>
         refine WO.no rfl rfl ?_
         exact WO.nil ⟨rfl, rfl⟩
       refine' DT.r rfl rfl rfl ?hq ?_
       case hq =>
         refine WO.no rfl rfl ?_
         exact WO.nil ⟨rfl, rfl⟩
       refine' DT.b rfl rfl rfl ?hq ?_
       case hq =>
         refine WO.no rfl rfl ?_
         exact WO.nil ⟨rfl, rfl⟩
       refine' DT.b rfl rfl rfl ?hq ?_
       case hq =>
         refine WO.no rfl rfl ?_
         exact WO.nil ⟨rfl, rfl⟩
       refine' DT.b rfl rfl rfl ?hq ?_
       case hq =>
         refine WO.no rfl rfl ?_
         exact WO.nil ⟨rfl, rfl⟩
       refine DT.nil [_] rfl ?_
       refine WO.no rfl rfl (WO.p rfl rfl (WO.p rfl rfl ?_))
       refine WO.nil ?_
       refine W.ret ?_
       refine fin.ret (Res.one rfl (RV.tmp rfl)) (congrArg Value.bool ?_)
       first | exact (Bool.eq_false_iff.2 (fun h => by obtain ⟨⟨h1, h2, h3⟩, h4⟩ := isSB_t.1 h; omega)).symm | (cases hb : isSB n d; exact bl_f.2 (fun e => by have := isSB_t.2 ⟨⟨by omega, by omega, by omega⟩, hq.trans e⟩; rw [hb] at this; cases this); exact bl_t.2 (hq.symm.trans (isSB_t.1 hb).2)))
theorem ref_Pay (w : World) (c : Con) (n d : Int) : Ret Try.prog 29 [.agg #[.int .i64 c.sp, .int .i64 c.st, .int .i64 c.pr, .int .i64 c.pe, .int .i64 c.mo, .int .i64 c.rf, .int .i64 c.rd], .agg #[.int .i64 n, .int .i64 d]].toArray w (payR c n d) := by
  refine Ret.of mixed tyTab Try.func29 rfl rfl ?_
  refine W.sreg ?_
  refine WO.boxA rfl rfl (fun b1 hb1 => ?_)
  refine WO.boxA rfl rfl (fun b2 hb2 => ?_)
  refine WO.p rfl rfl (WO.p rfl rfl ?_)
  refine WO.nil ?_
  refine W.seq ?_
  refine W.sreg ?_
  refine WO.loadA rfl rfl (Cells.own (Pick.tail (Pick.head))) rfl rfl ?_
  refine WO.callR (r := .int .i64 (chkC c)) rfl Try.call33 (fun L w hi => ref_CheckContract w c) rfl ?_
  refine WO.p rfl rfl ?_
  refine WO.nil ?_
  refine W.cond_bl rfl (fun c1 => ?_) (fun c1 => ?_)
  · first
    | (exfalso; omega)
    | (refine W.sreg ?_
       refine WO.loadA rfl rfl (Cells.own (Pick.tail (Pick.head))) rfl rfl ?_
       refine WO.callR (r := .int .i64 (chkC c)) rfl Try.call33 (fun L w hi => ref_CheckContract w c) rfl ?_
       refine WO.p rfl rfl (WO.p rfl rfl ?_)
       refine WO.nil ?_
       refine W.ret ?_
       refine fin.ret (Res.two rfl (RV.tmp rfl) (RV.tmp rfl)) ?_
       first | exact payR_1 (by assumption) | exact payR_0 (by assumption) his | exact payR_2 (by assumption) (fun h => (fun (hh : (!isSB n d) = true) => by rw [isSB_t.2 h] at hh; cases hh) (by assumption)))
  · first
    | (exfalso; omega)
    | (refine W.skip ?_
       refine W.seq ?_
       refine W.sreg ?_
       refine WO.loadA rfl rfl (Cells.own Pick.head) rfl rfl ?_
       refine WO.callR (r := .bool (isSB n d)) rfl Try.call41 (fun L w hi => ref_IsSpeed w n d) rfl ?_
       refine WO.p rfl rfl ?_
       refine WO.nil ?_
       refine W.cond rfl (fun c2 => ?_) (fun c2 => ?_)
       · first
         | (exfalso; omega)
         | (refine W.sreg ?_
            refine WO.p rfl rfl (WO.p rfl rfl ?_)
            refine WO.nil ?_
            refine W.ret ?_
            refine fin.ret (Res.two rfl (RV.tmp rfl) (RV.tmp rfl)) ?_
            first | exact payR_1 (by assumption) | exact payR_0 (by assumption) his | exact payR_2 (by assumption) (fun h => (fun (hh : (!isSB n d) = true) => by rw [isSB_t.2 h] at hh; cases hh) (by assumption)))
       · first
         | (exfalso; omega)
         | (refine W.skip ?_
            have his : isS n d := isSB_t.1 ((fun (h : (!isSB n d) = false) => by simpa using h) (by assumption))
            refine W.sreg ?_
            refine WO.loadA rfl rfl (Cells.own (Pick.tail (Pick.head))) rfl rfl (WO.loadA rfl rfl (Cells.own Pick.head) rfl rfl ?_)
            refine WO.callR rfl Try.call61 (fun L w hi => ref_pay w c n d (chkC_of (Decidable.not_not.1 (by assumption))) his.1) rfl ?_
            refine WO.p rfl rfl (WO.p rfl rfl ?_)
            refine WO.nil ?_
            refine W.ret ?_
            refine fin.ret (Res.two rfl (RV.tmp rfl) (RV.tmp rfl)) ?_
            first | exact payR_1 (by assumption) | exact payR_0 (by assumption) his | exact payR_2 (by assumption) (fun h => (fun (hh : (!isSB n d) = true) => by rw [isSB_t.2 h] at hh; cases hh) (by assumption))))
end Go.Proofs.Ytkiaepcklbidgaa
namespace Go.Proofs.Ytkiaepcklbidgaa
open Go Go.TH Go.ChangeShapes Go.WideShapes Go.ChangeAt Go.RowKit
set_option maxRecDepth 100000
section
variable {H : Type} {enc : TypeId × Value → H} {w : World}
theorem cells2 : Try.prog.cellsOf 2 = 1 := by kernel_rfl
theorem cells3 : Try.prog.cellsOf 3 = 1 := by kernel_rfl
theorem cells22 : Try.prog.cellsOf 22 = 1 := by kernel_rfl
theorem cells24 : Try.prog.cellsOf 24 = 2 := by kernel_rfl
theorem cells36 : Try.prog.cellsOf 36 = 2 := by kernel_rfl
theorem cells45 : Try.prog.cellsOf 45 = 7 := by kernel_rfl
theorem cells49 : Try.prog.cellsOf 49 = 2 := by kernel_rfl
theorem cells66 : Try.prog.cellsOf 66 = 3 := by kernel_rfl
theorem cells71 : Try.prog.cellsOf 71 = 1 := by kernel_rfl
theorem wf64 {z : Int} (h : (Lit.int .i64 z).wf = true) : in64 z := by
  simp [Lit.wf, IntKind.min, IntKind.max, IntKind.signed, IntKind.bits] at h
  unfold in64; omega
theorem rd_int {n : Nat} {c : List Value} {y : DataW H × List MemPlace} (h : DataW.trod enc Try.prog w 0 (fun _ => true) true n 2 c = some y) : ∃ z : Int, c = encI z ∧ in64 z := by
  obtain ⟨z, rfl, _, hw⟩ := DataW.trod_int Try.underlying2 h
  exact ⟨z, rfl, wf64 hw⟩
theorem rd_int3 {n : Nat} {c : List Value} {y : DataW H × List MemPlace} (h : DataW.trod enc Try.prog w 0 (fun _ => true) true n 3 c = some y) : ∃ z : Int, c = encI z ∧ in64 z := by
  obtain ⟨z, rfl, _, hw⟩ := DataW.trod_int Try.underlying3 h
  exact ⟨z, rfl, wf64 hw⟩
theorem rd_u32 {n : Nat} {c : List Value} {y : DataW H × List MemPlace} (h : DataW.trod enc Try.prog w 0 (fun _ => true) true n 71 c = some y) : ∃ z : Int, c = [.int .u32 z] ∧ 0 ≤ z ∧ z ≤ 4294967295 := by
  obtain ⟨z, rfl, _, hw⟩ := DataW.trod_int Try.underlying71 h
  simp [Lit.wf, IntKind.min, IntKind.max, IntKind.signed, IntKind.bits] at hw
  exact ⟨z, rfl, by omega, by omega⟩
theorem rd_run {n : Nat} {c : List Value} {y : DataW H × List MemPlace} (hl : c.length = 3) (h : DataW.trod enc Try.prog w 0 (fun _ => true) true n 66 c = some y) : ∃ z : Int × Int × Int, c = encR z ∧ True := by
  obtain ⟨y0, y1, m, _, _, h0, h1⟩ := trod_struct2 Try.underlying66 h
  rw [cells2] at h0
  rw [cells49] at h1
  match c, hl with
  | [a, b, d], _ =>
    simp at h0 h1
    obtain ⟨u, hu, _⟩ := rd_int h0
    obtain ⟨z0, z1, k, _, _, g0, g1⟩ := trod_struct2 Try.underlying49 h1
    rw [cells2] at g0 g1
    simp at g0 g1
    obtain ⟨v, hv, _⟩ := rd_int g0
    obtain ⟨x, hx, _⟩ := rd_int g1
    simp [encI] at hu hv hx
    subst hu; subst hv; subst hx
    exact ⟨(u, v, x), rfl, trivial⟩
theorem open_test {base : Nat} {v : Value} {d : DataW H} {ps : List MemPlace} (hv : Value.okWide Try.prog w .any base 24 v) (h : DataW.Trod enc Try.prog w 0 (fun _ => true) true 24 v d ps) :
    ∃ (m : Int) (o : Value) (rs : List (Int × Int × Int)), v = .agg #[.int .i64 m, o] ∧ RdF encR 3 w.heap.size w o rs := by
  unfold Value.okWide at hv
  rw [Try.underlying24] at hv
  obtain ⟨cs, rfl, hs, _⟩ := hv
  obtain ⟨fuel, hf⟩ := h
  obtain ⟨y0, y1, n, _, hl, h0, h1⟩ := trod_struct2 Try.underlying24 hf
  rw [cells24] at hl
  rw [cells3] at h0
  rw [cells22] at h1
  obtain ⟨l, hcs⟩ : ∃ l, cs = List.toArray l := ⟨cs.toList, by simp⟩
  subst hcs
  simp only [Value.cells] at hl h0 h1
  match l, hl with
  | [a, b], _ =>
    simp at h0 h1
    obtain ⟨u, hu, _⟩ := rd_int3 h0
    simp [encI] at hu
    subst hu
    obtain ⟨o, rs, ho, hr, _⟩ := open_rd (en := encR) (Q := fun _ => True) Try.underlying22 cells66 (by omega) (fun n c y hl hy => rd_run hl hy) h1
    simp at ho
    subst ho
    exact ⟨u, b, rs, rfl, hr⟩
theorem open_list {base : Nat} {v : Value} {d : DataW H} {ps : List MemPlace} (hv : Value.okWide Try.prog w .any base 26 v) (h : DataW.Trod enc Try.prog w 0 (fun _ => true) true 26 v d ps) :
    ∃ xs : List Int, RdF encI 1 w.heap.size w v xs ∧ ∀ x ∈ xs, in64 x := by
  obtain ⟨a0, len, cap, rfl⟩ := okWide_slice Try.underlying26 hv
  obtain ⟨fuel, hf⟩ := h
  obtain ⟨o, xs, ho, hr, hq⟩ := open_rd (en := encI) (Q := in64) Try.underlying26 cells2 (by omega) (fun n c y hl hy => rd_int hy) hf
  simp [Value.cells] at ho
  subst ho
  exact ⟨xs, hr, hq⟩
def encU32 (n : Int) : List Value := [.int .u32 n]
theorem open_by32 {base : Nat} {v : Value} {d : DataW H} {ps : List MemPlace} (hv : Value.okWide Try.prog w .any base 63 v) (h : DataW.Trod enc Try.prog w 0 (fun _ => true) true 63 v d ps) :
    ∃ xs : List Int, RdF encU32 1 w.heap.size w v xs ∧ ∀ x ∈ xs, 0 ≤ x ∧ x ≤ 4294967295 := by
  obtain ⟨a0, len, cap, rfl⟩ := okWide_slice Try.underlying63 hv
  obtain ⟨fuel, hf⟩ := h
  obtain ⟨o, xs, ho, hr, hq⟩ := open_rd (en := encU32) (Q := fun x => 0 ≤ x ∧ x ≤ 4294967295) Try.underlying63 cells71 (by omega) (fun n c y hl hy => rd_u32 hy) hf
  simp [Value.cells] at ho
  subst ho
  exact ⟨xs, hr, hq⟩
theorem open_ratio {base : Nat} {v : Value} {d : DataW H} {ps : List MemPlace} (hv : Value.okWide Try.prog w .any base 36 v) (h : DataW.Trod enc Try.prog w 0 (fun _ => true) true 36 v d ps) :
    ∃ num den : Int, v = .agg #[.int .i64 num, .int .i64 den] ∧ in64 num ∧ in64 den := by
  unfold Value.okWide at hv
  rw [Try.underlying36] at hv
  obtain ⟨cs, rfl, hs, _⟩ := hv
  obtain ⟨fuel, hf⟩ := h
  obtain ⟨y0, y1, n, _, hl, h0, h1⟩ := trod_struct2 Try.underlying36 hf
  rw [cells36] at hl
  rw [cells2] at h0 h1
  obtain ⟨l, hcs⟩ : ∃ l, cs = List.toArray l := ⟨cs.toList, by simp⟩
  subst hcs
  simp only [Value.cells] at hl h0 h1
  match l, hl with
  | [a, b], _ =>
    simp at h0 h1
    obtain ⟨u, hu, i0⟩ := rd_int h0
    obtain ⟨x, hx, i1⟩ := rd_int h1
    simp [encI] at hu hx
    subst hu; subst hx
    exact ⟨u, x, rfl, i0, i1⟩
theorem open_con {base : Nat} {v : Value} {d : DataW H} {ps : List MemPlace} (hv : Value.okWide Try.prog w .any base 45 v) (h : DataW.Trod enc Try.prog w 0 (fun _ => true) true 45 v d ps) :
    ∃ c : Con, v = .agg #[.int .i64 c.sp, .int .i64 c.st, .int .i64 c.pr, .int .i64 c.pe, .int .i64 c.mo, .int .i64 c.rf, .int .i64 c.rd] := by
  unfold Value.okWide at hv
  rw [Try.underlying45] at hv
  obtain ⟨cs, rfl, hs, _⟩ := hv
  obtain ⟨fuel, hf⟩ := h
  obtain ⟨xs, n, _, _, hl, hx, he⟩ := DataW.trod_struct Try.underlying45 hf
  rw [cells45] at hl
  obtain ⟨l, hcs⟩ : ∃ l, cs = List.toArray l := ⟨cs.toList, by simp⟩
  subst hcs
  simp only [Value.cells] at hl he
  match l, hl with
  | [a0, a1, a2, a3, a4, a5, a6], _ =>
    have g : ∀ (i : Nat) (a : Value), i < 7 → (DataW.trod enc Try.prog w 0 (fun _ => true) true n 2 [a] = xs[i]?) → ∃ z : Int, a = .int .i64 z := fun i a hi h3 => by
      obtain ⟨y, hy⟩ : ∃ y, xs[i]? = some y := ⟨xs[i]'(by rw [hx]; exact hi), by simp [hx, hi]⟩
      rw [hy] at h3
      obtain ⟨u, hu, _⟩ := rd_int h3
      simp [encI] at hu
      exact ⟨u, hu⟩
    have e0 := he 0 _ rfl
    have e1 := he 1 _ rfl
    have e2 := he 2 _ rfl
    have e3 := he 3 _ rfl
    have e4 := he 4 _ rfl
    have e5 := he 5 _ rfl
    have e6 := he 6 _ rfl
    simp [cells2] at e0 e1 e2 e3 e4 e5 e6
    obtain ⟨z0, rfl⟩ := g 0 a0 (by omega) (by simpa using e0)
    obtain ⟨z1, rfl⟩ := g 1 a1 (by omega) (by simpa using e1)
    obtain ⟨z2, rfl⟩ := g 2 a2 (by omega) (by simpa using e2)
    obtain ⟨z3, rfl⟩ := g 3 a3 (by omega) (by simpa using e3)
    obtain ⟨z4, rfl⟩ := g 4 a4 (by omega) (by simpa using e4)
    obtain ⟨z5, rfl⟩ := g 5 a5 (by omega) (by simpa using e5)
    obtain ⟨z6, rfl⟩ := g 6 a6 (by omega) (by simpa using e6)
    exact ⟨⟨z0, z1, z2, z3, z4, z5, z6⟩, rfl⟩
theorem open_kind {k : IntKind} {T base : Nat} (hT : Try.prog.underlying T = some (.int k)) {v : Value} {d : DataW H} {ps : List MemPlace} (hv : Value.okWide Try.prog w .any base T v) (h : DataW.Trod enc Try.prog w 0 (fun _ => true) true T v d ps) : ∃ z : Int, v = .int k z ∧ k.min ≤ z ∧ z ≤ k.max := by
  obtain ⟨z, rfl, _, _, hw⟩ := open_int hT hv h
  simp [Lit.wf] at hw
  exact ⟨z, rfl, by omega, by omega⟩
theorem open_u8 {base : Nat} {v : Value} {d : DataW H} {ps : List MemPlace} (hv : Value.okWide Try.prog w .any base 5 v) (h : DataW.Trod enc Try.prog w 0 (fun _ => true) true 5 v d ps) : ∃ z : Int, v = .int .u8 z ∧ 0 ≤ z ∧ z ≤ 255 := by
  obtain ⟨z, rfl, h1, h2⟩ := open_kind Try.underlying5 hv h
  simp [IntKind.min, IntKind.max, IntKind.signed, IntKind.bits] at h1 h2
  exact ⟨z, rfl, by omega, by omega⟩
theorem open_u16 {base : Nat} {v : Value} {d : DataW H} {ps : List MemPlace} (hv : Value.okWide Try.prog w .any base 54 v) (h : DataW.Trod enc Try.prog w 0 (fun _ => true) true 54 v d ps) : ∃ z : Int, v = .int .u16 z ∧ 0 ≤ z ∧ z ≤ 65535 := by
  obtain ⟨z, rfl, h1, h2⟩ := open_kind Try.underlying54 hv h
  simp [IntKind.min, IntKind.max, IntKind.signed, IntKind.bits] at h1 h2
  exact ⟨z, rfl, by omega, by omega⟩
theorem open_u32 {base : Nat} {v : Value} {d : DataW H} {ps : List MemPlace} (hv : Value.okWide Try.prog w .any base 71 v) (h : DataW.Trod enc Try.prog w 0 (fun _ => true) true 71 v d ps) : ∃ z : Int, v = .int .u32 z ∧ 0 ≤ z ∧ z ≤ 4294967295 := by
  obtain ⟨z, rfl, h1, h2⟩ := open_kind Try.underlying71 hv h
  simp [IntKind.min, IntKind.max, IntKind.signed, IntKind.bits] at h1 h2
  exact ⟨z, rfl, by omega, by omega⟩
theorem open_u64 {base : Nat} {v : Value} {d : DataW H} {ps : List MemPlace} (hv : Value.okWide Try.prog w .any base 72 v) (h : DataW.Trod enc Try.prog w 0 (fun _ => true) true 72 v d ps) : ∃ z : Int, v = .int .u64 z ∧ 0 ≤ z ∧ z ≤ 18446744073709551615 := by
  obtain ⟨z, rfl, h1, h2⟩ := open_kind Try.underlying72 hv h
  simp [IntKind.min, IntKind.max, IntKind.signed, IntKind.bits] at h1 h2
  exact ⟨z, rfl, by omega, by omega⟩
end
end Go.Proofs.Ytkiaepcklbidgaa
