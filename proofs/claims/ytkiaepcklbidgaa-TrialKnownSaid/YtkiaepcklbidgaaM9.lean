/-
  What is proved here: the law of the examples holds. Conditions: none.
-/
import Derived.Test.YtkiaepcklbidgaaM6
namespace Go.Proofs.Ytkiaepcklbidgaa
open Go Go.TH
attribute [local irreducible] W WO pt
set_option maxRecDepth 10000
set_option maxHeartbeats 4000000
theorem kn_w : wA 0 (exT 20) = [1, 2, 1] := by decide +kernel
theorem kn_w2 : wA 2 (exT 30) = [1, 2, 1] := by decide +kernel
theorem kn_can : canV 0 (exT 20) = 1 := by decide +kernel
theorem kn_t1 : chkT 1 (exT 20) = 0 := by decide +kernel
theorem kn_can1 : canV 1 (exT 20) = -1 := by decide +kernel
theorem kn_off : offR 0 (exT 30) [5, 3] = .tuple #[.agg #[.int .i64 0, .int .i64 1], .int .i64 0] := by
  have e1 : offE 0 (exT 30) [5, 3] = 0 := by decide +kernel
  have e2 : offV 0 (exT 30) [5, 3] = (0, 1) := by decide +kernel
  unfold offR; rw [e1, e2]; rfl
/-- some speeds, and what is paid for each -/
def knR : List (Int × Int) := [(405, 1), (809, 2), (415, 1), (399, 1), (379, 1)]
def knW : List Int := [100, 0, 250, -150, -1000]
def knN (i : Nat) : Int := (knR.getD i (0, 0)).1
def knD (i : Nat) : Int := (knR.getD i (0, 0)).2
def knP (i : Nat) : Int := knW.getD i 0
theorem kn_one {n d v : Int} (h : SpB n d) (hg : gcd2 n d = 1) (e : payV exC n d = v) : payR exC n d = .tuple #[.int .i64 v, .int .i64 0] := by
  rw [← payR_0 (by rw [chkC_0 ex_ok]; simp) (ex_is h hg), e]
theorem kn_pay {i : Nat} (h : i < 5) : payR exC (knN i) (knD i) = .tuple #[.int .i64 (knP i), .int .i64 0] := by
  obtain rfl | rfl | rfl | rfl | rfl : i = 0 ∨ i = 1 ∨ i = 2 ∨ i = 3 ∨ i = 4 := by omega
  · exact kn_one (n := 405) (d := 1) (v := 100) ⟨by omega, by omega, by omega⟩ (by decide +kernel) (by decide +kernel)
  · exact kn_one (n := 809) (d := 2) (v := 0) ⟨by omega, by omega, by omega⟩ (by decide +kernel) (by decide +kernel)
  · exact kn_one (n := 415) (d := 1) (v := 250) ⟨by omega, by omega, by omega⟩ (by decide +kernel) (by decide +kernel)
  · exact kn_one (n := 399) (d := 1) (v := -150) ⟨by omega, by omega, by omega⟩ (by decide +kernel) (by decide +kernel)
  · exact kn_one (n := 379) (d := 1) (v := -1000) ⟨by omega, by omega, by omega⟩ (by decide +kernel) (by decide +kernel)
theorem kn_cells {C : Cx Try.prog} {H : List HP} {e : Nat} {v : Value} {i : Nat} (s : Sub H [OwE encP e 2 v knR]) (h : i < 5) : Cells C H (elt v i 2) [.int .i64 (knN i), .int .i64 (knD i)] := by
  cases s with
  | cons p _ => exact OwE.cells encP_ok p h (0, 0)
theorem kn_cell {C : Cx Try.prog} {H : List HP} {e : Nat} {v : Value} {i : Nat} (s : Sub H [OwE encI e 1 v knW]) (h : i < 5) : Cell C H (elt v i 1) (.int .i64 (knP i)) := owE_cellS s h rfl
theorem law_TrialKnown (w : World) : Ret Try.prog 11 ([] : List Value).toArray w (.bool true) := by
  refine Ret.of mixed tyTab Try.func11 rfl rfl ?_
  refine W.sreg ?_
  refine WO.p rfl rfl ?_
  refine WO.nil ?_
  refine W.sreg ?_
  refine WO.call (Post := fun v Hq => ∃ x : Value, v = .agg #[.int .i64 0, x] ∧ Hq = [OwE encR 66 3 x (exT 20)]) rfl Try.call43 (fun L w hi => law_Test w 20) rfl ?_
  rintro _ _ ⟨o1, rfl, rfl⟩
  refine WO.fact (OwE.form (enc := encR) (e := 66) (sz := 3) (by repeat (first | exact Pick.head | apply Pick.tail))) (fun hf => ?_)
  obtain ⟨a1, c1, rfl⟩ := hf
  refine WO.call (Post := fun v Hq => ∃ x : Value, v = .agg #[.int .i64 0, x] ∧ Hq = [OwE encR 66 3 x (exT 30)]) rfl Try.call43 (fun L w hi => law_Test w 30) rfl ?_
  rintro _ _ ⟨o2, rfl, rfl⟩
  refine WO.fact (OwE.form (enc := encR) (e := 66) (sz := 3) (xs := exT 30) (by repeat (first | exact Pick.head | apply Pick.tail))) (fun hf => ?_)
  obtain ⟨a2, c2, rfl⟩ := hf
  refine WO.alloc rfl rfl rfl (fun b1 hb1 => ?_)
  refine WO.alloc rfl rfl rfl (fun b2 hb2 => ?_)
  refine WO.storeA rfl rfl rfl rfl (Pick.tail (Pick.head)) rfl rfl (WO.storeA rfl rfl rfl rfl (Pick.tail (Pick.head)) rfl rfl ?_)
  refine WO.nil ?_
  refine W.sreg ?_
  refine WO.loadA rfl rfl (Cells.own (Pick.tail (Pick.head))) rfl rfl ?_
  refine WO.call (Post := fun v Hq => ∃ x : Value, v = .tuple #[x, .int .i64 0] ∧ Hq = [OwE encI 2 1 x [1, 2, 1]]) rfl Try.call13 (fun L w hi => by have h := c_Weights w 0 (.slice a1 (exT 20).length c1) (exT 20) (RdF.of_ow (e := 66) encR_ok (by repeat (first | exact Pick.head | apply Pick.tail)) hi); rw [ex_t0, kn_w] at h; exact h) rfl ?_
  rintro _ _ ⟨wv, rfl, rfl⟩
  refine WO.p rfl rfl (WO.p rfl rfl (WO.p rfl rfl (WO.p rfl rfl (WO.p rfl rfl ?_))))
  refine WO.nil ?_
  refine W.sreg ?_
  refine WO.loadA rfl rfl (Cells.own (Pick.tail (Pick.tail (Pick.head)))) rfl rfl ?_
  refine WO.callR (r := .tuple #[.int .i64 1, .int .i64 0]) rfl Try.call15 (fun L w hi => by have h := c_Cancels w 0 (.slice a1 (exT 20).length c1) (exT 20) (RdF.of_ow (e := 66) encR_ok (by repeat (first | exact Pick.head | apply Pick.tail)) hi); rw [ex_t0, kn_can] at h; exact h) rfl ?_
  refine WO.p rfl rfl (WO.p rfl rfl (WO.p rfl rfl (WO.p rfl rfl (WO.p rfl rfl ?_))))
  refine WO.nil ?_
  refine W.sreg ?_
  refine WO.loadA rfl rfl (Cells.own (Pick.tail (Pick.head))) rfl rfl ?_
  refine' WO.buildSl (cs := _) rfl rfl rfl rfl ?hf rfl rfl ?hl rfl (fun v3 => ?_)
  case hf => (conv => lhs; simp [-List.getD_eq_getElem?_getD, fillL, vcl, wrl, TTab.pl?.lget']) <;> rfl
  case hl => rfl
  refine WO.callR (r := .tuple #[.agg #[.int .i64 0, .int .i64 1], .int .i64 0]) rfl Try.call26 (fun L w hi => by have h := c_Off w 0 (.slice a2 (exT 30).length c2) _ (exT 30) [5, 3] (RdF.of_ow (e := 66) encR_ok (by repeat (first | exact Pick.head | apply Pick.tail)) hi) (RdF.of_ow (e := 2) encI_ok (by repeat (first | exact Pick.head | apply Pick.tail)) hi); rw [kn_off] at h; exact h) rfl ?_
  refine WO.p rfl rfl (WO.p rfl rfl (WO.p rfl rfl ?_))
  refine WO.alloc rfl rfl rfl (fun b4 hb4 => ?_)
  refine WO.storeA rfl rfl rfl rfl Pick.head rfl rfl (WO.p rfl rfl ?_)
  refine WO.nil ?_
  refine W.sreg ?_
  refine WO.field0 rfl rfl rfl (WO.store1 rfl rfl rfl (by first | rfl | assumption) (Pick.tail (Pick.tail (Pick.tail (Pick.tail (Pick.head))))) rfl (WO.field0 rfl rfl rfl (WO.store1 rfl rfl rfl (by first | rfl | assumption) (Pick.tail (Pick.tail (Pick.tail (Pick.tail (Pick.head))))) rfl ?_)))
  refine WO.nil ?_
  refine W.sreg ?_
  refine WO.loadA rfl rfl (Cells.own (Pick.tail (Pick.head))) rfl rfl ?_
  refine WO.callR (r := .tuple #[.int .i64 (-1), .int .i64 0]) rfl Try.call15 (fun L w hi => by have h := c_Cancels w 1 (.slice a1 (exT 20).length c1) (exT 20) (RdF.of_ow (e := 66) encR_ok (by repeat (first | exact Pick.head | apply Pick.tail)) hi); rw [kn_t1, kn_can1] at h; exact h) rfl ?_
  refine WO.p rfl rfl (WO.p rfl rfl (WO.p rfl rfl (WO.p rfl rfl (WO.p rfl rfl ?_))))
  refine WO.nil ?_
  refine W.sreg ?_
  refine WO.loadA rfl rfl (Cells.own Pick.head) rfl rfl ?_
  refine WO.call (Post := fun v Hq => ∃ x : Value, v = .tuple #[x, .int .i64 0] ∧ Hq = [OwE encI 2 1 x [1, 2, 1]]) rfl Try.call13 (fun L w hi => by have h := c_Weights w 2 (.slice a2 (exT 30).length c2) (exT 30) (RdF.of_ow (e := 66) encR_ok (by repeat (first | exact Pick.head | apply Pick.tail)) hi); rw [ex_t2, kn_w2] at h; exact h) rfl ?_
  rintro _ _ ⟨wu, rfl, rfl⟩
  refine WO.p rfl rfl (WO.p rfl rfl (WO.p rfl rfl (WO.p rfl rfl (WO.p rfl rfl ?_))))
  refine WO.nil ?_
  refine W.sreg ?_
  refine WO.callR rfl Try.call37 (fun L w hi => law_whole w _) rfl ?_
  refine' WO.build (cs := _) rfl rfl rfl ?hf rfl ?_
  case hf => (conv => lhs; simp [-List.getD_eq_getElem?_getD, fillL, vcl, wrl, TTab.pl?.lget']) <;> rfl
  refine WO.callR rfl Try.call37 (fun L w hi => law_whole w _) rfl ?_
  refine WO.callR rfl Try.call37 (fun L w hi => law_whole w _) rfl ?_
  refine WO.callR rfl Try.call37 (fun L w hi => law_whole w _) rfl ?_
  refine' WO.buildSl (cs := _) rfl rfl rfl rfl ?hf rfl rfl ?hl rfl (fun v5 => ?_)
  case hf => (conv => lhs; simp [-List.getD_eq_getElem?_getD, fillL, vcl, wrl, TTab.pl?.lget']) <;> rfl
  case hl => rfl
  refine WO.p rfl rfl ?_
  refine WO.nil ?_
  refine W.sreg ?_
  refine' WO.buildSl (cs := _) rfl rfl rfl rfl ?hf rfl rfl ?hl rfl (fun v6 => ?_)
  case hf => (conv => lhs; simp [-List.getD_eq_getElem?_getD, fillL, vcl, wrl, TTab.pl?.lget']) <;> rfl
  case hl => rfl
  refine WO.p rfl rfl ?_
  refine WO.nil ?_
  refine W.seq ?_
  refine W.sreg ?_
  refine WO.p rfl rfl ?_
  refine WO.nil ?_
  refine W.block ?_
  refine W.loop (fun (i : Nat) => i ≤ 5)
    (fun (i : Nat) => [(15, .int .i64 (i : Int)), (14, .slice (some ⟨v6, 0, none⟩) 5 5), (13, .slice (some ⟨v5, 0, none⟩) 5 5), (12, .int .i64 0), (11, wu), (10, .int .i64 0), (9, .int .i64 (-1)), (8, .int .i64 0), (7, .pointer (some ⟨b4, 0, none⟩)), (6, .int .i64 0), (5, .int .i64 1), (4, .int .i64 0), (3, wv)])
    (fun (i : Nat) => [pt b4 (.cells #[.int .i64 0, .int .i64 1] 36 (0, 0)), OwE encI 2 1 wv [1, 2, 1], OwE encI 2 1 wu [1, 2, 1], OwE encP 36 2 (.slice (some ⟨v5, 0, none⟩) 5 5) knR, OwE encI 2 1 (.slice (some ⟨v6, 0, none⟩) 5 5) knW])
    (fun (i : Nat) => 5 - i) 0
    (by omega) ⟨rfl, rfl, rfl, rfl, rfl, rfl, rfl, rfl, rfl, rfl, rfl, rfl, rfl, trivial⟩ (by repeat (first | exact Sub.nil | refine Sub.cons (by repeat (first | exact Pick.head | apply Pick.tail)) ?_)) ?_
  rintro i hi
  refine W.seq ?_
  refine W.sreg ?_
  refine WO.p rfl rfl (WO.p rfl rfl ?_)
  refine' WO.len (n := _) rfl rfl ?hs rfl ?_
  case hs => (first | exact isSl_lit (n := 5) (by omega) (fun _ => ⟨_, _, rfl⟩))
  refine WO.p rfl rfl ?_
  refine WO.nil ?_
  refine W.cond_bl rfl (fun c1 => ?_) (fun c1 => ?_)
  · first
    | (exfalso; omega)
    | (refine W.skip ?_
       refine W.seq ?_
       refine W.block ?_
       refine W.seq ?_
       refine W.drawD 10 [.b 0 [], .r 1 [], .r 2 [], .r 3 [], .b 4 [], .b 5 [], .r 6 [], .r 7 [], .r 8 [], .r 9 []] [] (A0 := []) (Sub.refl _) (by kernel_rfl) ?_ ?_
       · exact (ALok.b (ALok.r (ALok.r (ALok.r (ALok.b (ALok.b (ALok.r (ALok.r (ALok.r (ALok.r ALok.nil))))))))))
       refine' DT.b rfl rfl rfl ?hq ?_
       case hq =>
         refine WO.callR rfl Try.call44 (fun L w hi => law_Contract w) rfl ?_
         exact WO.nil ⟨rfl, rfl⟩
       refine' DT.r rfl rfl rfl ?hq ?_
       case hq =>
         refine WO.p rfl rfl ?_
         exact WO.nil ⟨rfl, rfl⟩
       refine' DT.r rfl rfl rfl ?hq ?_
       case hq =>
         refine WO.p rfl rfl ?_
         exact WO.nil ⟨rfl, rfl⟩
       refine' DT.r rfl rfl rfl ?hq ?_
       case hq =>
         refine' WO.indexAddr (n := _) (i := _) rfl rfl rfl ?hs ?h1 rfl ?_
         case hs => (first | exact isSl_lit (n := 5) (by omega) (fun _ => ⟨_, _, rfl⟩))
         case h1 => (first | omega | (simp; omega))
         exact WO.nil ⟨rfl, rfl⟩
       refine' DT.b rfl rfl rfl ?hq ?_
       case hq =>
         refine' WO.loadA (vs := _) rfl rfl ?hc ?hl rfl ?_
         case hc => (first | (refine kn_cells (e := 36) (i := i) ?_ (by omega); (repeat (first | exact Sub.nil | refine Sub.cons (by repeat (first | exact Pick.head | apply Pick.tail)) ?_))))
         case hl => rfl
         exact WO.nil ⟨rfl, rfl⟩
       refine' DT.b rfl rfl rfl ?hq ?_
       case hq =>
         refine WO.callR (r := .tuple #[.int .i64 (knP i), .int .i64 0]) rfl Try.call28 (fun L w hi => by have h := c_Pay w exC (knN i) (knD i); rw [kn_pay (by omega)] at h; exact h) rfl ?_
         exact WO.nil ⟨rfl, rfl⟩
       refine' DT.r rfl rfl rfl ?hq ?_
       case hq =>
         refine WO.p rfl rfl ?_
         exact WO.nil ⟨rfl, rfl⟩
       refine' DT.r rfl rfl rfl ?hq ?_
       case hq =>
         refine WO.p rfl rfl ?_
         exact WO.nil ⟨rfl, rfl⟩
       refine' DT.r rfl rfl rfl ?hq ?_
       case hq =>
         refine WO.p rfl rfl ?_
         exact WO.nil ⟨rfl, rfl⟩
       refine' DT.r rfl rfl rfl ?hq ?_
       case hq =>
         refine WO.p rfl rfl ?_
         exact WO.nil ⟨rfl, rfl⟩
       refine DT.nil [_, _, _, _, _] rfl ?_
       refine WO.p rfl rfl ?_
       refine WO.nil ?_
       refine W.sreg ?_
       refine WO.p rfl rfl (WO.p rfl rfl (WO.p rfl rfl ?_))
       refine WO.guard_bl rfl rfl (fun c2 => ?_) (fun c2 => ?_)
       · first
         | (exfalso; omega)
         | (refine WO.no rfl rfl (WO.no rfl rfl (WO.no rfl rfl (WO.no rfl rfl (WO.no rfl rfl (WO.no rfl rfl (WO.p rfl rfl ?_))))))
            refine WO.nil ?_
            refine W.cond_t rfl ?_
            refine W.sreg ?_
            refine WO.p rfl rfl ?_
            refine WO.nil ?_
            refine W.ret ?_
            exact fin.ret (Res.one rfl (RV.tmp rfl)) rfl)
       · first
         | (exfalso; omega)
         | (refine WO.pg rfl rfl rfl (WO.pg rfl rfl rfl (WO.pg rfl rfl rfl (WO.go' rfl ?_)))
            refine' WO.indexAddr (n := _) (i := _) rfl rfl rfl ?hs ?h1 rfl ?_
            case hs => (first | exact isSl_lit (n := 5) (by omega) (fun _ => ⟨_, _, rfl⟩))
            case h1 => (first | omega | (simp; omega))
            refine WO.go' rfl ?_
            refine' WO.load (v := _) rfl rfl ?hc rfl ?_
            case hc => (first | (refine kn_cell (e := 2) (i := i) ?_ (by omega); (repeat (first | exact Sub.nil | refine Sub.cons (by repeat (first | exact Pick.head | apply Pick.tail)) ?_))))
            refine WO.pg rfl rfl rfl (WO.p rfl rfl ?_)
            refine WO.nil ?_
            refine W.cond_bl rfl (fun c3 => ?_) (fun c3 => ?_)
            · first
              | (exfalso; omega)
              | (refine W.sreg ?_
                 refine WO.p rfl rfl ?_
                 refine WO.nil ?_
                 refine W.ret ?_
                 exact fin.ret (Res.one rfl (RV.tmp rfl)) rfl)
            · first
              | (exfalso; omega)
              | (refine W.skip ?_
                 refine W.region ?_
                 refine WO.p rfl rfl (WO.ar rfl rfl rfl (by (first | (unfold in64; omega))) rfl (WO.p rfl rfl ?_))
                 refine WO.nil ?_
                 refine' ⟨i + 1, ?hp, ?hmu, ⟨rfl, rfl, rfl, rfl, rfl, rfl, rfl, rfl, rfl, rfl, rfl, rfl, rfl, trivial⟩, ?hS⟩
                 case hS => repeat (first | exact Sub.nil | refine Sub.cons (by repeat (first | exact Pick.head | apply Pick.tail)) ?_)
                 case hp => omega
                 case hmu => omega)))
  · first
    | (exfalso; omega)
    | (refine W.exit (blk_same ?_)
       refine W.seq ?_
       refine W.drawD 39 [.r 0 [], .r 1 [], .r 2 [], .r 3 [], .r 4 [], .r 5 [], .r 6 [], .r 7 [], .r 8 [], .r 9 [], .r 10 [], .r 11 [], .r 12 [], .r 13 [], .r 14 [], .r 15 [], .r 16 [], .r 17 [], .r 18 [], .r 19 [], .c 20 [], .f 21 [], .r 22 [], .r 23 [], .r 24 [], .r 25 [], .r 26 [], .r 27 [], .b 28 [], .b 29 [], .r 30 [], .r 31 [], .r 32 [], .r 33 [], .r 34 [], .r 35 [], .r 36 [], .r 37 [], .c 38 []] [] (A0 := []) (Sub.refl _) (by kernel_rfl) ?_ ?_
       · exact (ALok.r (ALok.r (ALok.r (ALok.r (ALok.r (ALok.r (ALok.r (ALok.r (ALok.r (ALok.r (ALok.r (ALok.r (ALok.r (ALok.r (ALok.r (ALok.r (ALok.r (ALok.r (ALok.r (ALok.r (ALok.c (ALok.f (ALok.r (ALok.r (ALok.r (ALok.r (ALok.r (ALok.r (ALok.b (ALok.b (ALok.r (ALok.r (ALok.r (ALok.r (ALok.r (ALok.r (ALok.r (ALok.r (ALok.c ALok.nil)))))))))))))))))))))))))))))))))))))))
       refine' DT.r rfl rfl rfl ?hq ?_
       case hq =>
         refine WO.p rfl rfl ?_
         exact WO.nil ⟨rfl, rfl⟩
       refine' DT.r rfl rfl rfl ?hq ?_
       case hq =>
         refine WO.p rfl rfl ?_
         exact WO.nil ⟨rfl, rfl⟩
       refine' DT.rB rfl rfl rfl ?hq (fun c4 => ?_) (fun c4 => ?_)
       case hq =>
         refine WO.p rfl rfl ?_
         exact WO.nil ⟨rfl, rfl⟩
       · first
         | (exfalso; omega)
         | (refine' DT.r rfl rfl rfl ?hq ?_
            case hq =>
              refine WO.pg rfl rfl rfl ?_
              exact WO.nil ⟨rfl, rfl⟩
            refine' DT.r rfl rfl rfl ?hq ?_
            case hq =>
              refine WO.pg rfl rfl rfl ?_
              exact WO.nil ⟨rfl, rfl⟩
            refine' DT.r rfl rfl rfl ?hq ?_
            case hq =>
              refine WO.p rfl rfl ?_
              exact WO.nil ⟨rfl, rfl⟩
            refine' DT.rB rfl rfl rfl ?hq (fun c5 => ?_) (fun c5 => ?_)
            case hq =>
              refine WO.p rfl rfl ?_
              exact WO.nil ⟨rfl, rfl⟩
            · first
              | (exfalso; omega)
              | (refine' DT.r rfl rfl rfl ?hq ?_
                 case hq =>
                   refine WO.pg rfl rfl rfl ?_
                   exact WO.nil ⟨rfl, rfl⟩
                 refine' DT.r rfl rfl rfl ?hq ?_
                 case hq =>
                   refine WO.pg rfl rfl rfl ?_
                   exact WO.nil ⟨rfl, rfl⟩
                 refine' DT.r rfl rfl rfl ?hq ?_
                 case hq =>
                   refine WO.p rfl rfl ?_
                   exact WO.nil ⟨rfl, rfl⟩
                 refine' DT.rB rfl rfl rfl ?hq (fun c6 => ?_) (fun c6 => ?_)
                 case hq =>
                   refine WO.p rfl rfl ?_
                   exact WO.nil ⟨rfl, rfl⟩
                 · first
                   | (exfalso; omega)
                   | (refine' DT.r rfl rfl rfl ?hq ?_
                      case hq =>
                        refine WO.pg rfl rfl rfl ?_
                        exact WO.nil ⟨rfl, rfl⟩
                      refine' DT.r rfl rfl rfl ?hq ?_
                      case hq =>
                        refine WO.pg rfl rfl rfl ?_
                        exact WO.nil ⟨rfl, rfl⟩
                      refine' DT.r rfl rfl rfl ?hq ?_
                      case hq =>
                        refine WO.p rfl rfl ?_
                        exact WO.nil ⟨rfl, rfl⟩
                      refine' DT.rB rfl rfl rfl ?hq (fun c7 => ?_) (fun c7 => ?_)
                      case hq =>
                        refine WO.p rfl rfl ?_
                        exact WO.nil ⟨rfl, rfl⟩
                      · first
                        | (exfalso; omega)
                        | (refine' DT.r rfl rfl rfl ?hq ?_
                           case hq =>
                             refine WO.pg rfl rfl rfl ?_
                             exact WO.nil ⟨rfl, rfl⟩
                           refine' DT.r rfl rfl rfl ?hq ?_
                           case hq =>
                             refine WO.pg rfl rfl rfl ?_
                             exact WO.nil ⟨rfl, rfl⟩
                           refine' DT.r rfl rfl rfl ?hq ?_
                           case hq =>
                             refine WO.p rfl rfl ?_
                             exact WO.nil ⟨rfl, rfl⟩
                           refine' DT.rB rfl rfl rfl ?hq (fun c8 => ?_) (fun c8 => ?_)
                           case hq =>
                             refine WO.p rfl rfl ?_
                             exact WO.nil ⟨rfl, rfl⟩
                           · first
                             | (exfalso; omega)
                             | (refine' DT.r rfl rfl rfl ?hq ?_
                                case hq =>
                                  refine WO.pg rfl rfl rfl ?_
                                  exact WO.nil ⟨rfl, rfl⟩
                                refine DT.c [_, _, _, _, _] rfl rfl rfl rfl ?_
                                refine WO.go' rfl ?_
                                refine' WO.buildSl (cs := _) rfl rfl rfl rfl ?hf rfl rfl ?hl rfl (fun v7 => ?_)
                                case hf => (conv => lhs; simp [-List.getD_eq_getElem?_getD, fillL, vcl, wrl, TTab.pl?.lget']) <;> rfl
                                case hl => rfl
                                refine WO.nil ⟨_, [_], rfl, rfl, (Keep.r (Keep.r (Keep.r (Keep.r (Keep.r (Keep.r (Keep.r (Keep.r (Keep.r (Keep.r (Keep.r (Keep.r (Keep.r (Keep.r (Keep.r (Keep.r (Keep.r (Keep.r (Keep.r (Keep.r Keep.nil)))))))))))))))))))), ?_⟩
                                refine' DT.f [_, _, _, _, _, _] rfl rfl rfl rfl ?hq ?_
                                case hq =>
                                  refine WO.go' rfl ?_
                                  refine WO.callR (r := .bool true) rfl Try.call21 (fun L w hi => longs_t (law_longs w wv (.slice (some ⟨v7, 0, none⟩) 3 3) [1, 2, 1] [1, 2, 1] (RdF.of_ow (e := 2) encI_ok (by repeat (first | exact Pick.head | apply Pick.tail)) hi) (RdF.of_ow (e := 2) encI_ok (by repeat (first | exact Pick.head | apply Pick.tail)) hi))) rfl ?_
                                  exact WO.nil ⟨rfl, rfl⟩
                                refine' DT.r rfl rfl rfl ?hq ?_
                                case hq =>
                                  refine WO.p rfl rfl ?_
                                  exact WO.nil ⟨rfl, rfl⟩
                                refine' DT.r rfl rfl rfl ?hq ?_
                                case hq =>
                                  refine WO.p rfl rfl ?_
                                  exact WO.nil ⟨rfl, rfl⟩
                                refine' DT.r rfl rfl rfl ?hq ?_
                                case hq =>
                                  refine WO.pg rfl rfl rfl ?_
                                  exact WO.nil ⟨rfl, rfl⟩
                                refine' DT.r rfl rfl rfl ?hq ?_
                                case hq =>
                                  refine WO.pg rfl rfl rfl ?_
                                  exact WO.nil ⟨rfl, rfl⟩
                                refine' DT.r rfl rfl rfl ?hq ?_
                                case hq =>
                                  refine WO.p rfl rfl ?_
                                  exact WO.nil ⟨rfl, rfl⟩
                                refine' DT.rB rfl rfl rfl ?hq (fun c9 => ?_) (fun c9 => ?_)
                                case hq =>
                                  refine WO.p rfl rfl ?_
                                  exact WO.nil ⟨rfl, rfl⟩
                                · first
                                  | (exfalso; omega)
                                  | (refine' DT.b rfl rfl rfl ?hq ?_
                                     case hq =>
                                       refine WO.go' rfl (WO.loadA rfl rfl (Cells.own Pick.head) rfl rfl ?_)
                                       exact WO.nil ⟨rfl, rfl⟩
                                     refine' DT.b rfl rfl rfl ?hq ?_
                                     case hq =>
                                       refine WO.go' rfl ?_
                                       refine WO.callR rfl Try.call37 (fun L w hi => law_whole w _) rfl ?_
                                       exact WO.nil ⟨rfl, rfl⟩
                                     refine' DT.r rfl rfl rfl ?hq ?_
                                     case hq =>
                                       refine WO.go' rfl ?_
                                       refine WO.eqT rfl rfl (eq36t _ _) rfl ?_
                                       exact WO.nil ⟨rfl, rfl⟩
                                     refine' DT.r rfl rfl rfl ?hq ?_
                                     case hq =>
                                       refine WO.p rfl rfl ?_
                                       exact WO.nil ⟨rfl, rfl⟩
                                     refine' DT.r rfl rfl rfl ?hq ?_
                                     case hq =>
                                       refine WO.p rfl rfl ?_
                                       exact WO.nil ⟨rfl, rfl⟩
                                     refine' DT.r rfl rfl rfl ?hq ?_
                                     case hq =>
                                       refine WO.pg rfl rfl rfl ?_
                                       exact WO.nil ⟨rfl, rfl⟩
                                     refine' DT.r rfl rfl rfl ?hq ?_
                                     case hq =>
                                       refine WO.pg rfl rfl rfl ?_
                                       exact WO.nil ⟨rfl, rfl⟩
                                     refine' DT.r rfl rfl rfl ?hq ?_
                                     case hq =>
                                       refine WO.p rfl rfl ?_
                                       exact WO.nil ⟨rfl, rfl⟩
                                     refine' DT.rB rfl rfl rfl ?hq (fun c10 => ?_) (fun c10 => ?_)
                                     case hq =>
                                       refine WO.p rfl rfl ?_
                                       exact WO.nil ⟨rfl, rfl⟩
                                     · first
                                       | (exfalso; omega)
                                       | (refine' DT.r rfl rfl rfl ?hq ?_
                                          case hq =>
                                            refine WO.pg rfl rfl rfl ?_
                                            exact WO.nil ⟨rfl, rfl⟩
                                          refine DT.c [_, _, _, _, _, _] rfl rfl rfl rfl ?_
                                          refine WO.go' rfl ?_
                                          refine' WO.buildSl (cs := _) rfl rfl rfl rfl ?hf rfl rfl ?hl rfl (fun v8 => ?_)
                                          case hf => (conv => lhs; simp [-List.getD_eq_getElem?_getD, fillL, vcl, wrl, TTab.pl?.lget']) <;> rfl
                                          case hl => rfl
                                          refine WO.nil ⟨_, [_, _], rfl, rfl, (Keep.r (Keep.r (Keep.r (Keep.r (Keep.r (Keep.r (Keep.r (Keep.r (Keep.b (Keep.b (Keep.r (Keep.r (Keep.r (Keep.r (Keep.r (Keep.r (Keep.f (Keep.c (Keep.r (Keep.r (Keep.r (Keep.r (Keep.r (Keep.r (Keep.r (Keep.r (Keep.r (Keep.r (Keep.r (Keep.r (Keep.r (Keep.r (Keep.r (Keep.r (Keep.r (Keep.r (Keep.r (Keep.r Keep.nil)))))))))))))))))))))))))))))))))))))), ?_⟩
                                          refine DT.nil [_, _, _, _, _, _, _] rfl ?_
                                          refine WO.go' rfl ?_
                                          refine WO.callR (r := .bool true) rfl Try.call21 (fun L w hi => longs_t (law_longs w wu (.slice (some ⟨v8, 0, none⟩) 3 3) [1, 2, 1] [1, 2, 1] (RdF.of_ow (e := 2) encI_ok (by repeat (first | exact Pick.head | apply Pick.tail)) hi) (RdF.of_ow (e := 2) encI_ok (by repeat (first | exact Pick.head | apply Pick.tail)) hi))) rfl ?_
                                          refine WO.p rfl rfl (WO.p rfl rfl (WO.go' rfl ?_))
                                          refine WO.callR rfl Try.call12 (fun L w hi => law_Works w) rfl ?_
                                          refine WO.p rfl rfl (WO.p rfl rfl ?_)
                                          refine WO.nil ?_
                                          refine W.ret ?_
                                          exact fin.ret (Res.one rfl (RV.tmp rfl)) rfl)
                                     · first
                                       | (exfalso; omega)
                                       | (refine' DT.r rfl rfl rfl ?hq ?_
                                          case hq =>
                                            refine WO.no rfl rfl ?_
                                            exact WO.nil ⟨rfl, rfl⟩
                                          refine DT.c [_, _, _, _, _, _] rfl rfl rfl rfl ?_
                                          refine WO.no rfl rfl ?_
                                          refine WO.nil ⟨_, [_], rfl, rfl, (Keep.r (Keep.r (Keep.r (Keep.r (Keep.r (Keep.r (Keep.r (Keep.r (Keep.b (Keep.b (Keep.r (Keep.r (Keep.r (Keep.r (Keep.r (Keep.r (Keep.f (Keep.c (Keep.r (Keep.r (Keep.r (Keep.r (Keep.r (Keep.r (Keep.r (Keep.r (Keep.r (Keep.r (Keep.r (Keep.r (Keep.r (Keep.r (Keep.r (Keep.r (Keep.r (Keep.r (Keep.r (Keep.r Keep.nil)))))))))))))))))))))))))))))))))))))), ?_⟩
                                          refine DT.nil [_, _, _, _, _, _] rfl ?_
                                          refine WO.no rfl rfl (WO.p rfl rfl (WO.p rfl rfl (WO.no rfl rfl (WO.p rfl rfl (WO.p rfl rfl ?_)))))
                                          refine WO.nil ?_
                                          refine W.ret ?_
                                          exact fin.ret (Res.one rfl (RV.tmp rfl)) rfl))
                                · first
                                  | (exfalso; omega)
                                  | (refine' DT.b rfl rfl rfl ?hq ?_
                                     case hq =>
                                       refine WO.no rfl rfl ?_
                                       exact WO.nil ⟨rfl, rfl⟩
                                     refine' DT.b rfl rfl rfl ?hq ?_
                                     case hq =>
                                       refine WO.no rfl rfl ?_
                                       exact WO.nil ⟨rfl, rfl⟩
                                     refine' DT.r rfl rfl rfl ?hq ?_
                                     case hq =>
                                       refine WO.no rfl rfl ?_
                                       exact WO.nil ⟨rfl, rfl⟩
                                     refine' DT.r rfl rfl rfl ?hq ?_
                                     case hq =>
                                       refine WO.p rfl rfl ?_
                                       exact WO.nil ⟨rfl, rfl⟩
                                     refine' DT.r rfl rfl rfl ?hq ?_
                                     case hq =>
                                       refine WO.p rfl rfl ?_
                                       exact WO.nil ⟨rfl, rfl⟩
                                     refine' DT.r rfl rfl rfl ?hq ?_
                                     case hq =>
                                       refine WO.no rfl rfl ?_
                                       exact WO.nil ⟨rfl, rfl⟩
                                     refine' DT.r rfl rfl rfl ?hq ?_
                                     case hq =>
                                       refine WO.no rfl rfl ?_
                                       exact WO.nil ⟨rfl, rfl⟩
                                     refine' DT.r rfl rfl rfl ?hq ?_
                                     case hq =>
                                       refine WO.p rfl rfl ?_
                                       exact WO.nil ⟨rfl, rfl⟩
                                     refine' DT.r rfl rfl rfl ?hq ?_
                                     case hq =>
                                       refine WO.p rfl rfl ?_
                                       exact WO.nil ⟨rfl, rfl⟩
                                     refine' DT.r rfl rfl rfl ?hq ?_
                                     case hq =>
                                       refine WO.no rfl rfl ?_
                                       exact WO.nil ⟨rfl, rfl⟩
                                     refine DT.c [_, _, _, _, _, _] rfl rfl rfl rfl ?_
                                     refine WO.no rfl rfl ?_
                                     refine WO.nil ⟨_, [_], rfl, rfl, (Keep.r (Keep.r (Keep.r (Keep.r (Keep.r (Keep.r (Keep.r (Keep.r (Keep.b (Keep.b (Keep.r (Keep.r (Keep.r (Keep.r (Keep.r (Keep.r (Keep.f (Keep.c (Keep.r (Keep.r (Keep.r (Keep.r (Keep.r (Keep.r (Keep.r (Keep.r (Keep.r (Keep.r (Keep.r (Keep.r (Keep.r (Keep.r (Keep.r (Keep.r (Keep.r (Keep.r (Keep.r (Keep.r Keep.nil)))))))))))))))))))))))))))))))))))))), ?_⟩
                                     refine DT.nil [_, _, _, _, _, _] rfl ?_
                                     refine WO.no rfl rfl (WO.p rfl rfl (WO.p rfl rfl (WO.no rfl rfl (WO.p rfl rfl (WO.p rfl rfl ?_)))))
                                     refine WO.nil ?_
                                     refine W.ret ?_
                                     exact fin.ret (Res.one rfl (RV.tmp rfl)) rfl))
                           · first
                             | (exfalso; omega)
                             | (refine' DT.r rfl rfl rfl ?hq ?_
                                case hq =>
                                  refine WO.no rfl rfl ?_
                                  exact WO.nil ⟨rfl, rfl⟩
                                refine DT.c [_, _, _, _, _] rfl rfl rfl rfl ?_
                                refine WO.no rfl rfl ?_
                                refine WO.nil ⟨_, [], rfl, rfl, (Keep.r (Keep.r (Keep.r (Keep.r (Keep.r (Keep.r (Keep.r (Keep.r (Keep.r (Keep.r (Keep.r (Keep.r (Keep.r (Keep.r (Keep.r (Keep.r (Keep.r (Keep.r (Keep.r (Keep.r Keep.nil)))))))))))))))))))), ?_⟩
                                refine' DT.f [_, _, _, _, _] rfl rfl rfl rfl ?hq ?_
                                case hq =>
                                  refine WO.no rfl rfl ?_
                                  exact WO.nil ⟨rfl, rfl⟩
                                refine' DT.r rfl rfl rfl ?hq ?_
                                case hq =>
                                  refine WO.p rfl rfl ?_
                                  exact WO.nil ⟨rfl, rfl⟩
                                refine' DT.r rfl rfl rfl ?hq ?_
                                case hq =>
                                  refine WO.p rfl rfl ?_
                                  exact WO.nil ⟨rfl, rfl⟩
                                refine' DT.r rfl rfl rfl ?hq ?_
                                case hq =>
                                  refine WO.no rfl rfl ?_
                                  exact WO.nil ⟨rfl, rfl⟩
                                refine' DT.r rfl rfl rfl ?hq ?_
                                case hq =>
                                  refine WO.no rfl rfl ?_
                                  exact WO.nil ⟨rfl, rfl⟩
                                refine' DT.r rfl rfl rfl ?hq ?_
                                case hq =>
                                  refine WO.p rfl rfl ?_
                                  exact WO.nil ⟨rfl, rfl⟩
                                refine' DT.r rfl rfl rfl ?hq ?_
                                case hq =>
                                  refine WO.p rfl rfl ?_
                                  exact WO.nil ⟨rfl, rfl⟩
                                refine' DT.b rfl rfl rfl ?hq ?_
                                case hq =>
                                  refine WO.no rfl rfl ?_
                                  exact WO.nil ⟨rfl, rfl⟩
                                refine' DT.b rfl rfl rfl ?hq ?_
                                case hq =>
                                  refine WO.no rfl rfl ?_
                                  exact WO.nil ⟨rfl, rfl⟩
                                refine' DT.r rfl rfl rfl ?hq ?_
                                case hq =>
                                  refine WO.no rfl rfl ?_
                                  exact WO.nil ⟨rfl, rfl⟩
                                refine' DT.r rfl rfl rfl ?hq ?_
                                case hq =>
                                  refine WO.p rfl rfl ?_
                                  exact WO.nil ⟨rfl, rfl⟩
                                refine' DT.r rfl rfl rfl ?hq ?_
                                case hq =>
                                  refine WO.p rfl rfl ?_
                                  exact WO.nil ⟨rfl, rfl⟩
                                refine' DT.r rfl rfl rfl ?hq ?_
                                case hq =>
                                  refine WO.no rfl rfl ?_
                                  exact WO.nil ⟨rfl, rfl⟩
                                refine' DT.r rfl rfl rfl ?hq ?_
                                case hq =>
                                  refine WO.no rfl rfl ?_
                                  exact WO.nil ⟨rfl, rfl⟩
                                refine' DT.r rfl rfl rfl ?hq ?_
                                case hq =>
                                  refine WO.p rfl rfl ?_
                                  exact WO.nil ⟨rfl, rfl⟩
                                refine' DT.r rfl rfl rfl ?hq ?_
                                case hq =>
                                  refine WO.p rfl rfl ?_
                                  exact WO.nil ⟨rfl, rfl⟩
                                refine' DT.r rfl rfl rfl ?hq ?_
                                case hq =>
                                  refine WO.no rfl rfl ?_
                                  exact WO.nil ⟨rfl, rfl⟩
                                refine DT.c [_, _, _, _, _] rfl rfl rfl rfl ?_
                                refine WO.no rfl rfl ?_
                                refine WO.nil ⟨_, [], rfl, rfl, (Keep.r (Keep.r (Keep.r (Keep.r (Keep.r (Keep.r (Keep.r (Keep.r (Keep.b (Keep.b (Keep.r (Keep.r (Keep.r (Keep.r (Keep.r (Keep.r (Keep.f (Keep.c (Keep.r (Keep.r (Keep.r (Keep.r (Keep.r (Keep.r (Keep.r (Keep.r (Keep.r (Keep.r (Keep.r (Keep.r (Keep.r (Keep.r (Keep.r (Keep.r (Keep.r (Keep.r (Keep.r (Keep.r Keep.nil)))))))))))))))))))))))))))))))))))))), ?_⟩
                                refine DT.nil [_, _, _, _, _] rfl ?_
                                refine WO.no rfl rfl (WO.p rfl rfl (WO.p rfl rfl (WO.no rfl rfl (WO.p rfl rfl (WO.p rfl rfl ?_)))))
                                refine WO.nil ?_
                                refine W.ret ?_
                                exact fin.ret (Res.one rfl (RV.tmp rfl)) rfl))
                      · first
                        | (exfalso; omega)
                        | (refine' DT.r rfl rfl rfl ?hq ?_
                           case hq =>
                             refine WO.no rfl rfl ?_
                             exact WO.nil ⟨rfl, rfl⟩
                           refine' DT.r rfl rfl rfl ?hq ?_
                           case hq =>
                             refine WO.no rfl rfl ?_
                             exact WO.nil ⟨rfl, rfl⟩
                           refine' DT.r rfl rfl rfl ?hq ?_
                           case hq =>
                             refine WO.p rfl rfl ?_
                             exact WO.nil ⟨rfl, rfl⟩
                           refine' DT.r rfl rfl rfl ?hq ?_
                           case hq =>
                             refine WO.p rfl rfl ?_
                             exact WO.nil ⟨rfl, rfl⟩
                           refine' DT.r rfl rfl rfl ?hq ?_
                           case hq =>
                             refine WO.no rfl rfl ?_
                             exact WO.nil ⟨rfl, rfl⟩
                           refine DT.c [_, _, _, _, _] rfl rfl rfl rfl ?_
                           refine WO.no rfl rfl ?_
                           refine WO.nil ⟨_, [], rfl, rfl, (Keep.r (Keep.r (Keep.r (Keep.r (Keep.r (Keep.r (Keep.r (Keep.r (Keep.r (Keep.r (Keep.r (Keep.r (Keep.r (Keep.r (Keep.r (Keep.r (Keep.r (Keep.r (Keep.r (Keep.r Keep.nil)))))))))))))))))))), ?_⟩
                           refine' DT.f [_, _, _, _, _] rfl rfl rfl rfl ?hq ?_
                           case hq =>
                             refine WO.no rfl rfl ?_
                             exact WO.nil ⟨rfl, rfl⟩
                           refine' DT.r rfl rfl rfl ?hq ?_
                           case hq =>
                             refine WO.p rfl rfl ?_
                             exact WO.nil ⟨rfl, rfl⟩
                           refine' DT.r rfl rfl rfl ?hq ?_
                           case hq =>
                             refine WO.p rfl rfl ?_
                             exact WO.nil ⟨rfl, rfl⟩
                           refine' DT.r rfl rfl rfl ?hq ?_
                           case hq =>
                             refine WO.no rfl rfl ?_
                             exact WO.nil ⟨rfl, rfl⟩
                           refine' DT.r rfl rfl rfl ?hq ?_
                           case hq =>
                             refine WO.no rfl rfl ?_
                             exact WO.nil ⟨rfl, rfl⟩
                           refine' DT.r rfl rfl rfl ?hq ?_
                           case hq =>
                             refine WO.p rfl rfl ?_
                             exact WO.nil ⟨rfl, rfl⟩
                           refine' DT.r rfl rfl rfl ?hq ?_
                           case hq =>
                             refine WO.p rfl rfl ?_
                             exact WO.nil ⟨rfl, rfl⟩
                           refine' DT.b rfl rfl rfl ?hq ?_
                           case hq =>
                             refine WO.no rfl rfl ?_
                             exact WO.nil ⟨rfl, rfl⟩
                           refine' DT.b rfl rfl rfl ?hq ?_
                           case hq =>
                             refine WO.no rfl rfl ?_
                             exact WO.nil ⟨rfl, rfl⟩
                           refine' DT.r rfl rfl rfl ?hq ?_
                           case hq =>
                             refine WO.no rfl rfl ?_
                             exact WO.nil ⟨rfl, rfl⟩
                           refine' DT.r rfl rfl rfl ?hq ?_
                           case hq =>
                             refine WO.p rfl rfl ?_
                             exact WO.nil ⟨rfl, rfl⟩
                           refine' DT.r rfl rfl rfl ?hq ?_
                           case hq =>
                             refine WO.p rfl rfl ?_
                             exact WO.nil ⟨rfl, rfl⟩
                           refine' DT.r rfl rfl rfl ?hq ?_
                           case hq =>
                             refine WO.no rfl rfl ?_
                             exact WO.nil ⟨rfl, rfl⟩
                           refine' DT.r rfl rfl rfl ?hq ?_
                           case hq =>
                             refine WO.no rfl rfl ?_
                             exact WO.nil ⟨rfl, rfl⟩
                           refine' DT.r rfl rfl rfl ?hq ?_
                           case hq =>
                             refine WO.p rfl rfl ?_
                             exact WO.nil ⟨rfl, rfl⟩
                           refine' DT.r rfl rfl rfl ?hq ?_
                           case hq =>
                             refine WO.p rfl rfl ?_
                             exact WO.nil ⟨rfl, rfl⟩
                           refine' DT.r rfl rfl rfl ?hq ?_
                           case hq =>
                             refine WO.no rfl rfl ?_
                             exact WO.nil ⟨rfl, rfl⟩
                           refine DT.c [_, _, _, _, _] rfl rfl rfl rfl ?_
                           refine WO.no rfl rfl ?_
                           refine WO.nil ⟨_, [], rfl, rfl, (Keep.r (Keep.r (Keep.r (Keep.r (Keep.r (Keep.r (Keep.r (Keep.r (Keep.b (Keep.b (Keep.r (Keep.r (Keep.r (Keep.r (Keep.r (Keep.r (Keep.f (Keep.c (Keep.r (Keep.r (Keep.r (Keep.r (Keep.r (Keep.r (Keep.r (Keep.r (Keep.r (Keep.r (Keep.r (Keep.r (Keep.r (Keep.r (Keep.r (Keep.r (Keep.r (Keep.r (Keep.r (Keep.r Keep.nil)))))))))))))))))))))))))))))))))))))), ?_⟩
                           refine DT.nil [_, _, _, _, _] rfl ?_
                           refine WO.no rfl rfl (WO.p rfl rfl (WO.p rfl rfl (WO.no rfl rfl (WO.p rfl rfl (WO.p rfl rfl ?_)))))
                           refine WO.nil ?_
                           refine W.ret ?_
                           exact fin.ret (Res.one rfl (RV.tmp rfl)) rfl))
                 · first
                   | (exfalso; omega)
                   | (refine' DT.r rfl rfl rfl ?hq ?_
                      case hq =>
                        refine WO.no rfl rfl ?_
                        exact WO.nil ⟨rfl, rfl⟩
                      refine' DT.r rfl rfl rfl ?hq ?_
                      case hq =>
                        refine WO.no rfl rfl ?_
                        exact WO.nil ⟨rfl, rfl⟩
                      refine' DT.r rfl rfl rfl ?hq ?_
                      case hq =>
                        refine WO.p rfl rfl ?_
                        exact WO.nil ⟨rfl, rfl⟩
                      refine' DT.r rfl rfl rfl ?hq ?_
                      case hq =>
                        refine WO.p rfl rfl ?_
                        exact WO.nil ⟨rfl, rfl⟩
                      refine' DT.r rfl rfl rfl ?hq ?_
                      case hq =>
                        refine WO.no rfl rfl ?_
                        exact WO.nil ⟨rfl, rfl⟩
                      refine' DT.r rfl rfl rfl ?hq ?_
                      case hq =>
                        refine WO.no rfl rfl ?_
                        exact WO.nil ⟨rfl, rfl⟩
                      refine' DT.r rfl rfl rfl ?hq ?_
                      case hq =>
                        refine WO.p rfl rfl ?_
                        exact WO.nil ⟨rfl, rfl⟩
                      refine' DT.r rfl rfl rfl ?hq ?_
                      case hq =>
                        refine WO.p rfl rfl ?_
                        exact WO.nil ⟨rfl, rfl⟩
                      refine' DT.r rfl rfl rfl ?hq ?_
                      case hq =>
                        refine WO.no rfl rfl ?_
                        exact WO.nil ⟨rfl, rfl⟩
                      refine DT.c [_, _, _, _, _] rfl rfl rfl rfl ?_
                      refine WO.no rfl rfl ?_
                      refine WO.nil ⟨_, [], rfl, rfl, (Keep.r (Keep.r (Keep.r (Keep.r (Keep.r (Keep.r (Keep.r (Keep.r (Keep.r (Keep.r (Keep.r (Keep.r (Keep.r (Keep.r (Keep.r (Keep.r (Keep.r (Keep.r (Keep.r (Keep.r Keep.nil)))))))))))))))))))), ?_⟩
                      refine' DT.f [_, _, _, _, _] rfl rfl rfl rfl ?hq ?_
                      case hq =>
                        refine WO.no rfl rfl ?_
                        exact WO.nil ⟨rfl, rfl⟩
                      refine' DT.r rfl rfl rfl ?hq ?_
                      case hq =>
                        refine WO.p rfl rfl ?_
                        exact WO.nil ⟨rfl, rfl⟩
                      refine' DT.r rfl rfl rfl ?hq ?_
                      case hq =>
                        refine WO.p rfl rfl ?_
                        exact WO.nil ⟨rfl, rfl⟩
                      refine' DT.r rfl rfl rfl ?hq ?_
                      case hq =>
                        refine WO.no rfl rfl ?_
                        exact WO.nil ⟨rfl, rfl⟩
                      refine' DT.r rfl rfl rfl ?hq ?_
                      case hq =>
                        refine WO.no rfl rfl ?_
                        exact WO.nil ⟨rfl, rfl⟩
                      refine' DT.r rfl rfl rfl ?hq ?_
                      case hq =>
                        refine WO.p rfl rfl ?_
                        exact WO.nil ⟨rfl, rfl⟩
                      refine' DT.r rfl rfl rfl ?hq ?_
                      case hq =>
                        refine WO.p rfl rfl ?_
                        exact WO.nil ⟨rfl, rfl⟩
                      refine' DT.b rfl rfl rfl ?hq ?_
                      case hq =>
                        refine WO.no rfl rfl ?_
                        exact WO.nil ⟨rfl, rfl⟩
                      refine' DT.b rfl rfl rfl ?hq ?_
                      case hq =>
                        refine WO.no rfl rfl ?_
                        exact WO.nil ⟨rfl, rfl⟩
                      refine' DT.r rfl rfl rfl ?hq ?_
                      case hq =>
                        refine WO.no rfl rfl ?_
                        exact WO.nil ⟨rfl, rfl⟩
                      refine' DT.r rfl rfl rfl ?hq ?_
                      case hq =>
                        refine WO.p rfl rfl ?_
                        exact WO.nil ⟨rfl, rfl⟩
                      refine' DT.r rfl rfl rfl ?hq ?_
                      case hq =>
                        refine WO.p rfl rfl ?_
                        exact WO.nil ⟨rfl, rfl⟩
                      refine' DT.r rfl rfl rfl ?hq ?_
                      case hq =>
                        refine WO.no rfl rfl ?_
                        exact WO.nil ⟨rfl, rfl⟩
                      refine' DT.r rfl rfl rfl ?hq ?_
                      case hq =>
                        refine WO.no rfl rfl ?_
                        exact WO.nil ⟨rfl, rfl⟩
                      refine' DT.r rfl rfl rfl ?hq ?_
                      case hq =>
                        refine WO.p rfl rfl ?_
                        exact WO.nil ⟨rfl, rfl⟩
                      refine' DT.r rfl rfl rfl ?hq ?_
                      case hq =>
                        refine WO.p rfl rfl ?_
                        exact WO.nil ⟨rfl, rfl⟩
                      refine' DT.r rfl rfl rfl ?hq ?_
                      case hq =>
                        refine WO.no rfl rfl ?_
                        exact WO.nil ⟨rfl, rfl⟩
                      refine DT.c [_, _, _, _, _] rfl rfl rfl rfl ?_
                      refine WO.no rfl rfl ?_
                      refine WO.nil ⟨_, [], rfl, rfl, (Keep.r (Keep.r (Keep.r (Keep.r (Keep.r (Keep.r (Keep.r (Keep.r (Keep.b (Keep.b (Keep.r (Keep.r (Keep.r (Keep.r (Keep.r (Keep.r (Keep.f (Keep.c (Keep.r (Keep.r (Keep.r (Keep.r (Keep.r (Keep.r (Keep.r (Keep.r (Keep.r (Keep.r (Keep.r (Keep.r (Keep.r (Keep.r (Keep.r (Keep.r (Keep.r (Keep.r (Keep.r (Keep.r Keep.nil)))))))))))))))))))))))))))))))))))))), ?_⟩
                      refine DT.nil [_, _, _, _, _] rfl ?_
                      refine WO.no rfl rfl (WO.p rfl rfl (WO.p rfl rfl (WO.no rfl rfl (WO.p rfl rfl (WO.p rfl rfl ?_)))))
                      refine WO.nil ?_
                      refine W.ret ?_
                      exact fin.ret (Res.one rfl (RV.tmp rfl)) rfl))
            · first
              | (exfalso; omega)
              | (refine' DT.r rfl rfl rfl ?hq ?_
                 case hq =>
                   refine WO.no rfl rfl ?_
                   exact WO.nil ⟨rfl, rfl⟩
                 refine' DT.r rfl rfl rfl ?hq ?_
                 case hq =>
                   refine WO.no rfl rfl ?_
                   exact WO.nil ⟨rfl, rfl⟩
                 refine' DT.r rfl rfl rfl ?hq ?_
                 case hq =>
                   refine WO.p rfl rfl ?_
                   exact WO.nil ⟨rfl, rfl⟩
                 refine' DT.r rfl rfl rfl ?hq ?_
                 case hq =>
                   refine WO.p rfl rfl ?_
                   exact WO.nil ⟨rfl, rfl⟩
                 refine' DT.r rfl rfl rfl ?hq ?_
                 case hq =>
                   refine WO.no rfl rfl ?_
                   exact WO.nil ⟨rfl, rfl⟩
                 refine' DT.r rfl rfl rfl ?hq ?_
                 case hq =>
                   refine WO.no rfl rfl ?_
                   exact WO.nil ⟨rfl, rfl⟩
                 refine' DT.r rfl rfl rfl ?hq ?_
                 case hq =>
                   refine WO.p rfl rfl ?_
                   exact WO.nil ⟨rfl, rfl⟩
                 refine' DT.r rfl rfl rfl ?hq ?_
                 case hq =>
                   refine WO.p rfl rfl ?_
                   exact WO.nil ⟨rfl, rfl⟩
                 refine' DT.r rfl rfl rfl ?hq ?_
                 case hq =>
                   refine WO.no rfl rfl ?_
                   exact WO.nil ⟨rfl, rfl⟩
                 refine' DT.r rfl rfl rfl ?hq ?_
                 case hq =>
                   refine WO.no rfl rfl ?_
                   exact WO.nil ⟨rfl, rfl⟩
                 refine' DT.r rfl rfl rfl ?hq ?_
                 case hq =>
                   refine WO.p rfl rfl ?_
                   exact WO.nil ⟨rfl, rfl⟩
                 refine' DT.r rfl rfl rfl ?hq ?_
                 case hq =>
                   refine WO.p rfl rfl ?_
                   exact WO.nil ⟨rfl, rfl⟩
                 refine' DT.r rfl rfl rfl ?hq ?_
                 case hq =>
                   refine WO.no rfl rfl ?_
                   exact WO.nil ⟨rfl, rfl⟩
                 refine DT.c [_, _, _, _, _] rfl rfl rfl rfl ?_
                 refine WO.no rfl rfl ?_
                 refine WO.nil ⟨_, [], rfl, rfl, (Keep.r (Keep.r (Keep.r (Keep.r (Keep.r (Keep.r (Keep.r (Keep.r (Keep.r (Keep.r (Keep.r (Keep.r (Keep.r (Keep.r (Keep.r (Keep.r (Keep.r (Keep.r (Keep.r (Keep.r Keep.nil)))))))))))))))))))), ?_⟩
                 refine' DT.f [_, _, _, _, _] rfl rfl rfl rfl ?hq ?_
                 case hq =>
                   refine WO.no rfl rfl ?_
                   exact WO.nil ⟨rfl, rfl⟩
                 refine' DT.r rfl rfl rfl ?hq ?_
                 case hq =>
                   refine WO.p rfl rfl ?_
                   exact WO.nil ⟨rfl, rfl⟩
                 refine' DT.r rfl rfl rfl ?hq ?_
                 case hq =>
                   refine WO.p rfl rfl ?_
                   exact WO.nil ⟨rfl, rfl⟩
                 refine' DT.r rfl rfl rfl ?hq ?_
                 case hq =>
                   refine WO.no rfl rfl ?_
                   exact WO.nil ⟨rfl, rfl⟩
                 refine' DT.r rfl rfl rfl ?hq ?_
                 case hq =>
                   refine WO.no rfl rfl ?_
                   exact WO.nil ⟨rfl, rfl⟩
                 refine' DT.r rfl rfl rfl ?hq ?_
                 case hq =>
                   refine WO.p rfl rfl ?_
                   exact WO.nil ⟨rfl, rfl⟩
                 refine' DT.r rfl rfl rfl ?hq ?_
                 case hq =>
                   refine WO.p rfl rfl ?_
                   exact WO.nil ⟨rfl, rfl⟩
                 refine' DT.b rfl rfl rfl ?hq ?_
                 case hq =>
                   refine WO.no rfl rfl ?_
                   exact WO.nil ⟨rfl, rfl⟩
                 refine' DT.b rfl rfl rfl ?hq ?_
                 case hq =>
                   refine WO.no rfl rfl ?_
                   exact WO.nil ⟨rfl, rfl⟩
                 refine' DT.r rfl rfl rfl ?hq ?_
                 case hq =>
                   refine WO.no rfl rfl ?_
                   exact WO.nil ⟨rfl, rfl⟩
                 refine' DT.r rfl rfl rfl ?hq ?_
                 case hq =>
                   refine WO.p rfl rfl ?_
                   exact WO.nil ⟨rfl, rfl⟩
                 refine' DT.r rfl rfl rfl ?hq ?_
                 case hq =>
                   refine WO.p rfl rfl ?_
                   exact WO.nil ⟨rfl, rfl⟩
                 refine' DT.r rfl rfl rfl ?hq ?_
                 case hq =>
                   refine WO.no rfl rfl ?_
                   exact WO.nil ⟨rfl, rfl⟩
                 refine' DT.r rfl rfl rfl ?hq ?_
                 case hq =>
                   refine WO.no rfl rfl ?_
                   exact WO.nil ⟨rfl, rfl⟩
                 refine' DT.r rfl rfl rfl ?hq ?_
                 case hq =>
                   refine WO.p rfl rfl ?_
                   exact WO.nil ⟨rfl, rfl⟩
                 refine' DT.r rfl rfl rfl ?hq ?_
                 case hq =>
                   refine WO.p rfl rfl ?_
                   exact WO.nil ⟨rfl, rfl⟩
                 refine' DT.r rfl rfl rfl ?hq ?_
                 case hq =>
                   refine WO.no rfl rfl ?_
                   exact WO.nil ⟨rfl, rfl⟩
                 refine DT.c [_, _, _, _, _] rfl rfl rfl rfl ?_
                 refine WO.no rfl rfl ?_
                 refine WO.nil ⟨_, [], rfl, rfl, (Keep.r (Keep.r (Keep.r (Keep.r (Keep.r (Keep.r (Keep.r (Keep.r (Keep.b (Keep.b (Keep.r (Keep.r (Keep.r (Keep.r (Keep.r (Keep.r (Keep.f (Keep.c (Keep.r (Keep.r (Keep.r (Keep.r (Keep.r (Keep.r (Keep.r (Keep.r (Keep.r (Keep.r (Keep.r (Keep.r (Keep.r (Keep.r (Keep.r (Keep.r (Keep.r (Keep.r (Keep.r (Keep.r Keep.nil)))))))))))))))))))))))))))))))))))))), ?_⟩
                 refine DT.nil [_, _, _, _, _] rfl ?_
                 refine WO.no rfl rfl (WO.p rfl rfl (WO.p rfl rfl (WO.no rfl rfl (WO.p rfl rfl (WO.p rfl rfl ?_)))))
                 refine WO.nil ?_
                 refine W.ret ?_
                 exact fin.ret (Res.one rfl (RV.tmp rfl)) rfl))
       · first
         | (exfalso; omega)
         | (refine' DT.r rfl rfl rfl ?hq ?_
            case hq =>
              refine WO.no rfl rfl ?_
              exact WO.nil ⟨rfl, rfl⟩
            refine' DT.r rfl rfl rfl ?hq ?_
            case hq =>
              refine WO.no rfl rfl ?_
              exact WO.nil ⟨rfl, rfl⟩
            refine' DT.r rfl rfl rfl ?hq ?_
            case hq =>
              refine WO.p rfl rfl ?_
              exact WO.nil ⟨rfl, rfl⟩
            refine' DT.r rfl rfl rfl ?hq ?_
            case hq =>
              refine WO.p rfl rfl ?_
              exact WO.nil ⟨rfl, rfl⟩
            refine' DT.r rfl rfl rfl ?hq ?_
            case hq =>
              refine WO.no rfl rfl ?_
              exact WO.nil ⟨rfl, rfl⟩
            refine' DT.r rfl rfl rfl ?hq ?_
            case hq =>
              refine WO.no rfl rfl ?_
              exact WO.nil ⟨rfl, rfl⟩
            refine' DT.r rfl rfl rfl ?hq ?_
            case hq =>
              refine WO.p rfl rfl ?_
              exact WO.nil ⟨rfl, rfl⟩
            refine' DT.r rfl rfl rfl ?hq ?_
            case hq =>
              refine WO.p rfl rfl ?_
              exact WO.nil ⟨rfl, rfl⟩
            refine' DT.r rfl rfl rfl ?hq ?_
            case hq =>
              refine WO.no rfl rfl ?_
              exact WO.nil ⟨rfl, rfl⟩
            refine' DT.r rfl rfl rfl ?hq ?_
            case hq =>
              refine WO.no rfl rfl ?_
              exact WO.nil ⟨rfl, rfl⟩
            refine' DT.r rfl rfl rfl ?hq ?_
            case hq =>
              refine WO.p rfl rfl ?_
              exact WO.nil ⟨rfl, rfl⟩
            refine' DT.r rfl rfl rfl ?hq ?_
            case hq =>
              refine WO.p rfl rfl ?_
              exact WO.nil ⟨rfl, rfl⟩
            refine' DT.r rfl rfl rfl ?hq ?_
            case hq =>
              refine WO.no rfl rfl ?_
              exact WO.nil ⟨rfl, rfl⟩
            refine' DT.r rfl rfl rfl ?hq ?_
            case hq =>
              refine WO.no rfl rfl ?_
              exact WO.nil ⟨rfl, rfl⟩
            refine' DT.r rfl rfl rfl ?hq ?_
            case hq =>
              refine WO.p rfl rfl ?_
              exact WO.nil ⟨rfl, rfl⟩
            refine' DT.r rfl rfl rfl ?hq ?_
            case hq =>
              refine WO.p rfl rfl ?_
              exact WO.nil ⟨rfl, rfl⟩
            refine' DT.r rfl rfl rfl ?hq ?_
            case hq =>
              refine WO.no rfl rfl ?_
              exact WO.nil ⟨rfl, rfl⟩
            refine DT.c [_, _, _, _, _] rfl rfl rfl rfl ?_
            refine WO.no rfl rfl ?_
            refine WO.nil ⟨_, [], rfl, rfl, (Keep.r (Keep.r (Keep.r (Keep.r (Keep.r (Keep.r (Keep.r (Keep.r (Keep.r (Keep.r (Keep.r (Keep.r (Keep.r (Keep.r (Keep.r (Keep.r (Keep.r (Keep.r (Keep.r (Keep.r Keep.nil)))))))))))))))))))), ?_⟩
            refine' DT.f [_, _, _, _, _] rfl rfl rfl rfl ?hq ?_
            case hq =>
              refine WO.no rfl rfl ?_
              exact WO.nil ⟨rfl, rfl⟩
            refine' DT.r rfl rfl rfl ?hq ?_
            case hq =>
              refine WO.p rfl rfl ?_
              exact WO.nil ⟨rfl, rfl⟩
            refine' DT.r rfl rfl rfl ?hq ?_
            case hq =>
              refine WO.p rfl rfl ?_
              exact WO.nil ⟨rfl, rfl⟩
            refine' DT.r rfl rfl rfl ?hq ?_
            case hq =>
              refine WO.no rfl rfl ?_
              exact WO.nil ⟨rfl, rfl⟩
            refine' DT.r rfl rfl rfl ?hq ?_
            case hq =>
              refine WO.no rfl rfl ?_
              exact WO.nil ⟨rfl, rfl⟩
            refine' DT.r rfl rfl rfl ?hq ?_
            case hq =>
              refine WO.p rfl rfl ?_
              exact WO.nil ⟨rfl, rfl⟩
            refine' DT.r rfl rfl rfl ?hq ?_
            case hq =>
              refine WO.p rfl rfl ?_
              exact WO.nil ⟨rfl, rfl⟩
            refine' DT.b rfl rfl rfl ?hq ?_
            case hq =>
              refine WO.no rfl rfl ?_
              exact WO.nil ⟨rfl, rfl⟩
            refine' DT.b rfl rfl rfl ?hq ?_
            case hq =>
              refine WO.no rfl rfl ?_
              exact WO.nil ⟨rfl, rfl⟩
            refine' DT.r rfl rfl rfl ?hq ?_
            case hq =>
              refine WO.no rfl rfl ?_
              exact WO.nil ⟨rfl, rfl⟩
            refine' DT.r rfl rfl rfl ?hq ?_
            case hq =>
              refine WO.p rfl rfl ?_
              exact WO.nil ⟨rfl, rfl⟩
            refine' DT.r rfl rfl rfl ?hq ?_
            case hq =>
              refine WO.p rfl rfl ?_
              exact WO.nil ⟨rfl, rfl⟩
            refine' DT.r rfl rfl rfl ?hq ?_
            case hq =>
              refine WO.no rfl rfl ?_
              exact WO.nil ⟨rfl, rfl⟩
            refine' DT.r rfl rfl rfl ?hq ?_
            case hq =>
              refine WO.no rfl rfl ?_
              exact WO.nil ⟨rfl, rfl⟩
            refine' DT.r rfl rfl rfl ?hq ?_
            case hq =>
              refine WO.p rfl rfl ?_
              exact WO.nil ⟨rfl, rfl⟩
            refine' DT.r rfl rfl rfl ?hq ?_
            case hq =>
              refine WO.p rfl rfl ?_
              exact WO.nil ⟨rfl, rfl⟩
            refine' DT.r rfl rfl rfl ?hq ?_
            case hq =>
              refine WO.no rfl rfl ?_
              exact WO.nil ⟨rfl, rfl⟩
            refine DT.c [_, _, _, _, _] rfl rfl rfl rfl ?_
            refine WO.no rfl rfl ?_
            refine WO.nil ⟨_, [], rfl, rfl, (Keep.r (Keep.r (Keep.r (Keep.r (Keep.r (Keep.r (Keep.r (Keep.r (Keep.b (Keep.b (Keep.r (Keep.r (Keep.r (Keep.r (Keep.r (Keep.r (Keep.f (Keep.c (Keep.r (Keep.r (Keep.r (Keep.r (Keep.r (Keep.r (Keep.r (Keep.r (Keep.r (Keep.r (Keep.r (Keep.r (Keep.r (Keep.r (Keep.r (Keep.r (Keep.r (Keep.r (Keep.r (Keep.r Keep.nil)))))))))))))))))))))))))))))))))))))), ?_⟩
            refine DT.nil [_, _, _, _, _] rfl ?_
            refine WO.no rfl rfl (WO.p rfl rfl (WO.p rfl rfl (WO.no rfl rfl (WO.p rfl rfl (WO.p rfl rfl ?_)))))
            refine WO.nil ?_
            refine W.ret ?_
            exact fin.ret (Res.one rfl (RV.tmp rfl)) rfl))
end Go.Proofs.Ytkiaepcklbidgaa
