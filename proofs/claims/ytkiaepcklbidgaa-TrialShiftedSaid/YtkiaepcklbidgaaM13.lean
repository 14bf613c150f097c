/-
  What is proved here: the law TrialShifted, as a contract. Conditions: none.
-/
import Derived.Test.YtkiaepcklbidgaaM12
namespace Go.Proofs.Ytkiaepcklbidgaa
open Go Go.TH
attribute [local irreducible] W WO pt
set_option maxRecDepth 10000
set_option maxHeartbeats 8000000
/-- the runs of a trial, each one changed -/
def mapL (rs : List (Int × Int × Int)) (g : Nat → Int × Int × Int) : List (Int × Int × Int) := (List.range rs.length).map g
theorem mapL_len (rs : List (Int × Int × Int)) (g : Nat → Int × Int × Int) : (mapL rs g).length = rs.length := by unfold mapL; simp
theorem mapL_take {rs : List (Int × Int × Int)} {g : Nat → Int × Int × Int} {i : Nat} (h : i < rs.length) : (mapL rs g).take i ++ [g i] = (mapL rs g).take (i + 1) := rangeA_take r0 h
theorem mapL_all (rs : List (Int × Int × Int)) (g : Nat → Int × Int × Int) : (mapL rs g).take rs.length = mapL rs g := List.take_of_length_le (by rw [mapL_len]; omega)
theorem mapL_tm {rs : List (Int × Int × Int)} {g : Nat → Int × Int × Int} {i : Nat} (h : i < rs.length) : tm (mapL rs g) i = (g i).1 := by
  unfold tm mapL; rw [rangeA_getD r0 h]
def shR (rs : List (Int × Int × Int)) (d : Int) (i : Nat) : Int × Int × Int := (tm rs i + d, (rs.getD i r0).2.1, (rs.getD i r0).2.2)
def dbR (rs : List (Int × Int × Int)) (i : Nat) : Int × Int × Int := (2 * tm rs i, (rs.getD i r0).2.1, (rs.getD i r0).2.2)
def evR (rs : List (Int × Int × Int)) (F : Int) (i : Nat) : Int × Int × Int := ((i : Int) * F, (rs.getD i r0).2.1, (rs.getD i r0).2.2)
theorem sh_aff (rs : List (Int × Int × Int)) (d : Int) : Aff 1 d rs (mapL rs (shR rs d)) := ⟨mapL_len _ _, fun i hi => by rw [mapL_tm hi, Int.one_mul]; rfl, by omega⟩
theorem db_aff (rs : List (Int × Int × Int)) : Aff 2 0 rs (mapL rs (dbR rs)) := ⟨mapL_len _ _, fun i hi => by rw [mapL_tm hi, Int.add_zero]; rfl, by omega⟩
theorem RdF.cells3 {C : Cx Try.prog} {H : List HP} {o : Value} {rs : List (Int × Int × Int)} (h : RdF encR 3 C.B C.w0 o rs) {i : Nat} (h1 : i < rs.length) : Cells C H (elt o i 3) [.int .i64 (tm rs i), .int .i64 (rs.getD i r0).2.1, .int .i64 (rs.getD i r0).2.2] := RdF.cells h h1 r0
/-- two trials, as a slice -/
def encS (m : Int) (n : Nat) (q : Option Addr × Nat) : List Value := [.int .i64 m, .slice q.1 n q.2]
theorem encS_ok (m : Int) (n : Nat) : EncOk (encS m n) 2 := ⟨fun _ => rfl, fun x u hu => by simp [encS] at hu; rcases hu with rfl | rfl <;> rfl, by omega⟩
theorem two_cells {C : Cx Try.prog} {H : List HP} {v : Value} {m : Int} {n j : Nat} {a1 a2 : Option Addr} {c1 c2 : Nat} (s : Sub H [OwE (encS m n) 24 2 v [(a1, c1), (a2, c2)]]) (h : j < 2) : Cells C H (elt v j 2) [.int .i64 m, .slice ([(a1, c1), (a2, c2)].getD j (none, 0)).1 n ([(a1, c1), (a2, c2)].getD j (none, 0)).2] := by
  cases s with
  | cons p _ => exact OwE.cells (encS_ok m n) p h (none, 0)
theorem two_rd {C : Cx Try.prog} {H L : List HP} {w : World} {n j : Nat} {a1 a2 : Option Addr} {c1 c2 : Nat} {L1 L2 : List (Int × Int × Int)} (h : j < 2) (s : Sub H [OwE encR 66 3 (.slice a1 n c1) L1, OwE encR 66 3 (.slice a2 n c2) L2]) (hi : Inv C.w0 C.M (L ++ H) w) : RdF encR 3 w.heap.size w (.slice ([(a1, c1), (a2, c2)].getD j (none, 0)).1 n ([(a1, c1), (a2, c2)].getD j (none, 0)).2) ([L1, L2].getD j []) := by
  cases s with
  | cons p s2 =>
    cases s2 with
    | cons p2 _ =>
      obtain rfl | rfl : j = 0 ∨ j = 1 := by omega
      · exact RdF.of_ow (e := 66) encR_ok p hi
      · exact RdF.of_ow (e := 66) encR_ok (Pick.tail p2) (hi.pickL p)
theorem two_aff {rs : List (Int × Int × Int)} {d : Int} {j : Nat} (h : j < 2) : ∃ a b, Aff a b rs ([mapL rs (shR rs d), mapL rs (dbR rs)].getD j []) := by
  obtain rfl | rfl : j = 0 ∨ j = 1 := by omega
  · exact ⟨1, d, sh_aff rs d⟩
  · exact ⟨2, 0, db_aff rs⟩
attribute [local irreducible] mapL wL chkT canV
theorem law_TrialShifted (w : World) (m : Int) (o : Value) (rs : List (Int × Int × Int)) (d f : Int) (hR : RdF encR 3 w.heap.size w o rs) (hd : 0 ≤ d ∧ d ≤ 255) (hf : 0 ≤ f ∧ f ≤ 255) : Ret Try.prog 9 [.agg #[.int .i64 m, o], .int .u8 d, .int .u8 f].toArray w (.bool true) := by
  refine Ret.of mixed tyTab Try.func9 rfl rfl ?_
  replace hR : RdF encR 3 (fnCx mixed tyTab Try.f9.ntmps w).B (fnCx mixed tyTab Try.f9.ntmps w).w0 o rs := hR
  have ho := hR.sl.oc
  have hF1 := Int.tmod_lt_of_pos f (show (0 : Int) < 15 by omega)
  have hF2 := Int.tmod_nonneg 15 hf.1
  refine W.sreg ?_
  refine WO.boxA rfl rfl (fun b1 hb1 => ?_)
  refine WO.p rfl rfl ?_
  refine WO.nil ?_
  refine W.seq ?_
  refine W.sreg ?_
  refine WO.loadA rfl rfl (Cells.own Pick.head) rfl rfl ?_
  refine WO.callR rfl Try.call34 (fun L w hi => law_fine w m o rs (hR.later hi)) rfl ?_
  refine WO.p rfl rfl ?_
  refine WO.nil ?_
  refine W.cond_nbl rfl (fun c1 => ?_) (fun c1 => ?_)
  · first
    | (exfalso; omega)
    | (refine W.sreg ?_
       refine WO.callR rfl Try.call12 (fun L w hi => law_Works w) rfl ?_
       refine WO.p rfl rfl ?_
       refine WO.nil ?_
       refine W.ret ?_
       exact fin.ret (Res.one rfl (RV.tmp rfl)) rfl)
  · first
    | (exfalso; omega)
    | (refine W.skip ?_
       have hv : VT m rs := VT.of (by omega)
       have hn := hv.n
       have hto := hv.to
       refine W.sreg ?_
       refine WO.loadA rfl rfl (Cells.own Pick.head) rfl rfl ?_
       refine WO.call (Post := fun r Hq => ∃ x : Value, r = .tuple #[x, .int .i64 0] ∧ Hq = [OwE encI 2 1 x (wL m rs)]) rfl Try.call13 (fun L w hi => by have h := c_Weights w m o rs (hR.later hi); rw [hto, show wA m rs = wL m rs by unfold wA; rw [if_pos hto]] at h; exact h) rfl ?_
       rintro _ _ ⟨wv, rfl, rfl⟩
       refine WO.p rfl rfl (WO.p rfl rfl (WO.p rfl rfl (WO.p rfl rfl (WO.p rfl rfl ?_))))
       refine WO.nil ?_
       refine W.sreg ?_
       refine WO.loadA rfl rfl (Cells.own (Pick.tail (Pick.head))) rfl rfl ?_
       refine WO.callR (r := .tuple #[.int .i64 (canV m rs), .int .i64 0]) rfl Try.call15 (fun L w hi => by have h := c_Cancels w m o rs (hR.later hi); rw [hto] at h; exact h) rfl ?_
       refine WO.p rfl rfl (WO.p rfl rfl (WO.p rfl rfl (WO.p rfl rfl (WO.p rfl rfl ?_))))
       refine WO.nil ?_
       refine W.seq ?_
       refine W.sreg ?_
       refine WO.p rfl rfl (WO.p rfl rfl (WO.p rfl rfl ?_))
       refine WO.guard_bl rfl rfl (fun c2 => ?_) (fun c2 => ?_)
       · first
         | (exfalso; omega)
         | (refine WO.no rfl rfl (WO.no rfl rfl (WO.p rfl rfl ?_))
            refine WO.nil ?_
            refine W.cond_t rfl ?_
            refine W.sreg ?_
            refine WO.p rfl rfl ?_
            refine WO.nil ?_
            refine W.ret ?_
            exact fin.ret (Res.one rfl (RV.tmp rfl)) rfl)
       · first
         | (exfalso; omega)
         | (refine WO.pg rfl rfl rfl (WO.pg rfl rfl rfl (WO.p rfl rfl ?_))
            refine WO.nil ?_
            refine W.cond_bl rfl (fun c3 => ?_) (fun c3 => ?_)
            · first
              | (exfalso; omega)
              | (refine W.sreg ?_
                 refine WO.p rfl rfl ?_
                 refine WO.nil ?_
                 refine W.ret ?_
                 exact fin.ret (Res.one rfl (RV.tmp rfl)) rfl)
            · first
              | (exfalso; omega)
              | (refine W.skip ?_
                 refine W.seq ?_
                 refine W.drawD 9 [.r 0 [], .b 1 [], .r 2 [], .r 3 [], .b 4 [], .r 5 [], .a 6 11 (.cells #[.int .i64 0, .slice none 0 0] 24 (0, 0)), .a 7 12 (.cells #[.int .i64 0, .slice none 0 0] 24 (0, 0)), .s 8 []] [] (A0 := []) (Sub.refl _) (by kernel_rfl) ?_ ?_
                 · exact (ALok.r (ALok.b (ALok.r (ALok.r (ALok.b (ALok.r (ALok.cons rfl rfl rfl rfl rfl (ALok.cons rfl rfl rfl rfl rfl (ALok.s ALok.nil)))))))))
                 refine' DT.r rfl rfl rfl ?hq ?_
                 case hq =>
                   refine WO.field0 rfl rfl rfl ?_
                   exact WO.nil ⟨rfl, rfl⟩
                 refine' DT.b rfl rfl rfl ?hq ?_
                 case hq =>
                   refine WO.load rfl rfl (Cell.own (Pick.tail (Pick.head)) rfl) rfl ?_
                   exact WO.nil ⟨rfl, rfl⟩
                 refine' DT.r rfl rfl rfl ?hq ?_
                 case hq =>
                   refine' WO.build (cs := _) rfl rfl rfl ?hf rfl ?_
                   case hf => (conv => lhs; simp [-List.getD_eq_getElem?_getD, fillL, vcl, wrl, TTab.pl?.lget']) <;> rfl
                   exact WO.nil ⟨rfl, rfl⟩
                 refine' DT.r rfl rfl rfl ?hq ?_
                 case hq =>
                   refine WO.field0 rfl rfl rfl ?_
                   exact WO.nil ⟨rfl, rfl⟩
                 refine' DT.b rfl rfl rfl ?hq ?_
                 case hq =>
                   refine WO.load rfl rfl (Cell.own (Pick.tail (Pick.head)) rfl) rfl ?_
                   exact WO.nil ⟨rfl, rfl⟩
                 refine' DT.r rfl rfl rfl ?hq ?_
                 case hq =>
                   refine' WO.build (cs := _) rfl rfl rfl ?hf rfl ?_
                   case hf => (conv => lhs; simp [-List.getD_eq_getElem?_getD, fillL, vcl, wrl, TTab.pl?.lget']) <;> rfl
                   exact WO.nil ⟨rfl, rfl⟩
                 refine DT.a (fun b2 => ?_)
                 refine DT.a (fun b3 => ?_)
                 refine DT.s [_, _, _, _] rfl rfl rfl ?_
                 refine WO.storeA rfl rfl rfl rfl (Pick.tail (Pick.head)) rfl rfl ?_
                 refine WO.nil ⟨[_, _], rfl, rfl, (Keep.a (Keep.a (Keep.r (Keep.b (Keep.r (Keep.r (Keep.b (Keep.r Keep.nil)))))))), ?_⟩
                 refine DT.nil [_, _, _, _] rfl ?_
                 refine WO.storeA rfl rfl rfl rfl (Pick.tail (Pick.head)) rfl rfl ?_
                 refine WO.nil ?_
                 refine W.sreg ?_
                 refine' WO.build (cs := _) rfl rfl rfl ?hf rfl ?_
                 case hf => (conv => lhs; simp [-List.getD_eq_getElem?_getD, fillL, vcl, wrl, TTab.pl?.lget']) <;> rfl
                 refine' WO.build (cs := _) rfl rfl rfl ?hf rfl ?_
                 case hf => (conv => lhs; simp [-List.getD_eq_getElem?_getD, fillL, vcl, wrl, TTab.pl?.lget']) <;> rfl
                 refine WO.alloc rfl rfl rfl (fun b4 hb4 => ?_)
                 refine WO.alloc rfl rfl rfl (fun b5 hb5 => ?_)
                 refine WO.storeA rfl rfl rfl rfl (Pick.tail (Pick.head)) rfl rfl (WO.storeA rfl rfl rfl rfl (Pick.tail (Pick.head)) rfl rfl ?_)
                 refine WO.nil ?_
                 refine W.seq ?_
                 refine W.sreg ?_
                 refine WO.p rfl rfl ?_
                 refine WO.nil ?_
                 refine W.block ?_
                 refine W.chg (owNil (enc := encR) (e := 66) (sz := 3)) ?_
                 refine W.chg (owNil (enc := encR) (e := 66) (sz := 3)) ?_
                 refine W.chg (owNil (enc := encR) (e := 66) (sz := 3)) ?_
                 refine W.chg (owNil (enc := encR) (e := 66) (sz := 3)) ?_
                 refine W.loop5 (fun (i : Nat) (x1 : Value) (x2 : Value) (x3 : Value) (x4 : Value) => i ≤ rs.length)
                   (fun (i : Nat) (x1 : Value) (x2 : Value) (x3 : Value) (x4 : Value) => [(15, .int .i64 (i : Int)), (14, .pointer (some ⟨b5, 0, none⟩)), (13, .pointer (some ⟨b4, 0, none⟩)), (12, .pointer (some ⟨b3, 0, none⟩)), (11, .pointer (some ⟨b2, 0, none⟩)), (9, .int .i64 (canV m rs)), (7, wv), (3, .pointer (some ⟨b1, 0, none⟩)), (2, .int .u8 f), (1, .int .u8 d)])
                   (fun (i : Nat) (x1 : Value) (x2 : Value) (x3 : Value) (x4 : Value) => [pt b1 (.cells #[.int .i64 m, o] 24 (0, 0)), pt b2 (.cells #[.int .i64 m, x1] 24 (0, 0)), pt b3 (.cells #[.int .i64 m, x2] 24 (0, 0)), pt b4 (.cells #[.int .i64 0, x3] 24 (0, 0)), pt b5 (.cells #[.int .i64 2, x4] 24 (0, 0)), OwE encR 66 3 x1 ((mapL rs (shR rs d)).take i), OwE encR 66 3 x2 ((mapL rs (dbR rs)).take i), OwE encR 66 3 x3 ((mapL rs (evR rs (1 + f.tmod 15))).take i), OwE encR 66 3 x4 ((mapL rs (evR rs (1 + f.tmod 15))).take i), OwE encI 2 1 wv (wL m rs)])
                   (fun (i : Nat) (x1 : Value) (x2 : Value) (x3 : Value) (x4 : Value) => rs.length - i) 0 (.slice none 0 0) (.slice none 0 0) (.slice none 0 0) (.slice none 0 0)
                   (by omega) ⟨rfl, rfl, rfl, rfl, rfl, rfl, rfl, rfl, rfl, rfl, trivial⟩ (by repeat (first | exact Sub.nil | refine Sub.cons (by repeat (first | exact Pick.head | apply Pick.tail)) ?_)) ?_
                 rintro i x1 x2 x3 x4 hi0
                 refine W.seq ?_
                 refine W.sreg ?_
                 refine WO.p rfl rfl (WO.fieldL rfl rfl rfl (WO.load rfl rfl (Cell.own Pick.head rfl) rfl ?_))
                 refine' WO.len (n := _) rfl rfl ?hs rfl ?_
                 case hs => (first | exact hR.sl | exact isSl_lit (n := 2) (by omega) (fun _ => ⟨_, _, rfl⟩))
                 refine WO.p rfl rfl ?_
                 refine WO.nil ?_
                 refine W.cond_bl rfl (fun c4 => ?_) (fun c4 => ?_)
                 · first
                   | (exfalso; omega)
                   | (refine W.skip ?_
                      refine W.seq ?_
                      refine W.block ?_
                      have hru := hv.run (i := i) (by omega)
                      refine W.sreg ?_
                      refine WO.fieldL rfl rfl rfl (WO.load rfl rfl (Cell.own Pick.head rfl) rfl (WO.p rfl rfl ?_))
                      refine' WO.indexAddr (n := _) (i := _) rfl rfl rfl ?hs ?h1 rfl ?_
                      case hs => (first | exact hR.sl | exact isSl_lit (n := 2) (by omega) (fun _ => ⟨_, _, rfl⟩))
                      case h1 => (first | omega | (simp; omega))
                      refine' WO.loadA (vs := _) rfl rfl ?hc ?hl rfl ?_
                      case hc => (first | exact RdF.cells3 hR (i := i) (by omega))
                      case hl => rfl
                      refine WO.alloc rfl rfl rfl (fun b6 hb6 => ?_)
                      refine WO.storeA rfl rfl rfl rfl Pick.head rfl rfl ?_
                      refine WO.nil ?_
                      refine W.sreg ?_
                      refine WO.fieldL rfl rfl rfl (WO.load rfl rfl (Cell.own (Pick.tail (Pick.tail (Pick.head))) rfl) rfl (WO.field0 rfl rfl rfl (WO.load rfl rfl (Cell.own Pick.head rfl) rfl (WO.p rfl rfl (WO.conv64 rfl rfl rfl (by (first | (unfold in64; omega) | (unfold in64; omega))) rfl (WO.ar rfl rfl rfl (by (first | (unfold in64; omega) | (unfold in64; omega))) rfl (WO.fieldL rfl rfl rfl (WO.loadA rfl rfl (Cells.ownAt (n := 2) Pick.head rfl) rfl rfl ?_))))))))
                      refine' WO.build (cs := _) rfl rfl rfl ?hf rfl ?_
                      case hf => (conv => lhs; simp [-List.getD_eq_getElem?_getD, fillL, vcl, wrl, TTab.pl?.lget']) <;> rfl
                      refine' WO.buildSl (cs := _) rfl rfl rfl rfl ?hf rfl rfl ?hl rfl (fun v7 => ?_)
                      case hf => (conv => lhs; simp [-List.getD_eq_getElem?_getD, fillL, vcl, wrl, TTab.pl?.lget']) <;> rfl
                      case hl => rfl
                      refine' WO.appendE (enc := encR) (m := 1) (ys := [shR rs d i]) encR_ok rfl rfl rfl rfl rfl (by repeat (first | exact Pick.head | apply Pick.tail)) (isSl_lit (by omega) (fun _ => ⟨_, _, rfl⟩)) (by omega) rfl (OwC.cells .head) (by rw [List.length_take, mapL_len]; omega) (by rw [List.length_take, mapL_len]; omega) rfl (fun g c => ?_)
                      rw [mapL_take (g := shR rs d) (by omega)]
                      refine WO.fieldL rfl rfl rfl (WO.store1 rfl rfl rfl (by first | rfl | assumption) (Pick.tail (Pick.tail (Pick.tail (Pick.tail (Pick.head))))) rfl ?_)
                      refine WO.nil ?_
                      refine W.sreg ?_
                      refine WO.fieldL rfl rfl rfl (WO.load rfl rfl (Cell.own (Pick.tail (Pick.tail (Pick.tail (Pick.tail (Pick.tail (Pick.head)))))) rfl) rfl (WO.field0 rfl rfl rfl (WO.load rfl rfl (Cell.own (Pick.tail (Pick.tail (Pick.tail (Pick.head)))) rfl) rfl (WO.ar rfl rfl rfl (by (first | (unfold in64; omega) | (unfold in64; omega))) rfl (WO.fieldL rfl rfl rfl (WO.loadA rfl rfl (Cells.ownAt (n := 2) (Pick.tail (Pick.tail (Pick.tail (Pick.head)))) rfl) rfl rfl ?_))))))
                      refine' WO.build (cs := _) rfl rfl rfl ?hf rfl ?_
                      case hf => (conv => lhs; simp [-List.getD_eq_getElem?_getD, fillL, vcl, wrl, TTab.pl?.lget']) <;> rfl
                      refine' WO.buildSl (cs := _) rfl rfl rfl rfl ?hf rfl rfl ?hl rfl (fun v8 => ?_)
                      case hf => (conv => lhs; simp [-List.getD_eq_getElem?_getD, fillL, vcl, wrl, TTab.pl?.lget']) <;> rfl
                      case hl => rfl
                      refine' WO.appendE (enc := encR) (m := 1) (ys := [dbR rs i]) encR_ok rfl rfl rfl rfl rfl (by repeat (first | exact Pick.head | apply Pick.tail)) (isSl_lit (by omega) (fun _ => ⟨_, _, rfl⟩)) (by omega) rfl (OwC.cells .head) (by rw [List.length_take, mapL_len]; omega) (by rw [List.length_take, mapL_len]; omega) rfl (fun g c => ?_)
                      rw [mapL_take (g := dbR rs) (by omega)]
                      refine WO.fieldL rfl rfl rfl (WO.store1 rfl rfl rfl (by first | rfl | assumption) (Pick.tail (Pick.tail (Pick.tail (Pick.tail (Pick.tail (Pick.tail (Pick.tail (Pick.head)))))))) rfl ?_)
                      refine WO.nil ?_
                      have hmx : 0 ≤ (i : Int) * (1 + f.tmod 15) ∧ (i : Int) * (1 + f.tmod 15) ≤ 5 * 15 := ⟨Int.mul_nonneg (by omega) (by omega), Int.mul_le_mul (by omega) (by omega) (by omega) (by omega)⟩
                      refine W.sreg ?_
                      refine WO.p rfl rfl (WO.p rfl rfl (WO.conv64 rfl rfl rfl (by (first | (unfold in64; omega) | (unfold in64; omega))) rfl (WO.rem rfl rfl (by first | omega | assumption) rfl (WO.ar rfl rfl rfl (by (first | (unfold in64; omega) | (unfold in64; omega))) rfl (WO.ar rfl rfl rfl (by (first | (unfold in64; omega) | (unfold in64; omega))) rfl (WO.fieldL rfl rfl rfl (WO.loadA rfl rfl (Cells.ownAt (n := 2) (Pick.tail (Pick.tail (Pick.tail (Pick.tail (Pick.tail (Pick.tail (Pick.head))))))) rfl) rfl rfl ?_)))))))
                      refine' WO.build (cs := _) rfl rfl rfl ?hf rfl ?_
                      case hf => (conv => lhs; simp [-List.getD_eq_getElem?_getD, fillL, vcl, wrl, TTab.pl?.lget']) <;> rfl
                      refine WO.alloc rfl rfl rfl (fun b9 hb9 => ?_)
                      refine WO.storeA rfl rfl rfl rfl Pick.head rfl rfl ?_
                      refine WO.nil ?_
                      refine DB.W.drawB 11 [.r 0 [], .b 2 [], .r 5 [], .b 6 [], .b 7 []] [.f 1 [], .a 3 102 (fun b => OwC 66 3 (.slice (some ⟨b, 0, none⟩) 1 1) 1 [.int .i64 ((i : Int) * (1 + f.tmod 15)), .int .i64 (rs.getD i r0).2.1, .int .i64 (rs.getD i r0).2.2]) (fun b => .slice (some ⟨b, 0, none⟩) 1 1), .c 4 [], .r 10 [], .a 8 107 (fun b => OwC 66 3 (.slice (some ⟨b, 0, none⟩) 1 1) 1 [.int .i64 ((i : Int) * (1 + f.tmod 15)), .int .i64 (rs.getD i r0).2.1, .int .i64 (rs.getD i r0).2.2]) (fun b => .slice (some ⟨b, 0, none⟩) 1 1), .c 9 []] [] (A0 := [_, _, _]) (H0 := [_, _, _, _, _, _, _, _, _, _, _]) (.cons (Pick.tail (Pick.tail (Pick.tail (Pick.tail (Pick.tail (Pick.tail (Pick.tail (Pick.tail (Pick.tail .head))))))))) (.cons (Pick.tail (Pick.tail (Pick.tail (Pick.tail (Pick.tail (Pick.tail (Pick.tail (Pick.tail (Pick.tail (Pick.tail .head)))))))))) (.cons (Pick.tail (Pick.tail (Pick.tail (Pick.tail (Pick.tail (Pick.tail (Pick.tail (Pick.tail (Pick.tail (Pick.tail .head)))))))))) (.cons .head (.cons .head (.cons .head (.cons .head (.cons .head (.cons .head (.cons .head (.cons .head (.cons .head (.cons .head (.cons .head .nil)))))))))))))) (by kernel_rfl) ?_
                      refine' DB.QB.r rfl rfl rfl ?hq ?_
                      case hq =>
                        refine WO.fieldL rfl rfl rfl ?_
                        exact WO.nil ⟨rfl, rfl⟩
                      refine' DB.QB.b rfl rfl rfl ?hq ?_
                      case hq =>
                        refine WO.loadA rfl rfl (Cells.own Pick.head) rfl rfl ?_
                        exact WO.nil ⟨rfl, rfl⟩
                      refine' DB.QB.r rfl rfl rfl ?hq ?_
                      case hq =>
                        refine WO.fieldL rfl rfl rfl ?_
                        exact WO.nil ⟨rfl, rfl⟩
                      refine' DB.QB.b rfl rfl rfl ?hq ?_
                      case hq =>
                        refine WO.load rfl rfl (Cell.own (Pick.tail (Pick.tail (Pick.tail (Pick.tail (Pick.tail (Pick.tail (Pick.tail (Pick.tail (Pick.tail (Pick.head)))))))))) rfl) rfl ?_
                        exact WO.nil ⟨rfl, rfl⟩
                      refine' DB.QB.b rfl rfl rfl ?hq ?_
                      case hq =>
                        refine WO.loadA rfl rfl (Cells.own Pick.head) rfl rfl ?_
                        exact WO.nil ⟨rfl, rfl⟩
                      refine DB.QB.nil ?_ ?_
                      · refine (DB.ALok.r (DB.ALok.b (DB.ALok.r (DB.ALok.b (DB.ALok.b (DB.ALok.f (DB.ALok.n rfl rfl rfl ?_ (DB.ALok.c (DB.ALok.r (DB.ALok.n rfl rfl rfl ?_ (DB.ALok.c DB.ALok.nil)))))))))))
                        · skip
                          refine' WO.buildSl (cs := _) rfl rfl rfl rfl ?hf rfl rfl ?hl rfl (fun v10 => ?_)
                          case hf => (conv => lhs; simp [-List.getD_eq_getElem?_getD, fillL, vcl, wrl, TTab.pl?.lget']) <;> rfl
                          case hl => rfl
                          exact WO.nil ⟨_, rfl, rfl⟩
                        · skip
                          refine' WO.buildSl (cs := _) rfl rfl rfl rfl ?hf rfl rfl ?hl rfl (fun v11 => ?_)
                          case hf => (conv => lhs; simp [-List.getD_eq_getElem?_getD, fillL, vcl, wrl, TTab.pl?.lget']) <;> rfl
                          case hl => rfl
                          exact WO.nil ⟨_, rfl, rfl⟩
                      refine' DB.DT.f [_, _, _, _, _, _, _, _, _, _, _, _, _, _] rfl rfl rfl rfl ?hq ?_
                      case hq =>
                        refine WO.load rfl rfl (Cell.own Pick.head rfl) rfl ?_
                        exact WO.nil ⟨rfl, rfl⟩
                      refine DB.DT.a (fun v12 => ?_)
                      refine DB.DT.c [_, _, _, _, _, _, _, _, _, _, _, _, _, _, _] rfl rfl rfl rfl ?_
                      refine' WO.appendE (enc := encR) (m := 1) (ys := [evR rs (1 + f.tmod 15) i]) encR_ok rfl rfl rfl rfl rfl (by repeat (first | exact Pick.head | apply Pick.tail)) (isSl_lit (by omega) (fun _ => ⟨_, _, rfl⟩)) (by omega) rfl (OwC.cells .head) (by rw [List.length_take, mapL_len]; omega) (by rw [List.length_take, mapL_len]; omega) rfl (fun g c => ?_)
                      rw [mapL_take (g := evR rs (1 + f.tmod 15)) (by omega)]
                      refine WO.nil ⟨_, [_, _, _, _], rfl, rfl, (DB.Keep.a (DB.Keep.f (DB.Keep.b (DB.Keep.b (DB.Keep.r (DB.Keep.b (DB.Keep.r DB.Keep.nil))))))), ?_⟩
                      refine' DB.DT.r rfl rfl rfl ?hq ?_
                      case hq =>
                        refine WO.fieldL rfl rfl rfl ?_
                        exact WO.nil ⟨rfl, rfl⟩
                      refine DB.DT.a (fun v13 => ?_)
                      refine DB.DT.c [_, _, _, _, _, _, _, _, _, _, _, _, _, _, _, _] rfl rfl rfl rfl ?_
                      refine' WO.appendE (enc := encR) (m := 1) (ys := [evR rs (1 + f.tmod 15) i]) encR_ok rfl rfl rfl rfl rfl (by repeat (first | exact Pick.head | apply Pick.tail)) (isSl_lit (by omega) (fun _ => ⟨_, _, rfl⟩)) (by omega) rfl (OwC.cells .head) (by rw [List.length_take, mapL_len]; omega) (by rw [List.length_take, mapL_len]; omega) rfl (fun g c => ?_)
                      rw [mapL_take (g := evR rs (1 + f.tmod 15)) (by omega)]
                      refine WO.nil ⟨_, [_, _, _, _, _], rfl, rfl, (DB.Keep.a (DB.Keep.r (DB.Keep.c (DB.Keep.a (DB.Keep.f (DB.Keep.b (DB.Keep.b (DB.Keep.r (DB.Keep.b (DB.Keep.r DB.Keep.nil)))))))))), ?_⟩
                      refine DB.DT.nil [_, _, _, _, _, _, _, _, _, _, _, _, _, _, _, _] rfl ?_
                      refine WO.store1 rfl rfl rfl (by first | rfl | assumption) (Pick.tail (Pick.tail (Pick.tail (Pick.tail (Pick.head))))) rfl (WO.fieldL rfl rfl rfl (WO.store1 rfl rfl rfl (by first | rfl | assumption) (Pick.tail (Pick.tail (Pick.tail (Pick.tail (Pick.tail (Pick.tail (Pick.tail (Pick.tail (Pick.tail (Pick.tail (Pick.tail (Pick.tail (Pick.tail (Pick.tail (Pick.head))))))))))))))) rfl ?_))
                      refine WO.nil ?_
                      refine W.region ?_
                      refine WO.p rfl rfl (WO.ar rfl rfl rfl (by (first | (unfold in64; omega) | (unfold in64; omega))) rfl (WO.p rfl rfl ?_))
                      refine WO.nil ?_
                      refine' ⟨i + 1, _, _, _, _, ?hp, ?hmu, ⟨rfl, rfl, rfl, rfl, rfl, rfl, rfl, rfl, rfl, rfl, trivial⟩, ?hS⟩
                      case hS => repeat (first | exact Sub.nil | refine Sub.cons (by repeat (first | exact Pick.head | apply Pick.tail)) ?_)
                      case hp => omega
                      case hmu => omega)
                 · first
                   | (exfalso; omega)
                   | (refine W.exit (blk_same ?_)
                      obtain rfl : i = rs.length := by omega
                      rw [mapL_all, mapL_all, mapL_all]
                      refine W.fact (OwE.form (enc := encR) (e := 66) (sz := 3) (v := x1) (by repeat (first | exact Pick.head | apply Pick.tail))) (fun hf1 => ?_)
                      refine W.fact (OwE.form (enc := encR) (e := 66) (sz := 3) (v := x2) (by repeat (first | exact Pick.head | apply Pick.tail))) (fun hf2 => ?_)
                      simp only [mapL_len] at hf1 hf2
                      obtain ⟨a1, c1, rfl⟩ := hf1
                      obtain ⟨a2, c2, rfl⟩ := hf2
                      refine W.sreg ?_
                      refine WO.loadA rfl rfl (Cells.own (Pick.tail (Pick.head))) rfl rfl (WO.loadA rfl rfl (Cells.own (Pick.tail (Pick.tail (Pick.head)))) rfl rfl ?_)
                      refine' WO.buildSl (cs := _) rfl rfl rfl rfl ?hf rfl rfl ?hl rfl (fun v14 => ?_)
                      case hf => (conv => lhs; simp [-List.getD_eq_getElem?_getD, fillL, vcl, wrl, TTab.pl?.lget']) <;> rfl
                      case hl => rfl
                      refine WO.p rfl rfl ?_
                      refine WO.nil ?_
                      refine W.seq ?_
                      refine W.sreg ?_
                      refine WO.p rfl rfl ?_
                      refine WO.nil ?_
                      refine W.block ?_
                      refine W.loop (fun (j : Nat) => j ≤ 2)
                        (fun (j : Nat) => [(19, .int .i64 (j : Int)), (18, .slice (some ⟨v14, 0, none⟩) 2 2), (14, .pointer (some ⟨b5, 0, none⟩)), (13, .pointer (some ⟨b4, 0, none⟩)), (9, .int .i64 (canV m rs)), (7, wv)])
                        (fun (j : Nat) => [pt b4 (.cells #[.int .i64 0, x3] 24 (0, 0)), pt b5 (.cells #[.int .i64 2, x4] 24 (0, 0)), OwE (encS m rs.length) 24 2 (.slice (some ⟨v14, 0, none⟩) 2 2) [(a1, c1), (a2, c2)], OwE encR 66 3 (.slice a1 rs.length c1) (mapL rs (shR rs d)), OwE encR 66 3 (.slice a2 rs.length c2) (mapL rs (dbR rs)), OwE encR 66 3 x3 (mapL rs (evR rs (1 + f.tmod 15))), OwE encR 66 3 x4 (mapL rs (evR rs (1 + f.tmod 15))), OwE encI 2 1 wv (wL m rs)])
                        (fun (j : Nat) => 2 - j) 0
                        (by omega) ⟨rfl, rfl, rfl, rfl, rfl, rfl, trivial⟩ (by repeat (first | exact Sub.nil | refine Sub.cons (by repeat (first | exact Pick.head | apply Pick.tail)) ?_)) ?_
                      rintro j hj0
                      refine W.seq ?_
                      refine W.sreg ?_
                      refine WO.p rfl rfl (WO.p rfl rfl ?_)
                      refine WO.nil ?_
                      refine W.cond_bl rfl (fun c5 => ?_) (fun c5 => ?_)
                      · first
                        | (exfalso; omega)
                        | (refine W.skip ?_
                           refine W.seq ?_
                           refine W.block ?_
                           refine W.seq ?_
                           refine W.sreg ?_
                           refine WO.p rfl rfl (WO.p rfl rfl ?_)
                           refine' WO.indexAddr (n := _) (i := _) rfl rfl rfl ?hs ?h1 rfl ?_
                           case hs => (first | exact hR.sl | exact isSl_lit (n := 2) (by omega) (fun _ => ⟨_, _, rfl⟩))
                           case h1 => (first | omega | (simp; omega))
                           refine' WO.loadA (vs := _) rfl rfl ?hc ?hl rfl ?_
                           case hc => (first | (refine two_cells (j := j) (m := m) (n := rs.length) (a1 := a1) (c1 := c1) (a2 := a2) (c2 := c2) (v := .slice (some ⟨v14, 0, none⟩) 2 2) ?_ (by omega); (repeat (first | exact Sub.nil | refine Sub.cons (by repeat (first | exact Pick.head | apply Pick.tail)) ?_))))
                           case hl => rfl
                           refine WO.callR rfl Try.call34 (fun L w hi => law_fine w m (.slice ([(a1, c1), (a2, c2)].getD j (none, 0)).1 rs.length ([(a1, c1), (a2, c2)].getD j (none, 0)).2) ([mapL rs (shR rs d), mapL rs (dbR rs)].getD j []) (two_rd (a1 := a1) (c1 := c1) (a2 := a2) (c2 := c2) (n := rs.length) (j := j) (L1 := mapL rs (shR rs d)) (L2 := mapL rs (dbR rs)) (by omega) (by repeat (first | exact Sub.nil | refine Sub.cons (by repeat (first | exact Pick.head | apply Pick.tail)) ?_)) hi)) rfl ?_
                           refine WO.p rfl rfl ?_
                           refine WO.nil ?_
                           refine W.cond_nbl rfl (fun c6 => ?_) (fun c6 => ?_)
                           · first
                             | (exfalso; omega)
                             | (refine W.exit (blk_same ?_)
                                refine W.region ?_
                                refine WO.p rfl rfl (WO.ar rfl rfl rfl (by (first | (unfold in64; omega) | (unfold in64; omega))) rfl (WO.p rfl rfl ?_))
                                refine WO.nil ?_
                                refine' ⟨j + 1, ?hp, ?hmu, ⟨rfl, rfl, rfl, rfl, rfl, rfl, trivial⟩, ?hS⟩
                                case hS => repeat (first | exact Sub.nil | refine Sub.cons (by repeat (first | exact Pick.head | apply Pick.tail)) ?_)
                                case hp => omega
                                case hmu => omega)
                           · first
                             | (exfalso; omega)
                             | (refine W.skip ?_
                                have hvj : VT m ([mapL rs (shR rs d), mapL rs (dbR rs)].getD j []) := VT.of (by omega)
                                obtain ⟨ka, kb, hA⟩ := two_aff (rs := rs) (d := d) (j := j) (by omega)
                                have hwj := wL_aff hA hv
                                have hcj := can_aff hA hv hvj
                                have htj := hvj.to
                                refine W.sreg ?_
                                refine WO.p rfl rfl (WO.p rfl rfl ?_)
                                refine' WO.indexAddr (n := _) (i := _) rfl rfl rfl ?hs ?h1 rfl ?_
                                case hs => (first | exact hR.sl | exact isSl_lit (n := 2) (by omega) (fun _ => ⟨_, _, rfl⟩))
                                case h1 => (first | omega | (simp; omega))
                                refine' WO.loadA (vs := _) rfl rfl ?hc ?hl rfl ?_
                                case hc => (first | (refine two_cells (j := j) (m := m) (n := rs.length) (a1 := a1) (c1 := c1) (a2 := a2) (c2 := c2) (v := .slice (some ⟨v14, 0, none⟩) 2 2) ?_ (by omega); (repeat (first | exact Sub.nil | refine Sub.cons (by repeat (first | exact Pick.head | apply Pick.tail)) ?_))))
                                case hl => rfl
                                refine WO.call (Post := fun r Hq => ∃ x : Value, r = .tuple #[x, .int .i64 0] ∧ Hq = [OwE encI 2 1 x (wL m rs)]) rfl Try.call13 (fun L w hi => by have h := c_Weights w m (.slice ([(a1, c1), (a2, c2)].getD j (none, 0)).1 rs.length ([(a1, c1), (a2, c2)].getD j (none, 0)).2) ([mapL rs (shR rs d), mapL rs (dbR rs)].getD j []) (two_rd (a1 := a1) (c1 := c1) (a2 := a2) (c2 := c2) (n := rs.length) (j := j) (L1 := mapL rs (shR rs d)) (L2 := mapL rs (dbR rs)) (by omega) (by repeat (first | exact Sub.nil | refine Sub.cons (by repeat (first | exact Pick.head | apply Pick.tail)) ?_)) hi); rw [htj, show wA m ([mapL rs (shR rs d), mapL rs (dbR rs)].getD j []) = wL m rs by unfold wA; rw [if_pos htj, hwj]] at h; exact h) rfl ?_
                                rintro _ _ ⟨wj, rfl, rfl⟩
                                refine WO.p rfl rfl (WO.p rfl rfl (WO.p rfl rfl (WO.p rfl rfl (WO.p rfl rfl ?_))))
                                refine WO.nil ?_
                                refine W.sreg ?_
                                refine WO.p rfl rfl (WO.p rfl rfl ?_)
                                refine' WO.indexAddr (n := _) (i := _) rfl rfl rfl ?hs ?h1 rfl ?_
                                case hs => (first | exact hR.sl | exact isSl_lit (n := 2) (by omega) (fun _ => ⟨_, _, rfl⟩))
                                case h1 => (first | omega | (simp; omega))
                                refine' WO.loadA (vs := _) rfl rfl ?hc ?hl rfl ?_
                                case hc => (first | (refine two_cells (j := j) (m := m) (n := rs.length) (a1 := a1) (c1 := c1) (a2 := a2) (c2 := c2) (v := .slice (some ⟨v14, 0, none⟩) 2 2) ?_ (by omega); (repeat (first | exact Sub.nil | refine Sub.cons (by repeat (first | exact Pick.head | apply Pick.tail)) ?_))))
                                case hl => rfl
                                refine WO.callR (r := .tuple #[.int .i64 (canV m rs), .int .i64 0]) rfl Try.call15 (fun L w hi => by have h := c_Cancels w m (.slice ([(a1, c1), (a2, c2)].getD j (none, 0)).1 rs.length ([(a1, c1), (a2, c2)].getD j (none, 0)).2) ([mapL rs (shR rs d), mapL rs (dbR rs)].getD j []) (two_rd (a1 := a1) (c1 := c1) (a2 := a2) (c2 := c2) (n := rs.length) (j := j) (L1 := mapL rs (shR rs d)) (L2 := mapL rs (dbR rs)) (by omega) (by repeat (first | exact Sub.nil | refine Sub.cons (by repeat (first | exact Pick.head | apply Pick.tail)) ?_)) hi); rw [htj, hcj] at h; exact h) rfl ?_
                                refine WO.p rfl rfl (WO.p rfl rfl (WO.p rfl rfl (WO.p rfl rfl (WO.p rfl rfl ?_))))
                                refine WO.nil ?_
                                refine W.sreg ?_
                                refine WO.p rfl rfl (WO.p rfl rfl (WO.p rfl rfl ?_))
                                refine WO.guard_bl rfl rfl (fun c7 => ?_) (fun c7 => ?_)
                                · first
                                  | (exfalso; omega)
                                  | (refine WO.no rfl rfl (WO.no rfl rfl (WO.p rfl rfl (WO.p rfl rfl (WO.no rfl rfl (WO.no rfl rfl (WO.no rfl rfl (WO.p rfl rfl (WO.p rfl rfl (WO.no rfl rfl (WO.no rfl rfl (WO.no rfl rfl ?_)))))))))))
                                     refine WO.no rfl rfl (WO.p rfl rfl ?_)
                                     refine WO.nil ?_
                                     refine W.cond_t rfl ?_
                                     refine W.sreg ?_
                                     refine WO.p rfl rfl ?_
                                     refine WO.nil ?_
                                     refine W.ret ?_
                                     exact fin.ret (Res.one rfl (RV.tmp rfl)) rfl)
                                · first
                                  | (exfalso; omega)
                                  | (refine WO.pg rfl rfl rfl (WO.pg rfl rfl rfl (WO.p rfl rfl (WO.p rfl rfl ?_)))
                                     refine WO.guard_bl rfl rfl (fun c8 => ?_) (fun c8 => ?_)
                                     · first
                                       | (exfalso; omega)
                                       | (refine WO.no rfl rfl (WO.no rfl rfl (WO.no rfl rfl (WO.p rfl rfl (WO.p rfl rfl (WO.no rfl rfl (WO.no rfl rfl (WO.no rfl rfl (WO.no rfl rfl (WO.p rfl rfl ?_)))))))))
                                          refine WO.nil ?_
                                          refine W.cond_t rfl ?_
                                          refine W.sreg ?_
                                          refine WO.p rfl rfl ?_
                                          refine WO.nil ?_
                                          refine W.ret ?_
                                          exact fin.ret (Res.one rfl (RV.tmp rfl)) rfl)
                                     · first
                                       | (exfalso; omega)
                                       | (refine WO.pg rfl rfl rfl (WO.pg rfl rfl rfl (WO.pg rfl rfl rfl (WO.p rfl rfl (WO.p rfl rfl ?_))))
                                          refine WO.guard_bl rfl rfl (fun c9 => ?_) (fun c9 => ?_)
                                          · first
                                            | (exfalso; omega)
                                            | (refine WO.no rfl rfl (WO.no rfl rfl (WO.no rfl rfl (WO.no rfl rfl (WO.p rfl rfl ?_))))
                                               refine WO.nil ?_
                                               refine W.cond_t rfl ?_
                                               refine W.sreg ?_
                                               refine WO.p rfl rfl ?_
                                               refine WO.nil ?_
                                               refine W.ret ?_
                                               exact fin.ret (Res.one rfl (RV.tmp rfl)) rfl)
                                          · first
                                            | (exfalso; omega)
                                            | (refine WO.pg rfl rfl rfl (WO.pg rfl rfl rfl (WO.go' rfl ?_))
                                               refine WO.callR (r := .bool true) rfl Try.call21 (fun L w hi => longs_t (law_longs w wj wv (wL m rs) (wL m rs) (RdF.of_ow (e := 2) encI_ok (by repeat (first | exact Pick.head | apply Pick.tail)) hi) (RdF.of_ow (e := 2) encI_ok (by repeat (first | exact Pick.head | apply Pick.tail)) hi))) rfl ?_
                                               refine WO.pg rfl rfl rfl (WO.p rfl rfl ?_)
                                               refine WO.nil ?_
                                               refine W.cond_f rfl ?_
                                               refine W.skip ?_
                                               refine W.region ?_
                                               refine WO.p rfl rfl (WO.ar rfl rfl rfl (by (first | (unfold in64; omega) | (unfold in64; omega))) rfl (WO.p rfl rfl ?_))
                                               refine WO.nil ?_
                                               refine' ⟨j + 1, ?hp, ?hmu, ⟨rfl, rfl, rfl, rfl, rfl, rfl, trivial⟩, ?hS⟩
                                               case hS => repeat (first | exact Sub.nil | refine Sub.cons (by repeat (first | exact Pick.head | apply Pick.tail)) ?_)
                                               case hp => omega
                                               case hmu => omega)))))
                      · first
                        | (exfalso; omega)
                        | (refine W.exit (blk_same ?_)
                           refine W.seq ?_
                           refine W.sreg ?_
                           refine WO.loadA rfl rfl (Cells.own Pick.head) rfl rfl ?_
                           refine WO.callR rfl Try.call34 (fun L w hi => law_fine w 0 x3 (mapL rs (evR rs (1 + f.tmod 15))) (RdF.of_ow (e := 66) encR_ok (by repeat (first | exact Pick.head | apply Pick.tail)) hi)) rfl ?_
                           refine WO.p rfl rfl ?_
                           refine WO.nil ?_
                           refine W.cond_nbl rfl (fun c10 => ?_) (fun c10 => ?_)
                           · first
                             | (exfalso; omega)
                             | (refine W.sreg ?_
                                refine WO.callR rfl Try.call12 (fun L w hi => law_Works w) rfl ?_
                                refine WO.p rfl rfl ?_
                                refine WO.nil ?_
                                refine W.ret ?_
                                exact fin.ret (Res.one rfl (RV.tmp rfl)) rfl)
                           · first
                             | (exfalso; omega)
                             | (refine W.skip ?_
                                have hvE : VT 0 (mapL rs (evR rs (1 + f.tmod 15))) := VT.of (by omega)
                                have hE2 := wL_even hvE (F := 1 + f.tmod 15) (by omega) (fun i hi => by rw [mapL_len] at hi; rw [mapL_tm hi]; rfl)
                                have ht0 := hvE.to
                                have ht2 : chkT 2 (mapL rs (evR rs (1 + f.tmod 15))) = 0 := VT.to ⟨hvE.n, by omega, hvE.ok⟩
                                refine W.sreg ?_
                                refine WO.loadA rfl rfl (Cells.own Pick.head) rfl rfl ?_
                                refine WO.call (Post := fun r Hq => ∃ x : Value, r = .tuple #[x, .int .i64 0] ∧ Hq = [OwE encI 2 1 x (wL 0 (mapL rs (evR rs (1 + f.tmod 15))))]) rfl Try.call13 (fun L w hi => by have h := c_Weights w 0 x3 (mapL rs (evR rs (1 + f.tmod 15))) (RdF.of_ow (e := 66) encR_ok (by repeat (first | exact Pick.head | apply Pick.tail)) hi); rw [ht0, show wA 0 (mapL rs (evR rs (1 + f.tmod 15))) = wL 0 (mapL rs (evR rs (1 + f.tmod 15))) by unfold wA; rw [if_pos ht0]] at h; exact h) rfl ?_
                                rintro _ _ ⟨w0v, rfl, rfl⟩
                                refine WO.p rfl rfl (WO.p rfl rfl (WO.p rfl rfl (WO.p rfl rfl (WO.p rfl rfl ?_))))
                                refine WO.nil ?_
                                refine W.sreg ?_
                                refine WO.loadA rfl rfl (Cells.own (Pick.tail (Pick.tail (Pick.head)))) rfl rfl ?_
                                refine WO.call (Post := fun r Hq => ∃ x : Value, r = .tuple #[x, .int .i64 0] ∧ Hq = [OwE encI 2 1 x (wL 0 (mapL rs (evR rs (1 + f.tmod 15))))]) rfl Try.call13 (fun L w hi => by have h := c_Weights w 2 x4 (mapL rs (evR rs (1 + f.tmod 15))) (RdF.of_ow (e := 66) encR_ok (by repeat (first | exact Pick.head | apply Pick.tail)) hi); rw [ht2, show wA 2 (mapL rs (evR rs (1 + f.tmod 15))) = wL 0 (mapL rs (evR rs (1 + f.tmod 15))) by unfold wA; rw [if_pos ht2, hE2]] at h; exact h) rfl ?_
                                rintro _ _ ⟨w2v, rfl, rfl⟩
                                refine WO.p rfl rfl (WO.p rfl rfl (WO.p rfl rfl (WO.p rfl rfl (WO.p rfl rfl ?_))))
                                refine WO.nil ?_
                                refine W.sreg ?_
                                refine WO.p rfl rfl (WO.p rfl rfl (WO.p rfl rfl ?_))
                                refine WO.guard_bl rfl rfl (fun c11 => ?_) (fun c11 => ?_)
                                · first
                                  | (exfalso; omega)
                                  | (refine WO.pg rfl rfl rfl (WO.pg rfl rfl rfl (WO.p rfl rfl (WO.p rfl rfl ?_)))
                                     refine WO.guard_bl rfl rfl (fun c12 => ?_) (fun c12 => ?_)
                                     · first
                                       | (exfalso; omega)
                                       | (refine WO.pg rfl rfl rfl (WO.pg rfl rfl rfl (WO.go' rfl ?_))
                                          refine WO.callR (r := .bool true) rfl Try.call21 (fun L w hi => longs_t (law_longs w w0v w2v (wL 0 (mapL rs (evR rs (1 + f.tmod 15)))) (wL 0 (mapL rs (evR rs (1 + f.tmod 15)))) (RdF.of_ow (e := 2) encI_ok (by repeat (first | exact Pick.head | apply Pick.tail)) hi) (RdF.of_ow (e := 2) encI_ok (by repeat (first | exact Pick.head | apply Pick.tail)) hi))) rfl ?_
                                          refine WO.p rfl rfl (WO.p rfl rfl (WO.go' rfl ?_))
                                          refine WO.callR rfl Try.call12 (fun L w hi => law_Works w) rfl ?_
                                          refine WO.p rfl rfl (WO.p rfl rfl ?_)
                                          refine WO.nil ?_
                                          refine W.ret ?_
                                          exact fin.ret (Res.one rfl (RV.tmp rfl)) rfl)
                                     · first
                                       | (exfalso; omega)
                                       | (refine WO.no rfl rfl (WO.no rfl rfl (WO.no rfl rfl (WO.p rfl rfl (WO.p rfl rfl (WO.no rfl rfl (WO.p rfl rfl (WO.p rfl rfl ?_)))))))
                                          refine WO.nil ?_
                                          refine W.ret ?_
                                          exact fin.ret (Res.one rfl (RV.tmp rfl)) rfl))
                                · first
                                  | (exfalso; omega)
                                  | (refine WO.no rfl rfl (WO.no rfl rfl (WO.p rfl rfl (WO.p rfl rfl (WO.no rfl rfl (WO.no rfl rfl (WO.no rfl rfl (WO.p rfl rfl (WO.p rfl rfl (WO.no rfl rfl (WO.p rfl rfl (WO.p rfl rfl ?_)))))))))))
                                     refine WO.nil ?_
                                     refine W.ret ?_
                                     exact fin.ret (Res.one rfl (RV.tmp rfl)) rfl)))))))
end Go.Proofs.Ytkiaepcklbidgaa
