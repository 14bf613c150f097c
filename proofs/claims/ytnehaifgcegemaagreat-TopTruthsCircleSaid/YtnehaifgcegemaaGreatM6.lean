/-
  What is proved here: the greatest bound that can be made, and the least value. Conditions: none; each contract states its own.
  What is proved here: the least value of two factors. Conditions: none; each contract states its own.
  What is proved here: sides that contradict each other, and the greatest bound of what they say (no program in sight). Conditions: none; each theorem states its own.
  What is proved here: where the middle of a smallest circle is, and what a bound says of a truth (no program in sight). Conditions: none; each theorem states its own.
  What is proved here: what an evaluator reckons for parts of values, lengths, numbers and tests is what the model's operations do. Conditions: none; each lemma states its own.
  What is proved here: bits that are taken away. Conditions: each rule states its own.
  What is proved here: what an evaluator reckons for operators and conversions is what the model's operations do. Conditions: none; each lemma states its own.
  What is proved here: what an evaluator reckons for tests, conversions, appending and copying is what the model's operations do. Conditions: none; each lemma states its own.
  What is proved here: what an evaluator reckons for signs, conversions, appending, copying and clearing is what the model's operations do. Conditions: none; each lemma states its own.
-/
import Derived.Test.YtnehaifgcegemaaGreatM5
import Derived.Test.YtnehaifgcegemaaGreatM3
import Derived.Test.YtnehaifgcegemaaGreatM4
set_option linter.unusedVariables false
set_option linter.unusedSimpArgs false
namespace Go.Proofs.YtnehaifgcegemaaGreat.Sp
open Go Go.TH
attribute [local irreducible] W WO pt
set_option maxRecDepth 10000
set_option maxHeartbeats 20000000
theorem mstL_1 {S : List Sd} {p q : Int} {g : List Int} (h : g.length = 1) (h2 : fit2 (atS S g 0) ⟨p, q, 0⟩ (siz ⟨p, q, 0⟩) (-(siz (atS S g 0)))) : mstL S p q g = [(tkS S g [siz ⟨p, q, 0⟩] g.length, siz (atS S g 0))] := by
 have e : mstG S p q g = some ([siz ⟨p, q, 0⟩], siz (atS S g 0)) := by unfold mstG; rw [if_pos h]; unfold mst1; rw [if_pos h2]
 unfold mstL; rw [e]
theorem mstL_1n {S : List Sd} {p q : Int} {g : List Int} (h : g.length = 1) (h2 : ¬ fit2 (atS S g 0) ⟨p, q, 0⟩ (siz ⟨p, q, 0⟩) (-(siz (atS S g 0)))) : mstL S p q g = [] := by
 have e : mstG S p q g = none := by unfold mstG; rw [if_pos h]; unfold mst1; rw [if_neg h2]
 unfold mstL; rw [e]
theorem mstL_2 {S : List Sd} {p q : Int} {g : List Int} {x y d : Int} (h : ¬ g.length = 1) (hc : (crs (atS S g 0) (atS S g 1) < 0 ∧ d = -(crs (atS S g 0) (atS S g 1)) ∧ x = -(crs ⟨p, q, 0⟩ (atS S g 1)) ∧ y = -(crs (atS S g 0) ⟨p, q, 0⟩)) ∨ (¬ crs (atS S g 0) (atS S g 1) < 0 ∧ d = crs (atS S g 0) (atS S g 1) ∧ x = crs ⟨p, q, 0⟩ (atS S g 1) ∧ y = crs (atS S g 0) ⟨p, q, 0⟩)) : mstL S p q g = if 0 < d ∧ 0 ≤ x ∧ 0 ≤ y then [(tkS S g [x, y] g.length, d)] else [] := by
 have e : mstG S p q g = if 0 < d ∧ 0 ≤ x ∧ 0 ≤ y then some ([x, y], d) else none := by
  unfold mstG; rw [if_neg h]; unfold mst2
  rcases hc with ⟨h1, rfl, rfl, rfl⟩ | ⟨h1, rfl, rfl, rfl⟩
  ·rw [if_pos h1]
  ·rw [if_neg h1]
 unfold mstL; rw [e]
 split
 ·rename_i c
  split at c
  ·rename_i c2; cases c; rw [if_pos c2]
  ·cases c
 ·rename_i c
  split at c
  ·cases c
  ·rename_i c2; rw [if_neg c2]
theorem c_most (w : World) (p : Addr) (rv sv : Value) (rl : List Rn) (hT : Tbl w.heap.size w p rv sv rl) (hok : OkRs rl) (hl : rl.length ≤ 12) (u v : Int) (hu : OkN u) (hv : OkN v) :
 RetE Tryz.prog 147 [.pointer (some p), .int .i64 u, .int .i64 v].toArray w (fun r => ∃ (q : Option Nat) (s : Sd) (t : Int), r = .tuple #[mdV (.map q) s t, .bool (bl (Bnd (sds rl) u v))] ∧ (Bnd (sds rl) u v → MostI (sds rl) u v (s, t))) := by
 refine RetE.of mixed tyTab Tryz.func147 rfl rfl ?_
 replace hT : Tbl (fnCx mixed tyTab Tryz.f147.ntmps w).B (fnCx mixed tyTab Tryz.f147.ntmps w).w0 p rv sv rl := hT
 have hsl := sds_len rl
 have hS := sds_ok hok
 have hw := want_ok hu hv
 have zw := siz_bd hw
 have hg2 := g2_len (S := sds rl) (by omega)
 refine W.sreg (WO.box1 rfl (by first | rfl | assumption) rfl (fun b1 hb1 => (WO.alloc rfl rfl rfl (fun b2 hb2 => (WO.p rfl rfl (WO.nil (W.sreg (WO.p rfl rfl (WO.p rfl rfl (WO.build rfl rfl rfl rfl rfl (WO.alloc rfl rfl rfl (fun b3 hb3 => (WO.storeA rfl rfl rfl rfl Pick.head rfl rfl (WO.nil (W.seq (W.sreg (WO.loadA rfl rfl (Cells.own Pick.head) rfl rfl (WO.build rfl rfl rfl rfl rfl (WO.eqT rfl rfl (eq124z u v) rfl (WO.nil ?_))))))))))))))))))))
 refine W.cond_bl rfl (fun c1 => ?_) (fun c1 => ?_)
 ·refine W.sreg (WO.makeMap rfl (fun mb => (WO.build rfl rfl rfl rfl rfl (WO.build rfl rfl rfl rfl rfl (WO.storeA rfl rfl rfl rfl (Pick.tail (Pick.tail (Pick.head))) rfl rfl (WO.p rfl rfl (WO.nil (W.ret ?_))))))))
  first
  |(have q := mb; exact fin.ret (Res.two rfl (RV.cell rfl rfl rfl (Cells.own (by repeat first | exact .head | apply Pick.tail))) (RV.tmp rfl)) ⟨some mb, sd0, 1, by rw [bl_t.2 (show Bnd (sds rl) u v from .inl ⟨by omega, by omega⟩)] <;> rfl, fun _ => ⟨.inl ⟨by omega, by omega, rfl⟩, fun y _ h0 => absurd ⟨by omega, by omega⟩ h0⟩⟩)
  |(have q := hy; exact fin.ret (Res.two rfl (RV.cell rfl rfl rfl (Cells.own (by repeat first | exact .head | apply Pick.tail))) (RV.tmp rfl)) ⟨some y.1, y.2.1, y.2.2, by rw [bl_t.2 (show Bnd (sds rl) u v from .inr (fun e => by rw [e] at hgx; have hz := congrArg List.length hgx; rw [List.length_map] at hz; exact absurd hz (by show ¬ (gxs.length = 0); omega)))] <;> rfl, fun _ => firstM_most (by omega) hgx hy⟩)
  |(have hz : mstA (sds rl) u v = [] := (by rw [← hgx]; exact List.map_eq_nil_iff.2 (List.eq_nil_of_length_eq_zero (by omega))); have hb : ¬ Bnd (sds rl) u v := fun q => q.elim (fun q => by omega) (fun q => q hz); exact fin.ret (Res.two rfl (RV.cell rfl rfl rfl (Cells.own (by repeat first | exact .head | apply Pick.tail))) (RV.tmp rfl)) ⟨none, sd0, 0, by rw [bl_f.2 hb] <;> rfl, fun q => absurd q hb⟩)
 ·refine W.skip (W.sreg (WO.alloc rfl rfl rfl (fun b4 hb4 => (WO.nil (W.seq (W.sreg (WO.load rfl rfl (Cell.own (Pick.tail (Pick.tail (Pick.tail (Pick.head)))) rfl) rfl (WO.call (Post := fun v Hq => ∃ b1 b2, v = .func (.func 239) #[] #[.pointer (some ⟨b1, 0, none⟩), .pointer (some ⟨b2, 0, none⟩)] ∧ Hq = [pt b2 (.cells #[.int .i64 2] 3 (0, 0)), pt b1 (.cells #[.pointer (some p)] 134 (0, 0))]) rfl Tryz.call155 (fun L w hi => c_groups w p 2) rfl ?_))))))))
  rintro _ _ ⟨b5, b6, rfl, rfl⟩
  refine WO.nil (W.block (W.chg (all_nil (b := b4) (by repeat first | exact .head | apply Pick.tail)) ?_))
  refine W.rangeFuncB (Jmp.ret) [pt b6 (.cells #[.int .i64 ((2 : Nat) : Int)] 3 (0, 0)), pt b5 (.cells #[.pointer (some p)] 134 (0, 0))] (fun t => [AllP b4 (msts (sds rl) u v t), pt b3 (.cells #[.int .i64 u, .int .i64 v, .int .i64 0] 124 (0, 0)), pt b2 (.cells #[.map none, .int .i64 0, .int .i64 0, .int .i64 0, .int .i64 0] 126 (0, 0)), pt b1 (.cells #[.pointer (some p)] 134 (0, 0))]) (g2S (sds rl)) (fun g1 v1_ => OwE encI 3 1 v1_ g1) ((g2S (sds rl)).length) rfl rfl rfl Tryz.call239 (by repeat (first | exact Sub.nil | refine Sub.cons (by repeat first | exact .head | apply Pick.tail) ?_)) ?_ ?_ ?_ ?_
  ·intro ll Hc hy w1 M1 hB1 hk1 hM1 hi1
   exact c_groups1 _ _ p rv sv rl hT (sds rl).length rfl 2 (by omega) (by omega) _ ll Hc hy b5 b6 w1 M1 hB1 hk1 hM1 hi1
  ·intro ll w1 M1 hB1 hM1 hk1 t g1 v1_ hx hle1
   have hlt := (List.getElem?_eq_some_iff.1 hx).1
   have hg12 := grp_ok (m := 2) (by omega) (List.mem_of_getElem? hx)
   obtain ⟨hgr, hg2⟩ := hg12
   have hgn := hgr.len
   replace hT := hT.agree hk1
   refine W.fact (OwE.sl (enc := encI) (e := 3) (sz := 1) (v := v1_) (xs := g1) (by repeat first | exact .head | apply Pick.tail)) (fun hgsl => (W.region (WO.p rfl rfl (WO.nil (W.block (W.seq ?_))))))
   have h0 := hgr.rng _ (getD_mem (show 0 < g1.length by omega) 0)
   have s0 : OkS 20 100000 (atS (sds rl) g1 0) := hS _ (getD_mem (show (g1.getD 0 0).toNat < (sds rl).length by omega) sd0)
   have z0 := siz_bd s0
   have u0 := s0.up (A' := 20) (B' := 1000000) (by omega) (by omega)
   have v0 := (OkS.by_ s0 (n := siz ⟨u, v, 0⟩) (N := 40) (by omega)).up (A' := 1000000000000000) (B' := 1000000000000000) (by omega) (by omega)
   have v1 := (OkS.by_ hw (n := -(siz (atS (sds rl) g1 0))) (N := 40) (by omega)).up (A' := 1000000000000000) (B' := 1000000000000000) (by omega) (by omega)
   refine W.drawD 10 [.b 0 [], .r 1 [], .r 2 [], .b 3 [], .r 4 [], .r 5 [], .b 6 [], .r 7 [], .b 8 [], .a 9 11 (.cells #[.int .i64 0, .int .i64 0, .int .i64 0] 124 (0, 0))] [] (A0 := []) (Sub.refl _) (by kernel_rfl) ?_ ?_
   ·exact (ALok.b (ALok.r (ALok.r (ALok.b (ALok.r (ALok.r (ALok.b (ALok.r (ALok.b (ALok.cons rfl rfl rfl rfl rfl ALok.nil))))))))))
   refine DT.b rfl rfl rfl (WO.load rfl rfl (Cell.own (Pick.tail (Pick.tail (Pick.tail (Pick.tail (Pick.head))))) rfl) rfl (WO.nil ⟨rfl, rfl⟩)) (DT.r rfl rfl rfl (WO.p rfl rfl (WO.nil ⟨rfl, rfl⟩)) (DT.r rfl rfl rfl (WO.field rfl rfl rfl (WO.nil ⟨rfl, rfl⟩)) ?_))
   refine' DT.b rfl rfl rfl ?hq ?_
   case hq =>
    refine' WO.load (v := _) rfl rfl ?hc rfl ?_
    case hc => ((refine RdC.cellAt hT.c (j := 1) ?_; rfl))
    exact WO.nil ⟨rfl, rfl⟩
   refine DT.r rfl rfl rfl (WO.p rfl rfl (WO.nil ⟨rfl, rfl⟩)) (DT.r rfl rfl rfl (WO.indexAddr (i := 0) rfl rfl rfl hgsl (by first | omega | (simp; omega)) rfl (WO.nil ⟨rfl, rfl⟩)) ?_)
   refine' DT.b rfl rfl rfl ?hq ?_
   case hq =>
    refine' WO.load (v := _) rfl rfl ?hc rfl ?_
    case hc => (first | (refine OwE.cell0 (enc := encI) (e := 3) (sz := 1) (xs := g1) (i := 0) encI_ok (by repeat first | exact .head | apply Pick.tail) (by omega) 0 ?_; rfl))
    exact WO.nil ⟨rfl, rfl⟩
   refine' DT.r rfl rfl rfl ?hq ?_
   case hq =>
    refine' WO.indexAddrZ (n := _) rfl rfl rfl ?hs ?h00 ?h1 rfl ?_
    case hs => exact hT.s.sl
    case h00 => omega
    case h1 => (first | omega | (simp; omega))
    exact WO.nil ⟨rfl, rfl⟩
   refine' DT.b rfl rfl rfl ?hq ?_
   case hq =>
    refine' WO.loadA (vs := _) rfl rfl ?hc ?hl rfl ?_
    case hc => ((refine RdF.cellsT ?_ h0.1 h0.2 rfl; exact hT.s))
    case hl => rfl
    exact WO.nil ⟨rfl, rfl⟩
   refine DT.a (fun b5 => (DT.nil [_, _, _, _, _, _] rfl (WO.storeA rfl rfl rfl rfl Pick.head rfl rfl (WO.nil (W.seq (W.sreg (WO.p rfl rfl (WO.len rfl rfl hgsl rfl (WO.p rfl rfl (WO.nil ?_))))))))))
   refine W.cond_bl rfl (fun c2 => ?_) (fun c2 => ?_)
   ·refine W.seq ?_
    refine W.drawD 3 [.b 0 [], .b 1 [], .b 2 []] [] (A0 := []) (Sub.refl _) (by kernel_rfl) ?_ ?_
    ·repeat constructor
    refine DT.b rfl rfl rfl (WO.loadA rfl rfl (Cells.own (Pick.tail (Pick.tail (Pick.tail (Pick.head))))) rfl rfl (WO.nil ⟨rfl, rfl⟩)) (DT.b rfl rfl rfl (WO.callR rfl Tryz.call229 (fun L w hi => c_size w ⟨u, v, 0⟩ hw) rfl (WO.nil ⟨rfl, rfl⟩)) (DT.b rfl rfl rfl (WO.loadA rfl rfl (Cells.own Pick.head) rfl rfl (WO.nil ⟨rfl, rfl⟩)) (DT.nil [_, _, _, _, _, _] rfl (WO.callR rfl Tryz.call229 (fun L w hi => c_size w (atS (sds rl) g1 0) u0) rfl (WO.p rfl rfl (WO.p rfl rfl (WO.nil (W.seq (W.seq ?_)))))))))
    refine W.drawD 16 [.b 0 [], .b 1 [], .b 2 [], .r 3 [], .r 4 [], .b 5 [], .r 6 [], .b 7 [], .b 8 [], .r 9 [], .r 10 [], .b 11 [], .r 15 [], .c 12 [], .f 13 [], .b 14 []] [] (A0 := []) (Sub.refl _) (by kernel_rfl) ?_ ?_
    ·repeat constructor
    refine DT.b rfl rfl rfl (WO.loadA rfl rfl (Cells.own Pick.head) rfl rfl (WO.nil ⟨rfl, rfl⟩)) (DT.b rfl rfl rfl (WO.loadA rfl rfl (Cells.own (Pick.tail (Pick.tail (Pick.tail (Pick.head))))) rfl rfl (WO.nil ⟨rfl, rfl⟩)) (DT.b rfl rfl rfl (WO.callR rfl Tryz.call230 (fun L w hi => c_cross w (atS (sds rl) g1 0) ⟨u, v, 0⟩ u0 hw) rfl (WO.nil ⟨rfl, rfl⟩)) (DT.r rfl rfl rfl (WO.p rfl rfl (WO.nil ⟨rfl, rfl⟩)) ?_)))
    refine DT.rB rfl rfl rfl (WO.p rfl rfl (WO.nil ⟨rfl, rfl⟩)) (fun c3 => ?_) (fun c3 => ?_)
    ·refine DT.b rfl rfl rfl (WO.go' rfl (WO.loadA rfl rfl (Cells.own Pick.head) rfl rfl (WO.nil ⟨rfl, rfl⟩))) (DT.r rfl rfl rfl (WO.pg rfl rfl rfl (WO.nil ⟨rfl, rfl⟩)) (DT.b rfl rfl rfl (WO.go' rfl (WO.callR rfl Tryz.call232 (fun L w hi => c_by w (atS (sds rl) g1 0) (siz ⟨u, v, 0⟩) (s0.up (by omega) (by omega)) (by omega)) rfl (WO.nil ⟨rfl, rfl⟩))) (DT.b rfl rfl rfl (WO.go' rfl (WO.loadA rfl rfl (Cells.own (Pick.tail (Pick.tail (Pick.tail (Pick.head))))) rfl rfl (WO.nil ⟨rfl, rfl⟩))) (DT.r rfl rfl rfl (WO.pg rfl rfl rfl (WO.nil ⟨rfl, rfl⟩)) (DT.r rfl rfl rfl (WO.go' rfl (WO.neg rfl (by unfold in64; omega) rfl (WO.nil ⟨rfl, rfl⟩))) ?_)))))
     refine DT.b rfl rfl rfl (WO.go' rfl (WO.callR rfl Tryz.call232 (fun L w hi => c_by w ⟨u, v, 0⟩ (-(siz (atS (sds rl) g1 0))) (hw.up (by omega) (by omega)) (by omega)) rfl (WO.nil ⟨rfl, rfl⟩))) (DT.r rfl rfl rfl (WO.go' rfl (WO.build rfl rfl rfl rfl rfl (WO.nil ⟨rfl, rfl⟩))) (DT.c [_, _, _, _, _, _] rfl rfl rfl rfl (WO.go' rfl (WO.buildSl rfl rfl rfl rfl rfl rfl rfl rfl rfl (fun v6 => ?_)))))
     refine WO.nil ⟨_, [_], rfl, rfl, (Keep.r (Keep.b (Keep.r (Keep.r (Keep.b (Keep.b (Keep.r (Keep.b (Keep.r (Keep.r (Keep.b (Keep.b (Keep.b Keep.nil))))))))))))), ?_⟩
     refine DT.f [_, _, _, _, _, _, _] rfl rfl rfl rfl (WO.go' rfl (WO.callR (r := sdV (addS (byS (atS (sds rl) g1 0) (siz ⟨u, v, 0⟩)) (byS ⟨u, v, 0⟩ (-(siz (atS (sds rl) g1 0)))))) rfl Tryz.call231 (fun L w hi => by have h := c_sum w _ [byS (atS (sds rl) g1 0) (siz ⟨u, v, 0⟩), byS ⟨u, v, 0⟩ (-(siz (atS (sds rl) g1 0)))] (RdF.of_ow (e := 124) encSd_ok (by repeat first | exact .head | apply Pick.tail) hi) (by simp) (all_twoS v0 v1); rw [addS_two] at h; exact h) rfl (WO.nil ⟨rfl, rfl⟩))) (DT.b rfl rfl rfl (WO.go' rfl (WO.callR rfl Tryz.call157 (fun L w hi => c_flat w _) rfl (WO.nil ⟨rfl, rfl⟩))) (DT.nil [_, _, _, _, _, _, _] rfl (WO.go' rfl ?_)))
     refine WO.eqT rfl rfl (eq124z (addS (byS (atS (sds rl) g1 0) (siz ⟨u, v, 0⟩)) (byS ⟨u, v, 0⟩ (-(siz (atS (sds rl) g1 0))))).a (addS (byS (atS (sds rl) g1 0) (siz ⟨u, v, 0⟩)) (byS ⟨u, v, 0⟩ (-(siz (atS (sds rl) g1 0))))).b) rfl (WO.p rfl rfl (WO.nil ?_))
     refine W.cond_bl rfl (fun c4 => ?_) (fun c4 => ?_)
     ·have hml := mstL_1 (p := u) (q := v) (show g1.length = 1 by omega) ⟨by assumption, by assumption⟩
      refine W.chgE (all_open1 (b := b4) (cs := msts (sds rl) u v t) (by repeat first | exact .head | apply Pick.tail)) ?_
      rintro gv -
      refine W.chgE (all_open2 (b := b4) (v := gv) (cs := msts (sds rl) u v t)) ?_
      rintro gxs hgx
      have hgl : gxs.length ≤ 1000 := by have := msts_len (sds rl) u v t; rw [← hgx, List.length_map] at this; omega
      refine W.drawD 8 [.b 0 [], .b 1 [], .r 2 [], .r 3 [], .r 4 [], .c 5 [], .c 6 [], .c 7 []] [] (A0 := [_]) (H0 := [_, _, _, _, _, _, _]) (.cons (Pick.tail .head) (.cons .head (.cons .head (.cons .head (.cons .head (.cons .head (.cons .head (.cons .head .nil)))))))) (by kernel_rfl) ?_ ?_
      ·repeat constructor
      refine DT.b rfl rfl rfl (WO.load rfl rfl (Cell.own Pick.head rfl) rfl (WO.nil ⟨rfl, rfl⟩)) (DT.b rfl rfl rfl (WO.load rfl rfl (Cell.own (Pick.tail (Pick.tail (Pick.tail (Pick.tail (Pick.tail (Pick.tail (Pick.head))))))) rfl) rfl (WO.nil ⟨rfl, rfl⟩)) (DT.r rfl rfl rfl (WO.p rfl rfl (WO.nil ⟨rfl, rfl⟩)) (DT.r rfl rfl rfl (WO.p rfl rfl (WO.nil ⟨rfl, rfl⟩)) (DT.r rfl rfl rfl (WO.p rfl rfl (WO.nil ⟨rfl, rfl⟩)) (DT.c [_, _, _, _, _, _, _, _] rfl rfl rfl rfl (WO.buildSl rfl rfl rfl rfl rfl rfl rfl rfl rfl (fun v7 => ?_)))))))
      refine WO.nil ⟨_, [_, _], rfl, rfl, (Keep.r (Keep.r (Keep.r (Keep.b (Keep.b Keep.nil))))), ?_⟩
      refine DT.c [_, _, _, _, _, _, _, _, _] rfl rfl rfl rfl (WO.call (Post := fun r Hq => ∃ mb : Nat, r = mdV (.map (some mb)) (tkS (sds rl) g1 [siz ⟨u, v, 0⟩] g1.length) (siz (atS (sds rl) g1 0)) ∧ Hq = [pt mb (.map (tkL g1 [siz ⟨u, v, 0⟩] g1.length).toArray g1.length)]) rfl Tryz.call233 (fun L w hi => c_take w p rv sv rl (hT.later hi) hok _ _ g1 _ (siz (atS (sds rl) g1 0)) (RdF.of_ow (e := 3) encI_ok (by repeat first | exact .head | apply Pick.tail) hi) (RdF.of_ow (e := 2) (xs := [siz ⟨u, v, 0⟩]) encI_ok (by repeat first | exact .head | apply Pick.tail) hi) hgr.rng hgr.nd (by show 1 = _; omega) hgr.len.2 (fun y hy => by simp at hy; subst hy; omega)) rfl ?_)
      rintro _ _ ⟨mb, rfl, rfl⟩
      refine WO.nil ⟨_, [_, _, _], rfl, rfl, (Keep.c (Keep.r (Keep.r (Keep.r (Keep.b (Keep.b Keep.nil)))))), ?_⟩
      refine DT.c [_, _, _, _, _, _, _, _, _, _] rfl rfl rfl rfl (WO.buildSl rfl rfl rfl rfl rfl rfl rfl rfl rfl (fun v8 => ?_))
      refine WO.nil ⟨_, [_, _, _, _], rfl, rfl, (Keep.c (Keep.c (Keep.r (Keep.r (Keep.r (Keep.b (Keep.b Keep.nil))))))), ?_⟩
      refine DT.nil [_, _, _, _, _, _, _, _, _, _, _] rfl ?_
      refine' WO.appendE (enc := encMd) (m := 1) (xs := gxs) (ys := [(mb, tkS (sds rl) g1 [siz ⟨u, v, 0⟩] g1.length, siz (atS (sds rl) g1 0))]) encMd_ok rfl rfl rfl rfl rfl (by repeat first | exact .head | apply Pick.tail) (isSl_lit (by omega) (fun _ => ⟨_, _, rfl⟩)) (by omega) rfl (OwC.cells .head) (by omega) (by omega) rfl (fun g c => ?_)
      refine WO.store1 rfl rfl rfl (by first | rfl | assumption) (Pick.tail (Pick.tail (Pick.tail (Pick.tail (Pick.head))))) rfl (WO.nil (W.exit (blk_same (endR.go (bl_t.2 hlt) ?_))))
      first
      |(rw [msts_succ hx, hml]; exact all_pack (by repeat (first | exact Sub.nil | refine Sub.cons (by repeat first | exact .head | apply Pick.tail) ?_)) (by rw [List.map_append, hgx]; rfl))
      |(rw [msts_succ hx, mstL_1n (by omega) (fun q => by first | exact absurd q.1 (by assumption) | exact absurd q.2 (by assumption)), List.append_nil]; exact fun h hs => Sub.sat (by repeat (first | exact Sub.nil | refine Sub.cons (by repeat first | exact .head | apply Pick.tail) ?_)) hs)
      |(rw [msts_succ hx, mstL_2 (d := -(crs (atS (sds rl) g1 0) (atS (sds rl) g1 1))) (x := -(crs ⟨u, v, 0⟩ (atS (sds rl) g1 1))) (y := -(crs (atS (sds rl) g1 0) ⟨u, v, 0⟩)) (by omega) (.inl ⟨by assumption, rfl, rfl, rfl⟩), if_neg (by omega), List.append_nil]; exact fun h hs => Sub.sat (by repeat (first | exact Sub.nil | refine Sub.cons (by repeat first | exact .head | apply Pick.tail) ?_)) hs)
      |(rw [msts_succ hx, mstL_2 (d := crs (atS (sds rl) g1 0) (atS (sds rl) g1 1)) (x := crs ⟨u, v, 0⟩ (atS (sds rl) g1 1)) (y := crs (atS (sds rl) g1 0) ⟨u, v, 0⟩) (by omega) (.inr ⟨by assumption, rfl, rfl, rfl⟩), if_neg (by omega), List.append_nil]; exact fun h hs => Sub.sat (by repeat (first | exact Sub.nil | refine Sub.cons (by repeat first | exact .head | apply Pick.tail) ?_)) hs)
     ·refine W.skip (W.exit (blk_same (endR.go (bl_t.2 hlt) ?_)))
      first
      |(rw [msts_succ hx, hml]; exact all_pack (by repeat (first | exact Sub.nil | refine Sub.cons (by repeat first | exact .head | apply Pick.tail) ?_)) (by rw [List.map_append, hgx]; rfl))
      |(rw [msts_succ hx, mstL_1n (by omega) (fun q => by first | exact absurd q.1 (by assumption) | exact absurd q.2 (by assumption)), List.append_nil]; exact fun h hs => Sub.sat (by repeat (first | exact Sub.nil | refine Sub.cons (by repeat first | exact .head | apply Pick.tail) ?_)) hs)
      |(rw [msts_succ hx, mstL_2 (d := -(crs (atS (sds rl) g1 0) (atS (sds rl) g1 1))) (x := -(crs ⟨u, v, 0⟩ (atS (sds rl) g1 1))) (y := -(crs (atS (sds rl) g1 0) ⟨u, v, 0⟩)) (by omega) (.inl ⟨by assumption, rfl, rfl, rfl⟩), if_neg (by omega), List.append_nil]; exact fun h hs => Sub.sat (by repeat (first | exact Sub.nil | refine Sub.cons (by repeat first | exact .head | apply Pick.tail) ?_)) hs)
      |(rw [msts_succ hx, mstL_2 (d := crs (atS (sds rl) g1 0) (atS (sds rl) g1 1)) (x := crs ⟨u, v, 0⟩ (atS (sds rl) g1 1)) (y := crs (atS (sds rl) g1 0) ⟨u, v, 0⟩) (by omega) (.inr ⟨by assumption, rfl, rfl, rfl⟩), if_neg (by omega), List.append_nil]; exact fun h hs => Sub.sat (by repeat (first | exact Sub.nil | refine Sub.cons (by repeat first | exact .head | apply Pick.tail) ?_)) hs)
    ·refine DT.b rfl rfl rfl (WO.no rfl rfl (WO.nil ⟨rfl, rfl⟩)) (DT.r rfl rfl rfl (WO.no rfl rfl (WO.nil ⟨rfl, rfl⟩)) (DT.b rfl rfl rfl (WO.no rfl rfl (WO.nil ⟨rfl, rfl⟩)) (DT.b rfl rfl rfl (WO.no rfl rfl (WO.nil ⟨rfl, rfl⟩)) (DT.r rfl rfl rfl (WO.no rfl rfl (WO.nil ⟨rfl, rfl⟩)) (DT.r rfl rfl rfl (WO.no rfl rfl (WO.nil ⟨rfl, rfl⟩)) (DT.b rfl rfl rfl (WO.no rfl rfl (WO.nil ⟨rfl, rfl⟩)) (DT.r rfl rfl rfl (WO.no rfl rfl (WO.nil ⟨rfl, rfl⟩)) (DT.c [_, _, _, _, _, _] rfl rfl rfl rfl (WO.no rfl rfl ?_)))))))))
     refine WO.nil ⟨_, [], rfl, rfl, (Keep.r (Keep.b (Keep.r (Keep.r (Keep.b (Keep.b (Keep.r (Keep.b (Keep.r (Keep.r (Keep.b (Keep.b (Keep.b Keep.nil))))))))))))), ?_⟩
     refine DT.f [_, _, _, _, _, _] rfl rfl rfl rfl (WO.no rfl rfl (WO.nil ⟨rfl, rfl⟩)) (DT.b rfl rfl rfl (WO.no rfl rfl (WO.nil ⟨rfl, rfl⟩)) (DT.nil [_, _, _, _, _, _] rfl (WO.no rfl rfl (WO.p rfl rfl (WO.nil (W.cond_f rfl (W.skip (W.exit (blk_same (endR.go (bl_t.2 hlt) ?_))))))))))
     first
     |(rw [msts_succ hx, hml]; exact all_pack (by repeat (first | exact Sub.nil | refine Sub.cons (by repeat first | exact .head | apply Pick.tail) ?_)) (by rw [List.map_append, hgx]; rfl))
     |(rw [msts_succ hx, mstL_1n (by omega) (fun q => by first | exact absurd q.1 (by assumption) | exact absurd q.2 (by assumption)), List.append_nil]; exact fun h hs => Sub.sat (by repeat (first | exact Sub.nil | refine Sub.cons (by repeat first | exact .head | apply Pick.tail) ?_)) hs)
     |(rw [msts_succ hx, mstL_2 (d := -(crs (atS (sds rl) g1 0) (atS (sds rl) g1 1))) (x := -(crs ⟨u, v, 0⟩ (atS (sds rl) g1 1))) (y := -(crs (atS (sds rl) g1 0) ⟨u, v, 0⟩)) (by omega) (.inl ⟨by assumption, rfl, rfl, rfl⟩), if_neg (by omega), List.append_nil]; exact fun h hs => Sub.sat (by repeat (first | exact Sub.nil | refine Sub.cons (by repeat first | exact .head | apply Pick.tail) ?_)) hs)
     |(rw [msts_succ hx, mstL_2 (d := crs (atS (sds rl) g1 0) (atS (sds rl) g1 1)) (x := crs ⟨u, v, 0⟩ (atS (sds rl) g1 1)) (y := crs (atS (sds rl) g1 0) ⟨u, v, 0⟩) (by omega) (.inr ⟨by assumption, rfl, rfl, rfl⟩), if_neg (by omega), List.append_nil]; exact fun h hs => Sub.sat (by repeat (first | exact Sub.nil | refine Sub.cons (by repeat first | exact .head | apply Pick.tail) ?_)) hs)
   ·refine W.skip (W.seq ?_)
    have h1 := hgr.rng _ (getD_mem (show 1 < g1.length by omega) 0)
    have s1 : OkS 20 100000 (atS (sds rl) g1 1) := hS _ (getD_mem (show (g1.getD 1 0).toNat < (sds rl).length by omega) sd0)
    have u1 := s1.up (A' := 20) (B' := 1000000) (by omega) (by omega)
    have d1 := (crs_bd u0 u1).2.2
    have d2 := (crs_bd hw u1).2.2
    have d3 := (crs_bd u0 hw).2.2
    refine W.drawD 10 [.b 0 [], .r 1 [], .r 2 [], .b 3 [], .r 4 [], .r 5 [], .b 6 [], .r 7 [], .b 8 [], .a 9 14 (.cells #[.int .i64 0, .int .i64 0, .int .i64 0] 124 (0, 0))] [] (A0 := []) (Sub.refl _) (by kernel_rfl) ?_ ?_
    ·exact (ALok.b (ALok.r (ALok.r (ALok.b (ALok.r (ALok.r (ALok.b (ALok.r (ALok.b (ALok.cons rfl rfl rfl rfl rfl ALok.nil))))))))))
    refine DT.b rfl rfl rfl (WO.load rfl rfl (Cell.own (Pick.tail (Pick.tail (Pick.tail (Pick.tail (Pick.tail (Pick.head)))))) rfl) rfl (WO.nil ⟨rfl, rfl⟩)) (DT.r rfl rfl rfl (WO.p rfl rfl (WO.nil ⟨rfl, rfl⟩)) (DT.r rfl rfl rfl (WO.field rfl rfl rfl (WO.nil ⟨rfl, rfl⟩)) ?_))
    refine' DT.b rfl rfl rfl ?hq ?_
    case hq =>
     refine' WO.load (v := _) rfl rfl ?hc rfl ?_
     case hc => ((refine RdC.cellAt hT.c (j := 1) ?_; rfl))
     exact WO.nil ⟨rfl, rfl⟩
    refine DT.r rfl rfl rfl (WO.p rfl rfl (WO.nil ⟨rfl, rfl⟩)) (DT.r rfl rfl rfl (WO.indexAddr (i := 1) rfl rfl rfl hgsl (by first | omega | (simp; omega)) rfl (WO.nil ⟨rfl, rfl⟩)) ?_)
    refine' DT.b rfl rfl rfl ?hq ?_
    case hq =>
     refine' WO.load (v := _) rfl rfl ?hc rfl ?_
     case hc => (first | (refine OwE.cell0 (enc := encI) (e := 3) (sz := 1) (xs := g1) (i := 1) encI_ok (by repeat first | exact .head | apply Pick.tail) (by omega) 0 ?_; rfl))
     exact WO.nil ⟨rfl, rfl⟩
    refine' DT.r rfl rfl rfl ?hq ?_
    case hq =>
     refine' WO.indexAddrZ (n := _) rfl rfl rfl ?hs ?h00 ?h1 rfl ?_
     case hs => exact hT.s.sl
     case h00 => omega
     case h1 => (first | omega | (simp; omega))
     exact WO.nil ⟨rfl, rfl⟩
    refine' DT.b rfl rfl rfl ?hq ?_
    case hq =>
     refine' WO.loadA (vs := _) rfl rfl ?hc ?hl rfl ?_
     case hc => ((refine RdF.cellsT ?_ h1.1 h1.2 rfl; exact hT.s))
     case hl => rfl
     exact WO.nil ⟨rfl, rfl⟩
    refine DT.a (fun b9 => (DT.nil [_, _, _, _, _, _, _] rfl (WO.storeA rfl rfl rfl rfl Pick.head rfl rfl (WO.nil (W.sreg (WO.loadA rfl rfl (Cells.own (Pick.tail (Pick.head))) rfl rfl (WO.p rfl rfl (WO.p rfl rfl (WO.nil (W.sreg (WO.p rfl rfl (WO.loadA rfl rfl (Cells.own Pick.head) rfl rfl (WO.callCR (first := [sdV (atS (sds rl) g1 0)]) (captured := []) rfl rfl Tryz.call230 (fun L w hi => c_cross w (atS (sds rl) g1 0) (atS (sds rl) g1 1) u0 u1) rfl (WO.p rfl rfl (WO.nil (W.seq ?_))))))))))))))))
    refine W.drawD 5 [.b 0 [], .b 1 [], .b 2 [], .r 3 [], .b 4 []] [] (A0 := []) (Sub.refl _) (by kernel_rfl) ?_ ?_
    ·repeat constructor
    refine DT.b rfl rfl rfl (WO.loadA rfl rfl (Cells.own (Pick.tail (Pick.tail (Pick.tail (Pick.tail (Pick.head)))))) rfl rfl (WO.nil ⟨rfl, rfl⟩)) (DT.b rfl rfl rfl (WO.loadA rfl rfl (Cells.own Pick.head) rfl rfl (WO.nil ⟨rfl, rfl⟩)) (DT.b rfl rfl rfl (WO.callR rfl Tryz.call230 (fun L w hi => c_cross w ⟨u, v, 0⟩ (atS (sds rl) g1 1) hw u1) rfl (WO.nil ⟨rfl, rfl⟩)) (DT.r rfl rfl rfl (WO.p rfl rfl (WO.nil ⟨rfl, rfl⟩)) (DT.b rfl rfl rfl (WO.loadA rfl rfl (Cells.own (Pick.tail (Pick.tail (Pick.tail (Pick.tail (Pick.head)))))) rfl rfl (WO.nil ⟨rfl, rfl⟩)) (DT.nil [_, _, _, _, _, _, _] rfl ?_)))))
    refine WO.callCR (first := [sdV (atS (sds rl) g1 0)]) (captured := []) rfl rfl Tryz.call230 (fun L w hi => c_cross w (atS (sds rl) g1 0) ⟨u, v, 0⟩ u0 hw) rfl (WO.p rfl rfl (WO.p rfl rfl (WO.nil (W.seq (W.sreg (WO.p rfl rfl (WO.p rfl rfl (WO.nil ?_))))))))
    refine W.cond_bl rfl (fun c5 => ?_) (fun c5 => ?_)
    ·refine W.region (WO.p rfl rfl (WO.neg rfl (by unfold in64; omega) rfl (WO.p rfl rfl (WO.neg rfl (by unfold in64; omega) rfl (WO.p rfl rfl (WO.neg rfl (by unfold in64; omega) rfl (WO.p rfl rfl (WO.p rfl rfl (WO.p rfl rfl (WO.nil (W.sreg (WO.p rfl rfl (WO.p rfl rfl (WO.p rfl rfl ?_))))))))))))))
     refine WO.guard_bl rfl rfl (fun c6 => ?_) (fun c6 => ?_)
     ·refine WO.pg rfl rfl rfl (WO.pg rfl rfl rfl (WO.p rfl rfl (WO.p rfl rfl ?_)))
      refine WO.guard_bl rfl rfl (fun c7 => ?_) (fun c7 => ?_)
      ·refine WO.pg rfl rfl rfl (WO.pg rfl rfl rfl (WO.p rfl rfl (WO.nil ?_)))
       refine W.cond_bl rfl (fun c8 => ?_) (fun c8 => ?_)
       ·first
        |(have hml := (mstL_2 (S := sds rl) (p := u) (q := v) (g := g1) (d := -(crs (atS (sds rl) g1 0) (atS (sds rl) g1 1))) (x := -(crs ⟨u, v, 0⟩ (atS (sds rl) g1 1))) (y := -(crs (atS (sds rl) g1 0) ⟨u, v, 0⟩)) (by omega) (.inl ⟨by assumption, rfl, rfl, rfl⟩)).trans (if_pos ⟨by assumption, by assumption, by assumption⟩); have hneg : True := trivial)
        |(have hml := (mstL_2 (S := sds rl) (p := u) (q := v) (g := g1) (d := crs (atS (sds rl) g1 0) (atS (sds rl) g1 1)) (x := crs ⟨u, v, 0⟩ (atS (sds rl) g1 1)) (y := crs (atS (sds rl) g1 0) ⟨u, v, 0⟩) (by omega) (.inr ⟨by assumption, rfl, rfl, rfl⟩)).trans (if_pos ⟨by assumption, by assumption, by assumption⟩); have hpos : True := trivial)
        refine W.chgE (all_open1 (b := b4) (cs := msts (sds rl) u v t) (by repeat first | exact .head | apply Pick.tail)) ?_
        rintro gv -
        refine W.chgE (all_open2 (b := b4) (v := gv) (cs := msts (sds rl) u v t)) ?_
        rintro gxs hgx
        have hgl : gxs.length ≤ 1000 := by have := msts_len (sds rl) u v t; rw [← hgx, List.length_map] at this; omega
        refine W.drawD 9 [.b 0 [], .b 1 [], .r 2 [], .r 3 [], .r 4 [], .r 5 [], .c 6 [], .c 7 [], .c 8 []] [] (A0 := [_]) (H0 := [_, _, _, _, _, _, _]) (.cons (Pick.tail .head) (.cons .head (.cons .head (.cons .head (.cons .head (.cons .head (.cons .head (.cons .head .nil)))))))) (by kernel_rfl) ?_ ?_
        ·repeat constructor
        refine DT.b rfl rfl rfl (WO.load rfl rfl (Cell.own Pick.head rfl) rfl (WO.nil ⟨rfl, rfl⟩)) (DT.b rfl rfl rfl (WO.load rfl rfl (Cell.own (Pick.tail (Pick.tail (Pick.tail (Pick.tail (Pick.tail (Pick.tail (Pick.head))))))) rfl) rfl (WO.nil ⟨rfl, rfl⟩)) (DT.r rfl rfl rfl (WO.p rfl rfl (WO.nil ⟨rfl, rfl⟩)) (DT.r rfl rfl rfl (WO.p rfl rfl (WO.nil ⟨rfl, rfl⟩)) (DT.r rfl rfl rfl (WO.p rfl rfl (WO.nil ⟨rfl, rfl⟩)) (DT.r rfl rfl rfl (WO.p rfl rfl (WO.nil ⟨rfl, rfl⟩)) (DT.c [_, _, _, _, _, _, _, _] rfl rfl rfl rfl (WO.buildSl rfl rfl rfl rfl rfl rfl rfl rfl rfl (fun v10 => ?_))))))))
        refine WO.nil ⟨_, [_, _], rfl, rfl, (Keep.r (Keep.r (Keep.r (Keep.r (Keep.b (Keep.b Keep.nil)))))), ?_⟩
        refine DT.c [_, _, _, _, _, _, _, _, _] rfl rfl rfl rfl ?_
        first
        |(have q := hpos; clear q; refine WO.call (Post := fun r Hq => ∃ mb : Nat, r = mdV (.map (some mb)) (tkS (sds rl) g1 [crs ⟨u, v, 0⟩ (atS (sds rl) g1 1), crs (atS (sds rl) g1 0) ⟨u, v, 0⟩] g1.length) (crs (atS (sds rl) g1 0) (atS (sds rl) g1 1)) ∧ Hq = [pt mb (.map (tkL g1 [crs ⟨u, v, 0⟩ (atS (sds rl) g1 1), crs (atS (sds rl) g1 0) ⟨u, v, 0⟩] g1.length).toArray g1.length)]) rfl Tryz.call233 (fun L w hi => c_take w p rv sv rl (hT.later hi) hok _ _ g1 _ _ (RdF.of_ow (e := 3) encI_ok (by repeat first | exact .head | apply Pick.tail) hi) (RdF.of_ow (e := 2) (xs := [crs ⟨u, v, 0⟩ (atS (sds rl) g1 1), crs (atS (sds rl) g1 0) ⟨u, v, 0⟩]) encI_ok (by repeat first | exact .head | apply Pick.tail) hi) hgr.rng hgr.nd (by show 2 = _; omega) hgr.len.2 (y2_bd (by omega) (by omega))) rfl ?_)
        |(have q := hneg; clear q; refine WO.call (Post := fun r Hq => ∃ mb : Nat, r = mdV (.map (some mb)) (tkS (sds rl) g1 [-(crs ⟨u, v, 0⟩ (atS (sds rl) g1 1)), -(crs (atS (sds rl) g1 0) ⟨u, v, 0⟩)] g1.length) (-(crs (atS (sds rl) g1 0) (atS (sds rl) g1 1))) ∧ Hq = [pt mb (.map (tkL g1 [-(crs ⟨u, v, 0⟩ (atS (sds rl) g1 1)), -(crs (atS (sds rl) g1 0) ⟨u, v, 0⟩)] g1.length).toArray g1.length)]) rfl Tryz.call233 (fun L w hi => c_take w p rv sv rl (hT.later hi) hok _ _ g1 _ _ (RdF.of_ow (e := 3) encI_ok (by repeat first | exact .head | apply Pick.tail) hi) (RdF.of_ow (e := 2) (xs := [-(crs ⟨u, v, 0⟩ (atS (sds rl) g1 1)), -(crs (atS (sds rl) g1 0) ⟨u, v, 0⟩)]) encI_ok (by repeat first | exact .head | apply Pick.tail) hi) hgr.rng hgr.nd (by show 2 = _; omega) hgr.len.2 (y2_bd (by omega) (by omega))) rfl ?_)
        rintro _ _ ⟨mb, rfl, rfl⟩
        refine WO.nil ⟨_, [_, _, _], rfl, rfl, (Keep.c (Keep.r (Keep.r (Keep.r (Keep.r (Keep.b (Keep.b Keep.nil))))))), ?_⟩
        refine DT.c [_, _, _, _, _, _, _, _, _, _] rfl rfl rfl rfl (WO.buildSl rfl rfl rfl rfl rfl rfl rfl rfl rfl (fun v11 => ?_))
        refine WO.nil ⟨_, [_, _, _, _], rfl, rfl, (Keep.c (Keep.c (Keep.r (Keep.r (Keep.r (Keep.r (Keep.b (Keep.b Keep.nil)))))))), ?_⟩
        refine DT.nil [_, _, _, _, _, _, _, _, _, _, _] rfl ?_
        first
        |(have q := hpos; clear q; refine' WO.appendE (enc := encMd) (m := 1) (xs := gxs) (ys := [(mb, tkS (sds rl) g1 [crs ⟨u, v, 0⟩ (atS (sds rl) g1 1), crs (atS (sds rl) g1 0) ⟨u, v, 0⟩] g1.length, crs (atS (sds rl) g1 0) (atS (sds rl) g1 1))]) encMd_ok rfl rfl rfl rfl rfl (by repeat first | exact .head | apply Pick.tail) (isSl_lit (by omega) (fun _ => ⟨_, _, rfl⟩)) (by omega) rfl (OwC.cells .head) (by omega) (by omega) rfl (fun g c => ?_))
        |(have q := hneg; clear q; refine' WO.appendE (enc := encMd) (m := 1) (xs := gxs) (ys := [(mb, tkS (sds rl) g1 [-(crs ⟨u, v, 0⟩ (atS (sds rl) g1 1)), -(crs (atS (sds rl) g1 0) ⟨u, v, 0⟩)] g1.length, -(crs (atS (sds rl) g1 0) (atS (sds rl) g1 1)))]) encMd_ok rfl rfl rfl rfl rfl (by repeat first | exact .head | apply Pick.tail) (isSl_lit (by omega) (fun _ => ⟨_, _, rfl⟩)) (by omega) rfl (OwC.cells .head) (by omega) (by omega) rfl (fun g c => ?_))
        refine WO.store1 rfl rfl rfl (by first | rfl | assumption) (Pick.tail (Pick.tail (Pick.tail (Pick.tail (Pick.head))))) rfl (WO.nil (endR.go (bl_t.2 hlt) ?_))
        first
        |(rw [msts_succ hx, hml]; exact all_pack (by repeat (first | exact Sub.nil | refine Sub.cons (by repeat first | exact .head | apply Pick.tail) ?_)) (by rw [List.map_append, hgx]; rfl))
        |(rw [msts_succ hx, mstL_1n (by omega) (fun q => by first | exact absurd q.1 (by assumption) | exact absurd q.2 (by assumption)), List.append_nil]; exact fun h hs => Sub.sat (by repeat (first | exact Sub.nil | refine Sub.cons (by repeat first | exact .head | apply Pick.tail) ?_)) hs)
        |(rw [msts_succ hx, mstL_2 (d := -(crs (atS (sds rl) g1 0) (atS (sds rl) g1 1))) (x := -(crs ⟨u, v, 0⟩ (atS (sds rl) g1 1))) (y := -(crs (atS (sds rl) g1 0) ⟨u, v, 0⟩)) (by omega) (.inl ⟨by assumption, rfl, rfl, rfl⟩), if_neg (by omega), List.append_nil]; exact fun h hs => Sub.sat (by repeat (first | exact Sub.nil | refine Sub.cons (by repeat first | exact .head | apply Pick.tail) ?_)) hs)
        |(rw [msts_succ hx, mstL_2 (d := crs (atS (sds rl) g1 0) (atS (sds rl) g1 1)) (x := crs ⟨u, v, 0⟩ (atS (sds rl) g1 1)) (y := crs (atS (sds rl) g1 0) ⟨u, v, 0⟩) (by omega) (.inr ⟨by assumption, rfl, rfl, rfl⟩), if_neg (by omega), List.append_nil]; exact fun h hs => Sub.sat (by repeat (first | exact Sub.nil | refine Sub.cons (by repeat first | exact .head | apply Pick.tail) ?_)) hs)
       ·refine W.skip (endR.go (bl_t.2 hlt) ?_)
        first
        |(rw [msts_succ hx, hml]; exact all_pack (by repeat (first | exact Sub.nil | refine Sub.cons (by repeat first | exact .head | apply Pick.tail) ?_)) (by rw [List.map_append, hgx]; rfl))
        |(rw [msts_succ hx, mstL_1n (by omega) (fun q => by first | exact absurd q.1 (by assumption) | exact absurd q.2 (by assumption)), List.append_nil]; exact fun h hs => Sub.sat (by repeat (first | exact Sub.nil | refine Sub.cons (by repeat first | exact .head | apply Pick.tail) ?_)) hs)
        |(rw [msts_succ hx, mstL_2 (d := -(crs (atS (sds rl) g1 0) (atS (sds rl) g1 1))) (x := -(crs ⟨u, v, 0⟩ (atS (sds rl) g1 1))) (y := -(crs (atS (sds rl) g1 0) ⟨u, v, 0⟩)) (by omega) (.inl ⟨by assumption, rfl, rfl, rfl⟩), if_neg (by omega), List.append_nil]; exact fun h hs => Sub.sat (by repeat (first | exact Sub.nil | refine Sub.cons (by repeat first | exact .head | apply Pick.tail) ?_)) hs)
        |(rw [msts_succ hx, mstL_2 (d := crs (atS (sds rl) g1 0) (atS (sds rl) g1 1)) (x := crs ⟨u, v, 0⟩ (atS (sds rl) g1 1)) (y := crs (atS (sds rl) g1 0) ⟨u, v, 0⟩) (by omega) (.inr ⟨by assumption, rfl, rfl, rfl⟩), if_neg (by omega), List.append_nil]; exact fun h hs => Sub.sat (by repeat (first | exact Sub.nil | refine Sub.cons (by repeat first | exact .head | apply Pick.tail) ?_)) hs)
      ·refine WO.no rfl rfl (WO.no rfl rfl (WO.p rfl rfl (WO.nil (W.cond_f rfl (W.skip (endR.go (bl_t.2 hlt) ?_))))))
       first
       |(rw [msts_succ hx, hml]; exact all_pack (by repeat (first | exact Sub.nil | refine Sub.cons (by repeat first | exact .head | apply Pick.tail) ?_)) (by rw [List.map_append, hgx]; rfl))
       |(rw [msts_succ hx, mstL_1n (by omega) (fun q => by first | exact absurd q.1 (by assumption) | exact absurd q.2 (by assumption)), List.append_nil]; exact fun h hs => Sub.sat (by repeat (first | exact Sub.nil | refine Sub.cons (by repeat first | exact .head | apply Pick.tail) ?_)) hs)
       |(rw [msts_succ hx, mstL_2 (d := -(crs (atS (sds rl) g1 0) (atS (sds rl) g1 1))) (x := -(crs ⟨u, v, 0⟩ (atS (sds rl) g1 1))) (y := -(crs (atS (sds rl) g1 0) ⟨u, v, 0⟩)) (by omega) (.inl ⟨by assumption, rfl, rfl, rfl⟩), if_neg (by omega), List.append_nil]; exact fun h hs => Sub.sat (by repeat (first | exact Sub.nil | refine Sub.cons (by repeat first | exact .head | apply Pick.tail) ?_)) hs)
       |(rw [msts_succ hx, mstL_2 (d := crs (atS (sds rl) g1 0) (atS (sds rl) g1 1)) (x := crs ⟨u, v, 0⟩ (atS (sds rl) g1 1)) (y := crs (atS (sds rl) g1 0) ⟨u, v, 0⟩) (by omega) (.inr ⟨by assumption, rfl, rfl, rfl⟩), if_neg (by omega), List.append_nil]; exact fun h hs => Sub.sat (by repeat (first | exact Sub.nil | refine Sub.cons (by repeat first | exact .head | apply Pick.tail) ?_)) hs)
     ·exfalso; omega
    ·refine W.skip (W.sreg (WO.p rfl rfl (WO.p rfl rfl (WO.p rfl rfl ?_))))
     refine WO.guard_bl rfl rfl (fun c9 => ?_) (fun c9 => ?_)
     ·refine WO.pg rfl rfl rfl (WO.pg rfl rfl rfl (WO.p rfl rfl (WO.p rfl rfl ?_)))
      refine WO.guard_bl rfl rfl (fun c10 => ?_) (fun c10 => ?_)
      ·refine WO.pg rfl rfl rfl (WO.pg rfl rfl rfl (WO.p rfl rfl (WO.nil ?_)))
       refine W.cond_bl rfl (fun c11 => ?_) (fun c11 => ?_)
       ·first
        |(have hml := (mstL_2 (S := sds rl) (p := u) (q := v) (g := g1) (d := -(crs (atS (sds rl) g1 0) (atS (sds rl) g1 1))) (x := -(crs ⟨u, v, 0⟩ (atS (sds rl) g1 1))) (y := -(crs (atS (sds rl) g1 0) ⟨u, v, 0⟩)) (by omega) (.inl ⟨by assumption, rfl, rfl, rfl⟩)).trans (if_pos ⟨by assumption, by assumption, by assumption⟩); have hneg : True := trivial)
        |(have hml := (mstL_2 (S := sds rl) (p := u) (q := v) (g := g1) (d := crs (atS (sds rl) g1 0) (atS (sds rl) g1 1)) (x := crs ⟨u, v, 0⟩ (atS (sds rl) g1 1)) (y := crs (atS (sds rl) g1 0) ⟨u, v, 0⟩) (by omega) (.inr ⟨by assumption, rfl, rfl, rfl⟩)).trans (if_pos ⟨by assumption, by assumption, by assumption⟩); have hpos : True := trivial)
        refine W.chgE (all_open1 (b := b4) (cs := msts (sds rl) u v t) (by repeat first | exact .head | apply Pick.tail)) ?_
        rintro gv -
        refine W.chgE (all_open2 (b := b4) (v := gv) (cs := msts (sds rl) u v t)) ?_
        rintro gxs hgx
        have hgl : gxs.length ≤ 1000 := by have := msts_len (sds rl) u v t; rw [← hgx, List.length_map] at this; omega
        refine W.drawD 9 [.b 0 [], .b 1 [], .r 2 [], .r 3 [], .r 4 [], .r 5 [], .c 6 [], .c 7 [], .c 8 []] [] (A0 := [_]) (H0 := [_, _, _, _, _, _, _]) (.cons (Pick.tail .head) (.cons .head (.cons .head (.cons .head (.cons .head (.cons .head (.cons .head (.cons .head .nil)))))))) (by kernel_rfl) ?_ ?_
        ·repeat constructor
        refine DT.b rfl rfl rfl (WO.load rfl rfl (Cell.own Pick.head rfl) rfl (WO.nil ⟨rfl, rfl⟩)) (DT.b rfl rfl rfl (WO.load rfl rfl (Cell.own (Pick.tail (Pick.tail (Pick.tail (Pick.tail (Pick.tail (Pick.tail (Pick.head))))))) rfl) rfl (WO.nil ⟨rfl, rfl⟩)) (DT.r rfl rfl rfl (WO.p rfl rfl (WO.nil ⟨rfl, rfl⟩)) (DT.r rfl rfl rfl (WO.p rfl rfl (WO.nil ⟨rfl, rfl⟩)) (DT.r rfl rfl rfl (WO.p rfl rfl (WO.nil ⟨rfl, rfl⟩)) (DT.r rfl rfl rfl (WO.p rfl rfl (WO.nil ⟨rfl, rfl⟩)) (DT.c [_, _, _, _, _, _, _, _] rfl rfl rfl rfl (WO.buildSl rfl rfl rfl rfl rfl rfl rfl rfl rfl (fun v12 => ?_))))))))
        refine WO.nil ⟨_, [_, _], rfl, rfl, (Keep.r (Keep.r (Keep.r (Keep.r (Keep.b (Keep.b Keep.nil)))))), ?_⟩
        refine DT.c [_, _, _, _, _, _, _, _, _] rfl rfl rfl rfl ?_
        first
        |(have q := hpos; clear q; refine WO.call (Post := fun r Hq => ∃ mb : Nat, r = mdV (.map (some mb)) (tkS (sds rl) g1 [crs ⟨u, v, 0⟩ (atS (sds rl) g1 1), crs (atS (sds rl) g1 0) ⟨u, v, 0⟩] g1.length) (crs (atS (sds rl) g1 0) (atS (sds rl) g1 1)) ∧ Hq = [pt mb (.map (tkL g1 [crs ⟨u, v, 0⟩ (atS (sds rl) g1 1), crs (atS (sds rl) g1 0) ⟨u, v, 0⟩] g1.length).toArray g1.length)]) rfl Tryz.call233 (fun L w hi => c_take w p rv sv rl (hT.later hi) hok _ _ g1 _ _ (RdF.of_ow (e := 3) encI_ok (by repeat first | exact .head | apply Pick.tail) hi) (RdF.of_ow (e := 2) (xs := [crs ⟨u, v, 0⟩ (atS (sds rl) g1 1), crs (atS (sds rl) g1 0) ⟨u, v, 0⟩]) encI_ok (by repeat first | exact .head | apply Pick.tail) hi) hgr.rng hgr.nd (by show 2 = _; omega) hgr.len.2 (y2_bd (by omega) (by omega))) rfl ?_)
        |(have q := hneg; clear q; refine WO.call (Post := fun r Hq => ∃ mb : Nat, r = mdV (.map (some mb)) (tkS (sds rl) g1 [-(crs ⟨u, v, 0⟩ (atS (sds rl) g1 1)), -(crs (atS (sds rl) g1 0) ⟨u, v, 0⟩)] g1.length) (-(crs (atS (sds rl) g1 0) (atS (sds rl) g1 1))) ∧ Hq = [pt mb (.map (tkL g1 [-(crs ⟨u, v, 0⟩ (atS (sds rl) g1 1)), -(crs (atS (sds rl) g1 0) ⟨u, v, 0⟩)] g1.length).toArray g1.length)]) rfl Tryz.call233 (fun L w hi => c_take w p rv sv rl (hT.later hi) hok _ _ g1 _ _ (RdF.of_ow (e := 3) encI_ok (by repeat first | exact .head | apply Pick.tail) hi) (RdF.of_ow (e := 2) (xs := [-(crs ⟨u, v, 0⟩ (atS (sds rl) g1 1)), -(crs (atS (sds rl) g1 0) ⟨u, v, 0⟩)]) encI_ok (by repeat first | exact .head | apply Pick.tail) hi) hgr.rng hgr.nd (by show 2 = _; omega) hgr.len.2 (y2_bd (by omega) (by omega))) rfl ?_)
        rintro _ _ ⟨mb, rfl, rfl⟩
        refine WO.nil ⟨_, [_, _, _], rfl, rfl, (Keep.c (Keep.r (Keep.r (Keep.r (Keep.r (Keep.b (Keep.b Keep.nil))))))), ?_⟩
        refine DT.c [_, _, _, _, _, _, _, _, _, _] rfl rfl rfl rfl (WO.buildSl rfl rfl rfl rfl rfl rfl rfl rfl rfl (fun v13 => ?_))
        refine WO.nil ⟨_, [_, _, _, _], rfl, rfl, (Keep.c (Keep.c (Keep.r (Keep.r (Keep.r (Keep.r (Keep.b (Keep.b Keep.nil)))))))), ?_⟩
        refine DT.nil [_, _, _, _, _, _, _, _, _, _, _] rfl ?_
        first
        |(have q := hpos; clear q; refine' WO.appendE (enc := encMd) (m := 1) (xs := gxs) (ys := [(mb, tkS (sds rl) g1 [crs ⟨u, v, 0⟩ (atS (sds rl) g1 1), crs (atS (sds rl) g1 0) ⟨u, v, 0⟩] g1.length, crs (atS (sds rl) g1 0) (atS (sds rl) g1 1))]) encMd_ok rfl rfl rfl rfl rfl (by repeat first | exact .head | apply Pick.tail) (isSl_lit (by omega) (fun _ => ⟨_, _, rfl⟩)) (by omega) rfl (OwC.cells .head) (by omega) (by omega) rfl (fun g c => ?_))
        |(have q := hneg; clear q; refine' WO.appendE (enc := encMd) (m := 1) (xs := gxs) (ys := [(mb, tkS (sds rl) g1 [-(crs ⟨u, v, 0⟩ (atS (sds rl) g1 1)), -(crs (atS (sds rl) g1 0) ⟨u, v, 0⟩)] g1.length, -(crs (atS (sds rl) g1 0) (atS (sds rl) g1 1)))]) encMd_ok rfl rfl rfl rfl rfl (by repeat first | exact .head | apply Pick.tail) (isSl_lit (by omega) (fun _ => ⟨_, _, rfl⟩)) (by omega) rfl (OwC.cells .head) (by omega) (by omega) rfl (fun g c => ?_))
        refine WO.store1 rfl rfl rfl (by first | rfl | assumption) (Pick.tail (Pick.tail (Pick.tail (Pick.tail (Pick.head))))) rfl (WO.nil (endR.go (bl_t.2 hlt) ?_))
        first
        |(rw [msts_succ hx, hml]; exact all_pack (by repeat (first | exact Sub.nil | refine Sub.cons (by repeat first | exact .head | apply Pick.tail) ?_)) (by rw [List.map_append, hgx]; rfl))
        |(rw [msts_succ hx, mstL_1n (by omega) (fun q => by first | exact absurd q.1 (by assumption) | exact absurd q.2 (by assumption)), List.append_nil]; exact fun h hs => Sub.sat (by repeat (first | exact Sub.nil | refine Sub.cons (by repeat first | exact .head | apply Pick.tail) ?_)) hs)
        |(rw [msts_succ hx, mstL_2 (d := -(crs (atS (sds rl) g1 0) (atS (sds rl) g1 1))) (x := -(crs ⟨u, v, 0⟩ (atS (sds rl) g1 1))) (y := -(crs (atS (sds rl) g1 0) ⟨u, v, 0⟩)) (by omega) (.inl ⟨by assumption, rfl, rfl, rfl⟩), if_neg (by omega), List.append_nil]; exact fun h hs => Sub.sat (by repeat (first | exact Sub.nil | refine Sub.cons (by repeat first | exact .head | apply Pick.tail) ?_)) hs)
        |(rw [msts_succ hx, mstL_2 (d := crs (atS (sds rl) g1 0) (atS (sds rl) g1 1)) (x := crs ⟨u, v, 0⟩ (atS (sds rl) g1 1)) (y := crs (atS (sds rl) g1 0) ⟨u, v, 0⟩) (by omega) (.inr ⟨by assumption, rfl, rfl, rfl⟩), if_neg (by omega), List.append_nil]; exact fun h hs => Sub.sat (by repeat (first | exact Sub.nil | refine Sub.cons (by repeat first | exact .head | apply Pick.tail) ?_)) hs)
       ·refine W.skip (endR.go (bl_t.2 hlt) ?_)
        first
        |(rw [msts_succ hx, hml]; exact all_pack (by repeat (first | exact Sub.nil | refine Sub.cons (by repeat first | exact .head | apply Pick.tail) ?_)) (by rw [List.map_append, hgx]; rfl))
        |(rw [msts_succ hx, mstL_1n (by omega) (fun q => by first | exact absurd q.1 (by assumption) | exact absurd q.2 (by assumption)), List.append_nil]; exact fun h hs => Sub.sat (by repeat (first | exact Sub.nil | refine Sub.cons (by repeat first | exact .head | apply Pick.tail) ?_)) hs)
        |(rw [msts_succ hx, mstL_2 (d := -(crs (atS (sds rl) g1 0) (atS (sds rl) g1 1))) (x := -(crs ⟨u, v, 0⟩ (atS (sds rl) g1 1))) (y := -(crs (atS (sds rl) g1 0) ⟨u, v, 0⟩)) (by omega) (.inl ⟨by assumption, rfl, rfl, rfl⟩), if_neg (by omega), List.append_nil]; exact fun h hs => Sub.sat (by repeat (first | exact Sub.nil | refine Sub.cons (by repeat first | exact .head | apply Pick.tail) ?_)) hs)
        |(rw [msts_succ hx, mstL_2 (d := crs (atS (sds rl) g1 0) (atS (sds rl) g1 1)) (x := crs ⟨u, v, 0⟩ (atS (sds rl) g1 1)) (y := crs (atS (sds rl) g1 0) ⟨u, v, 0⟩) (by omega) (.inr ⟨by assumption, rfl, rfl, rfl⟩), if_neg (by omega), List.append_nil]; exact fun h hs => Sub.sat (by repeat (first | exact Sub.nil | refine Sub.cons (by repeat first | exact .head | apply Pick.tail) ?_)) hs)
      ·refine WO.no rfl rfl (WO.no rfl rfl (WO.p rfl rfl (WO.nil (W.cond_f rfl (W.skip (endR.go (bl_t.2 hlt) ?_))))))
       first
       |(rw [msts_succ hx, hml]; exact all_pack (by repeat (first | exact Sub.nil | refine Sub.cons (by repeat first | exact .head | apply Pick.tail) ?_)) (by rw [List.map_append, hgx]; rfl))
       |(rw [msts_succ hx, mstL_1n (by omega) (fun q => by first | exact absurd q.1 (by assumption) | exact absurd q.2 (by assumption)), List.append_nil]; exact fun h hs => Sub.sat (by repeat (first | exact Sub.nil | refine Sub.cons (by repeat first | exact .head | apply Pick.tail) ?_)) hs)
       |(rw [msts_succ hx, mstL_2 (d := -(crs (atS (sds rl) g1 0) (atS (sds rl) g1 1))) (x := -(crs ⟨u, v, 0⟩ (atS (sds rl) g1 1))) (y := -(crs (atS (sds rl) g1 0) ⟨u, v, 0⟩)) (by omega) (.inl ⟨by assumption, rfl, rfl, rfl⟩), if_neg (by omega), List.append_nil]; exact fun h hs => Sub.sat (by repeat (first | exact Sub.nil | refine Sub.cons (by repeat first | exact .head | apply Pick.tail) ?_)) hs)
       |(rw [msts_succ hx, mstL_2 (d := crs (atS (sds rl) g1 0) (atS (sds rl) g1 1)) (x := crs ⟨u, v, 0⟩ (atS (sds rl) g1 1)) (y := crs (atS (sds rl) g1 0) ⟨u, v, 0⟩) (by omega) (.inr ⟨by assumption, rfl, rfl, rfl⟩), if_neg (by omega), List.append_nil]; exact fun h hs => Sub.sat (by repeat (first | exact Sub.nil | refine Sub.cons (by repeat first | exact .head | apply Pick.tail) ?_)) hs)
     ·refine WO.no rfl rfl (WO.no rfl rfl (WO.p rfl rfl (WO.p rfl rfl (WO.no rfl rfl (WO.no rfl rfl (WO.p rfl rfl (WO.nil (W.cond_f rfl (W.skip (endR.go (bl_t.2 hlt) ?_))))))))))
      first
      |(rw [msts_succ hx, hml]; exact all_pack (by repeat (first | exact Sub.nil | refine Sub.cons (by repeat first | exact .head | apply Pick.tail) ?_)) (by rw [List.map_append, hgx]; rfl))
      |(rw [msts_succ hx, mstL_1n (by omega) (fun q => by first | exact absurd q.1 (by assumption) | exact absurd q.2 (by assumption)), List.append_nil]; exact fun h hs => Sub.sat (by repeat (first | exact Sub.nil | refine Sub.cons (by repeat first | exact .head | apply Pick.tail) ?_)) hs)
      |(rw [msts_succ hx, mstL_2 (d := -(crs (atS (sds rl) g1 0) (atS (sds rl) g1 1))) (x := -(crs ⟨u, v, 0⟩ (atS (sds rl) g1 1))) (y := -(crs (atS (sds rl) g1 0) ⟨u, v, 0⟩)) (by omega) (.inl ⟨by assumption, rfl, rfl, rfl⟩), if_neg (by omega), List.append_nil]; exact fun h hs => Sub.sat (by repeat (first | exact Sub.nil | refine Sub.cons (by repeat first | exact .head | apply Pick.tail) ?_)) hs)
      |(rw [msts_succ hx, mstL_2 (d := crs (atS (sds rl) g1 0) (atS (sds rl) g1 1)) (x := crs ⟨u, v, 0⟩ (atS (sds rl) g1 1)) (y := crs (atS (sds rl) g1 0) ⟨u, v, 0⟩) (by omega) (.inr ⟨by assumption, rfl, rfl, rfl⟩), if_neg (by omega), List.append_nil]; exact fun h hs => Sub.sat (by repeat (first | exact Sub.nil | refine Sub.cons (by repeat first | exact .head | apply Pick.tail) ?_)) hs)
  ·intro hAll
   rw [msts_end]
   refine W.seq (W.chgE (all_open1 (b := b4) (cs := mstA (sds rl) u v) (by repeat first | exact .head | apply Pick.tail)) ?_)
   rintro gv -
   refine W.chgE (all_open2 (b := b4) (v := gv) (cs := mstA (sds rl) u v)) ?_
   rintro gxs hgx
   refine W.fact (OwE.formCap (enc := encMd) (e := 126) (sz := 5) (v := gv) (xs := gxs) (by repeat first | exact .head | apply Pick.tail)) (fun hfc => ?_)
   obtain ⟨ga, gc, rfl, hgc⟩ := hfc
   refine W.fact (OwE.sl (enc := encMd) (e := 126) (sz := 5) (v := .slice ga gxs.length gc) (xs := gxs) (by repeat first | exact .head | apply Pick.tail)) (fun hgs => ?_)
   have hgk : ∀ y ∈ gxs, OkM y.2 := fun y hy => mstA_ok hS (sds_nz hok) hu hv _ (hgx ▸ List.mem_map_of_mem hy)
   refine W.sreg (WO.load rfl rfl (Cell.own Pick.head rfl) rfl (WO.len rfl rfl hgs rfl (WO.p rfl rfl (WO.nil ?_))))
   refine W.cond_bl rfl (fun c12 => ?_) (fun c12 => ?_)
   ·refine W.sreg (WO.build rfl rfl rfl rfl rfl (WO.storeA rfl rfl rfl rfl (Pick.tail (Pick.tail (Pick.tail (Pick.tail (Pick.tail (Pick.head)))))) rfl rfl (WO.p rfl rfl (WO.nil (W.ret ?_)))))
    first
    |(have q := mb; exact fin.ret (Res.two rfl (RV.cell rfl rfl rfl (Cells.own (by repeat first | exact .head | apply Pick.tail))) (RV.tmp rfl)) ⟨some mb, sd0, 1, by rw [bl_t.2 (show Bnd (sds rl) u v from .inl ⟨by omega, by omega⟩)] <;> rfl, fun _ => ⟨.inl ⟨by omega, by omega, rfl⟩, fun y _ h0 => absurd ⟨by omega, by omega⟩ h0⟩⟩)
    |(have q := hy; exact fin.ret (Res.two rfl (RV.cell rfl rfl rfl (Cells.own (by repeat first | exact .head | apply Pick.tail))) (RV.tmp rfl)) ⟨some y.1, y.2.1, y.2.2, by rw [bl_t.2 (show Bnd (sds rl) u v from .inr (fun e => by rw [e] at hgx; have hz := congrArg List.length hgx; rw [List.length_map] at hz; exact absurd hz (by show ¬ (gxs.length = 0); omega)))] <;> rfl, fun _ => firstM_most (by omega) hgx hy⟩)
    |(have hz : mstA (sds rl) u v = [] := (by rw [← hgx]; exact List.map_eq_nil_iff.2 (List.eq_nil_of_length_eq_zero (by omega))); have hb : ¬ Bnd (sds rl) u v := fun q => q.elim (fun q => by omega) (fun q => q hz); exact fin.ret (Res.two rfl (RV.cell rfl rfl rfl (Cells.own (by repeat first | exact .head | apply Pick.tail))) (RV.tmp rfl)) ⟨none, sd0, 0, by rw [bl_f.2 hb] <;> rfl, fun q => absurd q hb⟩)
   ·refine W.skip (W.sreg (WO.load rfl rfl (Cell.own Pick.head rfl) rfl (WO.callE rfl Tryz.call234 (fun L w hi => c_first w ga gc gxs (RdF.of_ow (e := 126) encMd_ok (by repeat first | exact .head | apply Pick.tail) hi) hgc (by omega) hgk) rfl ?_)))
    rintro _ ⟨y, hy, rfl⟩
    refine WO.storeA rfl rfl rfl rfl (Pick.tail (Pick.tail (Pick.tail (Pick.tail (Pick.tail (Pick.head)))))) rfl rfl (WO.p rfl rfl (WO.nil (W.ret ?_)))
    first
    |(have q := mb; exact fin.ret (Res.two rfl (RV.cell rfl rfl rfl (Cells.own (by repeat first | exact .head | apply Pick.tail))) (RV.tmp rfl)) ⟨some mb, sd0, 1, by rw [bl_t.2 (show Bnd (sds rl) u v from .inl ⟨by omega, by omega⟩)] <;> rfl, fun _ => ⟨.inl ⟨by omega, by omega, rfl⟩, fun y _ h0 => absurd ⟨by omega, by omega⟩ h0⟩⟩)
    |(have q := hy; exact fin.ret (Res.two rfl (RV.cell rfl rfl rfl (Cells.own (by repeat first | exact .head | apply Pick.tail))) (RV.tmp rfl)) ⟨some y.1, y.2.1, y.2.2, by rw [bl_t.2 (show Bnd (sds rl) u v from .inr (fun e => by rw [e] at hgx; have hz := congrArg List.length hgx; rw [List.length_map] at hz; exact absurd hz (by show ¬ (gxs.length = 0); omega)))] <;> rfl, fun _ => firstM_most (by omega) hgx hy⟩)
    |(have hz : mstA (sds rl) u v = [] := (by rw [← hgx]; exact List.map_eq_nil_iff.2 (List.eq_nil_of_length_eq_zero (by omega))); have hb : ¬ Bnd (sds rl) u v := fun q => q.elim (fun q => by omega) (fun q => q hz); exact fin.ret (Res.two rfl (RV.cell rfl rfl rfl (Cells.own (by repeat first | exact .head | apply Pick.tail))) (RV.tmp rfl)) ⟨none, sd0, 0, by rw [bl_f.2 hb] <;> rfl, fun q => absurd q hb⟩)
  ·intro hStop
   exfalso; omega
end Go.Proofs.YtnehaifgcegemaaGreat.Sp
namespace Go.Proofs.YtnehaifgcegemaaGreat.Sp
open Go Go.TH
attribute [local irreducible] W WO pt
set_option maxRecDepth 10000
set_option maxHeartbeats 2000000
def leE (l : List Rn) (p q : Int) : Int := if chkA l p q ≠ 0 then chkA l p q else if Dbt (sds l) then 20 else if Bnd (sds l) p q then 0 else 5
theorem leE_1 {l : List Rn} {p q : Int} (h : chkA l p q ≠ 0) : leE l p q = chkA l p q := by unfold leE; rw [if_pos h]
theorem leE_20 {l : List Rn} {p q : Int} (h : ¬ chkA l p q ≠ 0) (g : Dbt (sds l)) : leE l p q = 20 := by unfold leE; rw [if_neg h, if_pos g]
theorem leE_5 {l : List Rn} {p q : Int} (h : ¬ chkA l p q ≠ 0) (g : ¬ Dbt (sds l)) (b : ¬ Bnd (sds l) p q) : leE l p q = 5 := by unfold leE; rw [if_neg h, if_neg g, if_neg b]
theorem leE_0 {l : List Rn} {p q : Int} (h : ¬ chkA l p q ≠ 0) (g : ¬ Dbt (sds l)) (b : Bnd (sds l) p q) : leE l p q = 0 := by unfold leE; rw [if_neg h, if_neg g, if_pos b]
def BestR (l : List Rn) (p q : Int) (r : Value) : Prop := ∃ (m : Option Nat) (s : Sd) (t : Int), r = .tuple #[mdV (.map m) s t, .int .i64 (leE l p q)] ∧ (leE l p q = 0 → MostI (sds l) p q (s, t))
theorem c_best (w : World) (v : Value) (l : List Rn) (p q : Int) (hR : RdF encRn 4 w.heap.size w v l) : RetE Tryz.prog 65 [v, .int .i64 p, .int .i64 q].toArray w (BestR l p q) := by
 refine RetE.of mixed tyTab Tryz.func65 rfl rfl ?_
 replace hR : RdF encRn 4 (fnCx mixed tyTab Tryz.f65.ntmps w).B (fnCx mixed tyTab Tryz.f65.ntmps w).w0 v l := hR
 refine W.sreg (WO.alloc rfl rfl rfl (fun b1 hb1 => (WO.p rfl rfl (WO.nil (W.seq (W.sreg (WO.p rfl rfl (WO.p rfl rfl (WO.p rfl rfl (WO.callR rfl Tryz.call146 (fun L w hi => c_check w v l p q (hR.later hi)) rfl (WO.p rfl rfl (WO.nil (W.sreg (WO.p rfl rfl (WO.p rfl rfl (WO.nil ?_))))))))))))))))
 refine W.cond_bl rfl (fun c1 => ?_) (fun c1 => ?_)
 ·refine W.sreg (WO.build rfl rfl rfl rfl rfl (WO.p rfl rfl (WO.storeA rfl rfl rfl rfl Pick.head rfl rfl (WO.p rfl rfl (WO.nil (W.ret ?_))))))
  first
  | exact fin.ret (Res.two rfl (RV.cell rfl rfl rfl (Cells.own (by repeat first | exact .head | apply Pick.tail))) (RV.tmp rfl)) ⟨none, sd0, 0, by rw [leE_1 (by assumption)] <;> rfl, fun e => by rw [leE_1 (by assumption)] at e; omega⟩
  | exact fin.ret (Res.two rfl (RV.cell rfl rfl rfl (Cells.own (by repeat first | exact .head | apply Pick.tail))) (RV.tmp rfl)) ⟨none, sd0, 0, by rw [leE_20 (by assumption) (by assumption)] <;> rfl, fun e => by rw [leE_20 (by assumption) (by assumption)] at e; omega⟩
  | exact fin.ret (Res.two rfl (RV.cell rfl rfl rfl (Cells.own (by repeat first | exact .head | apply Pick.tail))) (RV.tmp rfl)) ⟨none, sd0, 0, by rw [leE_5 (by assumption) (by assumption) (by assumption)] <;> rfl, fun e => by rw [leE_5 (by assumption) (by assumption) (by assumption)] at e; omega⟩
  | exact fin.ret (Res.two rfl (RV.cell rfl rfl rfl (Cells.own (by repeat first | exact .head | apply Pick.tail))) (RV.tmp rfl)) ⟨mq, ms, mt, by rw [leE_0 (by assumption) (by assumption) (by assumption)], fun _ => hms (by assumption)⟩
 ·refine W.skip (W.sreg (WO.p rfl rfl ?_))
  have hrs := chkRs0.1 (chkA0.1 (show chkA l p q = 0 by omega)).1
  have hpq := (chkA0.1 (show chkA l p q = 0 by omega)).2
  refine WO.call (Post := fun u Hq => ∃ (b : Nat) (rv sv : Value), u = .pointer (some ⟨b, 0, none⟩) ∧ Hq = [pt b (.cells #[rv, sv] 222 (0, 0)), OwE encPr 224 10 rv l, OwE encSd 124 3 sv (sds l)]) rfl Tryz.call73 (fun L w hi => c_newTable w v l (hR.later hi) hrs.2 hrs.1) rfl ?_
  rintro _ _ ⟨tb, rv, sv, rfl, rfl⟩
  refine WO.p rfl rfl (WO.nil (W.seq (W.sreg (WO.p rfl rfl (WO.call (Post := fun u Hq => ∃ mb : Nat, u = .tuple #[mdV (.map (dbQ (sds l) mb)) (dbS (sds l)) (dbT (sds l)), .bool (bl (Dbt (sds l)))] ∧ Hq = [dbP (sds l) mb]) rfl Tryz.call74 (fun L w hi => c_doubt w ⟨tb, 0, none⟩ rv sv l (Tbl.own (b := tb) (by repeat first | exact .head | apply Pick.tail) (by repeat first | exact .head | apply Pick.tail) (by repeat first | exact .head | apply Pick.tail) hi) hrs.2 hrs.1) rfl ?_)))))
  rintro _ _ ⟨mb, rfl, rfl⟩
  refine WO.p rfl rfl (WO.p rfl rfl (WO.extract (i := 1) rfl rfl rfl (WO.alloc rfl rfl rfl (fun b2 hb2 => (WO.storeA rfl rfl rfl rfl Pick.head rfl rfl (WO.p rfl rfl (WO.nil (W.sreg (WO.p rfl rfl (WO.nil ?_))))))))))
  refine W.cond_bl rfl (fun c2 => ?_) (fun c2 => ?_)
  ·refine W.sreg (WO.build rfl rfl rfl rfl rfl (WO.storeA rfl rfl rfl rfl (Pick.tail (Pick.tail (Pick.tail (Pick.tail (Pick.tail (Pick.head)))))) rfl rfl (WO.p rfl rfl (WO.nil (W.ret ?_)))))
   first
   | exact fin.ret (Res.two rfl (RV.cell rfl rfl rfl (Cells.own (by repeat first | exact .head | apply Pick.tail))) (RV.tmp rfl)) ⟨none, sd0, 0, by rw [leE_1 (by assumption)] <;> rfl, fun e => by rw [leE_1 (by assumption)] at e; omega⟩
   | exact fin.ret (Res.two rfl (RV.cell rfl rfl rfl (Cells.own (by repeat first | exact .head | apply Pick.tail))) (RV.tmp rfl)) ⟨none, sd0, 0, by rw [leE_20 (by assumption) (by assumption)] <;> rfl, fun e => by rw [leE_20 (by assumption) (by assumption)] at e; omega⟩
   | exact fin.ret (Res.two rfl (RV.cell rfl rfl rfl (Cells.own (by repeat first | exact .head | apply Pick.tail))) (RV.tmp rfl)) ⟨none, sd0, 0, by rw [leE_5 (by assumption) (by assumption) (by assumption)] <;> rfl, fun e => by rw [leE_5 (by assumption) (by assumption) (by assumption)] at e; omega⟩
   | exact fin.ret (Res.two rfl (RV.cell rfl rfl rfl (Cells.own (by repeat first | exact .head | apply Pick.tail))) (RV.tmp rfl)) ⟨mq, ms, mt, by rw [leE_0 (by assumption) (by assumption) (by assumption)], fun _ => hms (by assumption)⟩
  ·refine W.skip (W.sreg (WO.p rfl rfl (WO.p rfl rfl (WO.p rfl rfl (WO.callE rfl Tryz.call147 (fun L w hi => c_most w ⟨tb, 0, none⟩ rv sv l (Tbl.own (b := tb) (by repeat first | exact .head | apply Pick.tail) (by repeat first | exact .head | apply Pick.tail) (by repeat first | exact .head | apply Pick.tail) hi) hrs.2 hrs.1 p q hpq.1 hpq.2) rfl ?_)))))
   rintro _ ⟨mq, ms, mt, rfl, hms⟩
   refine WO.p rfl rfl (WO.p rfl rfl (WO.extract (i := 1) rfl rfl rfl (WO.alloc rfl rfl rfl (fun b3 hb3 => (WO.storeA rfl rfl rfl rfl Pick.head rfl rfl (WO.p rfl rfl (WO.nil (W.seq (W.sreg (WO.p rfl rfl (WO.p rfl rfl (WO.nil ?_))))))))))))
   refine W.cond_nbl rfl (fun c3 => ?_) (fun c3 => ?_)
   ·refine W.sreg (WO.build rfl rfl rfl rfl rfl (WO.storeA rfl rfl rfl rfl (Pick.tail (Pick.tail (Pick.tail (Pick.tail (Pick.tail (Pick.tail (Pick.head))))))) rfl rfl (WO.p rfl rfl (WO.nil (W.ret ?_)))))
    first
    | exact fin.ret (Res.two rfl (RV.cell rfl rfl rfl (Cells.own (by repeat first | exact .head | apply Pick.tail))) (RV.tmp rfl)) ⟨none, sd0, 0, by rw [leE_1 (by assumption)] <;> rfl, fun e => by rw [leE_1 (by assumption)] at e; omega⟩
    | exact fin.ret (Res.two rfl (RV.cell rfl rfl rfl (Cells.own (by repeat first | exact .head | apply Pick.tail))) (RV.tmp rfl)) ⟨none, sd0, 0, by rw [leE_20 (by assumption) (by assumption)] <;> rfl, fun e => by rw [leE_20 (by assumption) (by assumption)] at e; omega⟩
    | exact fin.ret (Res.two rfl (RV.cell rfl rfl rfl (Cells.own (by repeat first | exact .head | apply Pick.tail))) (RV.tmp rfl)) ⟨none, sd0, 0, by rw [leE_5 (by assumption) (by assumption) (by assumption)] <;> rfl, fun e => by rw [leE_5 (by assumption) (by assumption) (by assumption)] at e; omega⟩
    | exact fin.ret (Res.two rfl (RV.cell rfl rfl rfl (Cells.own (by repeat first | exact .head | apply Pick.tail))) (RV.tmp rfl)) ⟨mq, ms, mt, by rw [leE_0 (by assumption) (by assumption) (by assumption)], fun _ => hms (by assumption)⟩
   ·refine W.skip (W.sreg (WO.loadA rfl rfl (Cells.own Pick.head) rfl rfl (WO.storeA rfl rfl rfl rfl (Pick.tail (Pick.tail (Pick.tail (Pick.tail (Pick.tail (Pick.tail (Pick.head))))))) rfl rfl (WO.p rfl rfl (WO.nil (W.ret ?_))))))
    first
    | exact fin.ret (Res.two rfl (RV.cell rfl rfl rfl (Cells.own (by repeat first | exact .head | apply Pick.tail))) (RV.tmp rfl)) ⟨none, sd0, 0, by rw [leE_1 (by assumption)] <;> rfl, fun e => by rw [leE_1 (by assumption)] at e; omega⟩
    | exact fin.ret (Res.two rfl (RV.cell rfl rfl rfl (Cells.own (by repeat first | exact .head | apply Pick.tail))) (RV.tmp rfl)) ⟨none, sd0, 0, by rw [leE_20 (by assumption) (by assumption)] <;> rfl, fun e => by rw [leE_20 (by assumption) (by assumption)] at e; omega⟩
    | exact fin.ret (Res.two rfl (RV.cell rfl rfl rfl (Cells.own (by repeat first | exact .head | apply Pick.tail))) (RV.tmp rfl)) ⟨none, sd0, 0, by rw [leE_5 (by assumption) (by assumption) (by assumption)] <;> rfl, fun e => by rw [leE_5 (by assumption) (by assumption) (by assumption)] at e; omega⟩
    | exact fin.ret (Res.two rfl (RV.cell rfl rfl rfl (Cells.own (by repeat first | exact .head | apply Pick.tail))) (RV.tmp rfl)) ⟨mq, ms, mt, by rw [leE_0 (by assumption) (by assumption) (by assumption)], fun _ => hms (by assumption)⟩
def LeastR (l : List Rn) (p q : Int) (r : Value) : Prop := ∃ x : Int × Int, r = .tuple #[raV x, .int .i64 (leE l p q)] ∧ (leE l p q = 0 → ∃ y : Sd × Int, MostI (sds l) p q y ∧ x = red y.1.c y.2)
theorem leE_ok {l : List Rn} {p q : Int} (h : leE l p q = 0) : OkRs l ∧ l.length ≤ 12 ∧ OkN p ∧ OkN q ∧ ¬ Dbt (sds l) ∧ Bnd (sds l) p q := by
 unfold leE at h
 split at h
 ·omega
 ·rename_i h1
  obtain ⟨h2, h3⟩ := chkA0.1 (show chkA l p q = 0 by omega)
  obtain ⟨h4, h5⟩ := chkRs0.1 h2
  split at h
  ·omega
  ·split at h
   ·exact ⟨h5, h4, h3.1, h3.2, by assumption, by assumption⟩
   ·omega
theorem c_Least (w : World) (v : Value) (l : List Rn) (p q : Int) (hR : RdF encRn 4 w.heap.size w v l) : RetE Tryz.prog 22 [v, .int .i64 p, .int .i64 q].toArray w (LeastR l p q) := by
 refine RetE.of mixed tyTab Tryz.func22 rfl rfl ?_
 replace hR : RdF encRn 4 (fnCx mixed tyTab Tryz.f22.ntmps w).B (fnCx mixed tyTab Tryz.f22.ntmps w).w0 v l := hR
 refine W.sreg (WO.alloc rfl rfl rfl (fun b1 hb1 => (WO.p rfl rfl (WO.nil (W.sreg (WO.p rfl rfl (WO.p rfl rfl (WO.p rfl rfl (WO.callE rfl Tryz.call65 (fun L w hi => c_best w v l p q (hR.later hi)) rfl ?_)))))))))
 rintro _ ⟨mq, ms, mt, rfl, hms⟩
 refine WO.p rfl rfl (WO.p rfl rfl (WO.p rfl rfl (WO.alloc rfl rfl rfl (fun b2 hb2 => (WO.storeA rfl rfl rfl rfl Pick.head rfl rfl (WO.p rfl rfl (WO.nil (W.seq (W.sreg (WO.p rfl rfl (WO.p rfl rfl (WO.nil ?_))))))))))))
 refine W.cond_bl rfl (fun c1 => ?_) (fun c1 => ?_)
 ·refine W.sreg (WO.build rfl rfl rfl rfl rfl (WO.p rfl rfl (WO.storeA rfl rfl rfl rfl (Pick.tail (Pick.head)) rfl rfl (WO.p rfl rfl (WO.nil (W.ret ?_))))))
  first
  | exact fin.ret (Res.two rfl (RV.cell rfl rfl rfl (Cells.own (by repeat first | exact .head | apply Pick.tail))) (RV.tmp rfl)) ⟨(0, 0), rfl, fun e => by omega⟩
  | exact fin.ret (Res.two rfl (RV.cell rfl rfl rfl (Cells.own (by repeat first | exact .head | apply Pick.tail))) (RV.tmp rfl)) ⟨red ms.c mt, by rw [show leE l p q = 0 by omega], fun _ => ⟨(ms, mt), hm, rfl⟩⟩
 ·refine W.skip (W.sreg (WO.loadA rfl rfl (Cells.own Pick.head) rfl rfl ?_))
  have hle := leE_ok (show leE l p q = 0 by omega)
  have hm := hms (by omega)
  refine WO.callR rfl Tryz.call66 (fun L w hi => c_boundQ w mq ms mt (hm.ok hle.1 hle.2.2.1 hle.2.2.2.1)) rfl (WO.storeA rfl rfl rfl rfl (Pick.tail (Pick.head)) rfl rfl (WO.p rfl rfl (WO.nil (W.ret ?_))))
  first
  | exact fin.ret (Res.two rfl (RV.cell rfl rfl rfl (Cells.own (by repeat first | exact .head | apply Pick.tail))) (RV.tmp rfl)) ⟨(0, 0), rfl, fun e => by omega⟩
  | exact fin.ret (Res.two rfl (RV.cell rfl rfl rfl (Cells.own (by repeat first | exact .head | apply Pick.tail))) (RV.tmp rfl)) ⟨red ms.c mt, by rw [show leE l p q = 0 by omega], fun _ => ⟨(ms, mt), hm, rfl⟩⟩
end Go.Proofs.YtnehaifgcegemaaGreat.Sp
namespace Go.Proofs.YtnehaifgcegemaaGreat.Sp
open Go Go.TH
def fitS (s : Sd) (t : Tru) : Prop := s.c * t.d ≤ s.a * t.a + s.b * t.b
theorem fitL_iff {l : List Rn} {t : Tru} : fitL l t ↔ ∀ s ∈ sds l, fitS s t := by
 constructor
 ·intro h s hs
  obtain ⟨r, hr, hm⟩ := List.mem_flatMap.1 hs
  have h1 := h r hr
  unfold fitR at h1
  have : s = loS r ∨ s = hiS r := by simpa using hm
  rcases this with rfl | rfl
  ·exact h1.1
  ·show -r.hi * t.d ≤ -r.p * t.a + -r.q * t.b
   rw [Int.neg_mul, Int.neg_mul, Int.neg_mul]; omega
 ·intro h r hr
  have h1 : fitS (loS r) t := h _ (List.mem_flatMap.2 ⟨r, hr, by simp⟩)
  have h2 : fitS (hiS r) t := h _ (List.mem_flatMap.2 ⟨r, hr, by simp⟩)
  have h3 : -r.hi * t.d ≤ -r.p * t.a + -r.q * t.b := h2
  rw [Int.neg_mul, Int.neg_mul, Int.neg_mul] at h3
  exact ⟨h1, by omega⟩
theorem fitS.by_ {s : Sd} {t : Tru} {y : Int} (h : fitS s t) (hy : 0 ≤ y) : fitS (byS s y) t := by
 unfold fitS at h
 have h1 := Int.mul_le_mul_of_nonneg_right h hy
 show s.c * y * t.d ≤ s.a * y * t.a + s.b * y * t.b
 have e1 : s.c * y * t.d = s.c * t.d * y := by grind
 have e2 : s.a * y * t.a + s.b * y * t.b = (s.a * t.a + s.b * t.b) * y := by grind
 omega
theorem fitS.add {s o : Sd} {t : Tru} (h : fitS s t) (g : fitS o t) : fitS (addS s o) t := by
 unfold fitS at h g
 show (s.c + o.c) * t.d ≤ (s.a + o.a) * t.a + (s.b + o.b) * t.b
 rw [Int.add_mul, Int.add_mul, Int.add_mul]; omega
theorem tkS_fit {S : List Sd} {t : Tru} (h : ∀ s ∈ S, fitS s t) {g ys : List Int} (hg : ∀ x ∈ g, 0 ≤ x ∧ x < S.length) (hy : ∀ y ∈ ys, 0 ≤ y) (hl : ys.length = g.length) : ∀ {i : Nat}, i ≤ g.length → fitS (tkS S g ys i) t
 | 0, _ => by unfold fitS; simp [tkS, sd0]
 | i + 1, hi => by
  have hx := hg _ (getD_mem (show i < g.length by omega) 0)
  exact (tkS_fit h hg hy hl (i := i) (by omega)).add ((h _ (getD_mem (show (g.getD i 0).toNat < S.length by omega) sd0)).by_ (hy _ (getD_mem (by omega) 0)))
theorem ab_nn' (n : Int) : 0 ≤ ab n := by unfold ab; omega
theorem siz_nn (s : Sd) : 0 ≤ siz s := by unfold siz; have := ab_nn' s.a; have := ab_nn' s.b; omega
theorem zrY_nn {S : List Sd} {g ys : List Int} (h : zrY S g = some ys) : ∀ y ∈ ys, 0 ≤ y := by
 unfold zrY at h
 split at h
 ·unfold zr2 at h
  split at h
  ·cases h
   intro y hy
   have := siz_nn (atS S g 0); have := siz_nn (atS S g 1)
   simp only [List.mem_cons, List.not_mem_nil, or_false] at hy
   rcases hy with rfl | rfl <;> omega
  ·cases h
 ·split at h
  ·unfold zr3 at h
   dsimp only at h
   split at h
   ·split at h
    ·cases h; intro y hy; simp only [List.mem_cons, List.not_mem_nil, or_false] at hy; rcases hy with rfl | rfl | rfl <;> omega
    ·cases h
   ·split at h
    ·cases h; intro y hy; simp only [List.mem_cons, List.not_mem_nil, or_false] at hy; rcases hy with rfl | rfl | rfl <;> omega
    ·cases h
  ·cases h
theorem Dbt.no {S : List Sd} (h : Dbt S) {t : Tru} (ht : 0 < t.d) : ¬ ∀ s ∈ S, fitS s t := fun hf => by
 obtain ⟨hg, hs⟩ := h.hit
 obtain ⟨ys, e, ez⟩ := dbt_def hs
 have hgr := (grp_ok (m := 3) (by omega) hg).1
 have hfit := tkS_fit hf hgr.rng (zrY_nn ez) (zrY_len ez) (i := (hitG S).length) (Nat.le_refl _)
 obtain ⟨_, ⟨h1, h2⟩, h3⟩ := dbt_some.1 hs
 rw [ez] at h1 h2 h3
 have h1' : (tkS S (hitG S) ys (hitG S).length).a = 0 := h1
 have h2' : (tkS S (hitG S) ys (hitG S).length).b = 0 := h2
 have h3' : 0 < (tkS S (hitG S) ys (hitG S).length).c := h3
 unfold fitS at hfit
 rw [h1', h2', Int.zero_mul, Int.zero_mul] at hfit
 have := Int.mul_pos h3' ht
 omega
abbrev wS (p q : Int) : Sd := ⟨p, q, 0⟩
section
variable {S : List Sd} {p q : Int}
theorem mst_inv {y : Sd × Int} (h : y ∈ mstA S p q) : (∃ s ∈ S, fit2 s (wS p q) (siz (wS p q)) (-(siz s)) ∧ y.1.c = s.c * siz (wS p q) ∧ y.2 = siz s ∧ y.1.a = p * y.2 ∧ y.1.b = q * y.2) ∨
 (∃ a ∈ S, ∃ b ∈ S, 0 < crs a b ∧ 0 ≤ crs (wS p q) b ∧ 0 ≤ crs a (wS p q) ∧ y.1.c = crs (wS p q) b * a.c + crs a (wS p q) * b.c ∧ y.2 = crs a b ∧ y.1.a = p * y.2 ∧ y.1.b = q * y.2) := by
 obtain ⟨g, hg, hy⟩ := List.mem_flatMap.1 h
 obtain ⟨hgr, h2⟩ := grp_ok (m := 2) (by omega) hg
 have hgn := hgr.len
 have hat : ∀ i, i < g.length → atS S g i ∈ S := fun i hi => getD_mem (show (g.getD i 0).toNat < S.length by have := hgr.rng _ (getD_mem hi 0); omega) sd0
 unfold mstL at hy
 cases hm : mstG S p q g with
 | none => rw [hm] at hy; simp at hy
 | some x =>
  rw [hm] at hy
  obtain rfl : y = (tkS S g x.1 g.length, x.2) := by simpa using hy
  unfold mstG at hm
  split at hm
  ·rename_i h1
   unfold mst1 at hm
   split at hm
   ·rename_i hf
    cases hm
    refine .inl ⟨_, hat 0 (by omega), hf, ?_, rfl, ?_, ?_⟩
    ·rw [h1]; show 0 + (atS S g 0).c * _ = _; rw [Int.zero_add]; rfl
    ·rw [h1]; show 0 + (atS S g 0).a * siz (wS p q) = p * siz (atS S g 0)
     have k : (atS S g 0).a * siz (wS p q) + p * -(siz (atS S g 0)) = 0 := hf.2.1
     rw [Int.mul_neg] at k; omega
    ·rw [h1]; show 0 + (atS S g 0).b * siz (wS p q) = q * siz (atS S g 0)
     have k : (atS S g 0).b * siz (wS p q) + q * -(siz (atS S g 0)) = 0 := hf.2.2
     rw [Int.mul_neg] at k; omega
   ·cases hm
  ·rename_i h1
   have h2 : g.length = 2 := by omega
   have a0 := hat 0 (by omega)
   have a1 := hat 1 (by omega)
   have hc : ∀ x y : Int, tkS S g [x, y] g.length = addS (addS sd0 (byS (atS S g 0) x)) (byS (atS S g 1) y) := fun x y => by rw [h2]; rfl
   unfold mst2 at hm
   split at hm
   ·split at hm
    ·rename_i c1 c2
     cases hm
     have n1 : crs (atS S g 1) (atS S g 0) = -crs (atS S g 0) (atS S g 1) := by unfold crs; grind
     have n2 : crs (wS p q) (atS S g 0) = -crs (atS S g 0) (wS p q) := by unfold crs; grind
     have n3 : crs (atS S g 1) (wS p q) = -crs (wS p q) (atS S g 1) := by unfold crs; grind
     refine .inr ⟨_, a1, _, a0, by omega, by rw [n2]; exact c2.2.2, by rw [n3]; exact c2.2.1, ?_, n1.symm, ?_, ?_⟩
     ·rw [n2, n3, hc]
      show 0 + (atS S g 0).c * -(crs (wS p q) (atS S g 1)) + (atS S g 1).c * -(crs (atS S g 0) (wS p q)) = _
      grind
     ·rw [hc]
      show 0 + (atS S g 0).a * -(crs (wS p q) (atS S g 1)) + (atS S g 1).a * -(crs (atS S g 0) (wS p q)) = p * -(crs (atS S g 0) (atS S g 1))
      unfold crs; grind
     ·rw [hc]
      show 0 + (atS S g 0).b * -(crs (wS p q) (atS S g 1)) + (atS S g 1).b * -(crs (atS S g 0) (wS p q)) = q * -(crs (atS S g 0) (atS S g 1))
      unfold crs; grind
    ·cases hm
   ·split at hm
    ·rename_i c1 c2
     cases hm
     refine .inr ⟨_, a0, _, a1, c2.1, c2.2.1, c2.2.2, ?_, rfl, ?_, ?_⟩
     ·rw [hc]
      show 0 + (atS S g 0).c * (crs (wS p q) (atS S g 1)) + (atS S g 1).c * (crs (atS S g 0) (wS p q)) = _
      grind
     ·rw [hc]
      show 0 + (atS S g 0).a * (crs (wS p q) (atS S g 1)) + (atS S g 1).a * (crs (atS S g 0) (wS p q)) = p * (crs (atS S g 0) (atS S g 1))
      unfold crs; grind
     ·rw [hc]
      show 0 + (atS S g 0).b * (crs (wS p q) (atS S g 1)) + (atS S g 1).b * (crs (atS S g 0) (wS p q)) = q * (crs (atS S g 0) (atS S g 1))
      unfold crs; grind
    ·cases hm
theorem mst_weak {y : Sd × Int} (h : y ∈ mstA S p q) {t : Tru} (hf : ∀ s ∈ S, fitS s t) : y.1.c * t.d ≤ (p * t.a + q * t.b) * y.2 := by
 have key : fitS ⟨p * y.2, q * y.2, y.1.c⟩ t := by
  rcases mst_inv h with ⟨s, hs, _, h1, h2, h3, h4⟩ | ⟨a, ha, b, hb, _, h1, h2, h3, h4, h5, h6⟩
  ·have := (hf s hs).by_ (siz_nn (wS p q))
   unfold byS at this
   have e : s.a * siz (wS p q) = p * siz s ∧ s.b * siz (wS p q) = q * siz s := by
    rename_i k
    have k1 : s.a * siz (wS p q) + p * -(siz s) = 0 := k.2.1
    have k2 : s.b * siz (wS p q) + q * -(siz s) = 0 := k.2.2
    rw [Int.mul_neg] at k1 k2
    constructor <;> omega
   rw [e.1, e.2, ← h1, ← h2] at this
   exact this
  ·have := ((hf a ha).by_ h1).add ((hf b hb).by_ h2)
   unfold byS addS at this
   dsimp only at this
   have e1 : a.a * crs (wS p q) b + b.a * crs a (wS p q) = p * y.2 := by rw [h4]; unfold crs; grind
   have e2 : a.b * crs (wS p q) b + b.b * crs a (wS p q) = q * y.2 := by rw [h4]; unfold crs; grind
   have e3 : a.c * crs (wS p q) b + b.c * crs a (wS p q) = y.1.c := by rw [h3]; grind
   rw [e1, e2, e3] at this
   exact this
 unfold fitS at key
 dsimp only at key
 have e : (p * t.a + q * t.b) * y.2 = p * y.2 * t.a + q * y.2 * t.b := by grind
 omega
end
section
variable {S : List Sd}
end
end Go.Proofs.YtnehaifgcegemaaGreat.Sp
namespace Go.Proofs.YtnehaifgcegemaaGreat
open Go Go.TH Sp
def ptT (p : Int × Int) : Tru := ⟨p.1, p.2, 1⟩
theorem ptT_ok {p : Int × Int} (h : Tu.OkP p) : OkT (ptT p) := by
 obtain ⟨h1, h2⟩ := h
 exact ⟨by unfold ptT; dsimp only; omega, by unfold ptT; dsimp only; omega, by unfold ptT; dsimp only; omega⟩
def midT (c : Tu.Cir) : Tru := ⟨c.x, c.y, c.den⟩
theorem midT_ok {c : Tu.Cir} (h : Tu.OkR c) : OkT (midT c) := by
 have h1 := h.den; have h2 := h.x; have h3 := h.y
 exact ⟨by unfold midT; dsimp only; omega, by unfold midT; dsimp only; omega, by unfold midT; dsimp only; omega⟩
theorem le_cast {a b : Int} (h : a ≤ b) : (a : Rat) ≤ (b : Rat) := by exact_mod_cast h
theorem side_rat {s : Sd} {a b d : Int} (h : s.c * d ≤ s.a * a + s.b * b) : (0 : Rat) ≤ (s.a : Rat) * (a : Rat) + (s.b : Rat) * (b : Rat) - (s.c : Rat) * (d : Rat) := by
 have h2 := le_cast h
 rw [Rat.intCast_add, Rat.intCast_mul, Rat.intCast_mul, Rat.intCast_mul] at h2
 grind
theorem rat_side {s : Sd} {a b d : Int} (h : (0 : Rat) ≤ (s.a : Rat) * (a : Rat) + (s.b : Rat) * (b : Rat) - (s.c : Rat) * (d : Rat)) : s.c * d ≤ s.a * a + s.b * b := by
 have h2 : ((s.c * d : Int) : Rat) ≤ ((s.a * a + s.b * b : Int) : Rat) := by
  rw [Rat.intCast_add, Rat.intCast_mul, Rat.intCast_mul, Rat.intCast_mul]
  grind
 exact_mod_cast h2
theorem mid_fitS {ps : Tu.Pts} (h : Tu.OkL ps) (h0 : ps ≠ []) {s : Sd} (hf : ∀ p ∈ ps, fitS s (ptT p)) : fitS s (midT (Tu.lst ps)) := by
 obtain ⟨D, r, q, t, u, v, w, hb, hp⟩ := Tu.prove_ex h0
 have sm := Tu.lst_sm h h0
 have e : Tu.toD (Tu.lst ps) = D := hb.uniq sm.best.hold (fun p hp => by simp at hp) (sm.best.min D hb.hold (fun p hp => by simp at hp))
 have hden := Tu.pos_of sm.can.den
 have hi := Tu.inv_of sm.can.den
 have g : ∀ p ∈ ps, (0 : Rat) ≤ (s.a : Rat) * (p.1 : Rat) + (s.b : Rat) * (p.2 : Rat) - (s.c : Rat) := fun p hpp => by
  have h1 := side_rat (s := s) (a := p.1) (b := p.2) (d := 1) (hf p hpp)
  have e1 : ((1 : Int) : Rat) = 1 := rfl
  rw [e1] at h1
  grind
 have k1 := Rat.mul_nonneg hp.hu (g r hp.hr)
 have k2 := Rat.mul_nonneg hp.hv (g q hp.hs)
 have k3 := Rat.mul_nonneg hp.hw (g t hp.ht)
 have m1 := hp.mid.one
 have m2 : u * (r.1 : Rat) + v * (q.1 : Rat) + w * (t.1 : Rat) = D.x := hp.mid.x
 have m3 : u * (r.2 : Rat) + v * (q.2 : Rat) + w * (t.2 : Rat) = D.y := hp.mid.y
 have x1 : ((Tu.lst ps).x : Rat) * ((Tu.lst ps).den : Rat)⁻¹ = D.x := congrArg Dsc.Dsc.x e
 have y1 : ((Tu.lst ps).y : Rat) * ((Tu.lst ps).den : Rat)⁻¹ = D.y := congrArg Dsc.Dsc.y e
 generalize ((Tu.lst ps).den : Rat)⁻¹ = i at hi x1 y1
 have s1 : (0 : Rat) ≤ (s.a : Rat) * D.x + (s.b : Rat) * D.y - (s.c : Rat) := by
  have e2 : u * ((s.a : Rat) * (r.1 : Rat) + (s.b : Rat) * (r.2 : Rat) - (s.c : Rat)) + v * ((s.a : Rat) * (q.1 : Rat) + (s.b : Rat) * (q.2 : Rat) - (s.c : Rat)) + w * ((s.a : Rat) * (t.1 : Rat) + (s.b : Rat) * (t.2 : Rat) - (s.c : Rat)) = (s.a : Rat) * D.x + (s.b : Rat) * D.y - (s.c : Rat) * (u + v + w) := by
   rw [← m2, ← m3]; grind
  rw [m1] at e2
  grind
 have s2 := Rat.mul_nonneg s1 (Rat.le_of_lt hden)
 have e3 : ((s.a : Rat) * D.x + (s.b : Rat) * D.y - (s.c : Rat)) * ((Tu.lst ps).den : Rat) = (s.a : Rat) * ((Tu.lst ps).x : Rat) + (s.b : Rat) * ((Tu.lst ps).y : Rat) - (s.c : Rat) * ((Tu.lst ps).den : Rat) := by
  rw [← x1, ← y1]; grind
 rw [e3] at s2
 exact rat_side s2
theorem mid_fit {l : List Rn} {ps : Tu.Pts} (h : Tu.OkL ps) (h0 : ps ≠ []) (hf : ∀ p ∈ ps, fitL l (ptT p)) : fitL l (midT (Tu.lst ps)) :=
 fitL_iff.2 fun s hs => mid_fitS h h0 fun p hp => fitL_iff.1 (hf p hp) s hs
def keep (l : List Rn) (ps : Tu.Pts) : Tu.Pts := ps.filter fun p => decide (fitL l (ptT p))
theorem keep_fit {l : List Rn} {ps : Tu.Pts} : ∀ p ∈ keep l ps, fitL l (ptT p) := fun p hp => by simpa using (List.mem_filter.1 hp).2
theorem keep_sub {l : List Rn} {ps : Tu.Pts} (h : Tu.OkL ps) : Tu.OkL (keep l ps) := fun p hp => h p (List.mem_filter.1 hp).1
theorem keep_len {l : List Rn} {ps : Tu.Pts} : (keep l ps).length ≤ ps.length := List.length_filter_le _ _
theorem keep_yes {l : List Rn} {ps : Tu.Pts} {i : Nat} (h : i < ps.length) (hf : fitL l (ptT (ps.getD i (0, 0)))) : keep l (ps.take (i + 1)) = keep l (ps.take i) ++ [ps.getD i (0, 0)] := by
 unfold keep; rw [List.take_add_one, List.filter_append]; simp [h, List.getD_eq_getElem?_getD] at hf ⊢; exact hf
theorem keep_no {l : List Rn} {ps : Tu.Pts} {i : Nat} (h : i < ps.length) (hf : ¬ fitL l (ptT (ps.getD i (0, 0)))) : keep l (ps.take (i + 1)) = keep l (ps.take i) := by
 unfold keep; rw [List.take_add_one, List.filter_append]; simp [h, List.getD_eq_getElem?_getD] at hf ⊢; exact hf
theorem keep_chk {l : List Rn} {ps : Tu.Pts} (h : Tu.OkL ps) (hl : ps.length ≤ 24) (h0 : keep l ps ≠ []) : Tu.chkL (keep l ps) = 0 := by
 have := keep_len (l := l) (ps := ps)
 have := List.length_pos_iff.2 h0
 unfold Tu.chkL; rw [if_neg (by omega), if_pos (keep_sub h)]
theorem chkL_0 {ps : Tu.Pts} (h : Tu.chkL ps = 0) : Tu.OkL ps ∧ 1 ≤ ps.length ∧ ps.length ≤ 24 := by
 unfold Tu.chkL at h
 split at h
 ·omega
 ·split at h
  ·exact ⟨by assumption, by omega⟩
  ·omega
theorem chkFit_fit {l : List Rn} {t : Tru} (h : chkRs l = 0) (ht : OkT t) : chkFit l t = 0 ↔ fitL l t := by
 unfold chkFit
 rw [if_neg (by omega), if_pos ht]
 split
 ·simp_all
 ·simp_all
theorem le_two {l : List Rn} {p q : Int} (h : chkRs l = 0) (hp : OkN p) (hq : OkN q) {t : Tru} (ht : 0 < t.d) (hf : fitL l t) : leE l p q = 0 ∨ leE l p q = 5 := by
 have h1 : ¬ chkA l p q ≠ 0 := by unfold chkA; rw [if_neg (by omega), if_pos ⟨hp, hq⟩]; omega
 have h2 : ¬ Dbt (sds l) := fun hd => hd.no ht (fitL_iff.1 hf)
 rcases Decidable.em (Bnd (sds l) p q) with hb | hb
 ·exact .inl (leE_0 h1 h2 hb)
 ·exact .inr (leE_5 h1 h2 hb)
theorem bound_le {l : List Rn} {p q : Int} (h : leE l p q = 0) {y : Sd × Int} (hm : MostI (sds l) p q y) {t : Tru} (ht : 0 < t.d) (hf : fitL l t) : ¬ (red (p * t.a + q * t.b) t.d).1 * (red y.1.c y.2).2 < (red y.1.c y.2).1 * (red (p * t.a + q * t.b) t.d).2 := by
 obtain ⟨h1, h2, h3, h4, h5, h6⟩ := leE_ok h
 have hy := (hm.ok h1 h3 h4).t
 rw [red_lt ht hy.1]
 rcases hm.mem with ⟨rfl, rfl, rfl⟩ | ⟨_, hy2⟩
 ·simp [sd0]
 ·have := mst_weak hy2 (fitL_iff.1 hf)
  omega
theorem val_bd {p q : Int} (hp : OkN p) (hq : OkN q) {c : Tu.Cir} (h : Tu.OkR c) : (-20000000000 ≤ (red (p * c.x + q * c.y) c.den).1 ∧ (red (p * c.x + q * c.y) c.den).1 ≤ 20000000000) ∧ 0 < (red (p * c.x + q * c.y) c.den).2 ∧ (red (p * c.x + q * c.y) c.den).2 ≤ 262144 := by
 have h1 := mul_bd (A := 20) (B := 268435456) hp h.x
 have h2 := mul_bd (A := 20) (B := 268435456) hq h.y
 have h3 := h.den
 obtain ⟨g, hg, e1, e2, e3, e4, e5⟩ := red_parts (p * c.x + q * c.y) (show 0 < c.den by omega)
 unfold ab at e5
 omega
end Go.Proofs.YtnehaifgcegemaaGreat
namespace Go.TX
open Go Go.TH
noncomputable section
variable {ρ : Ren} {N : Nat} {env : Tr SV} {a : Act} {P : Program} {D : Nat → Prop} {st st' : St} {w : World}
def ptS (P : Program) (T : TypeId) (l : List SV) (o : Nat) : Option SV := match isAggB P T with
 | some true => match szv P T with
  | some n => subK l o n fun vs => some (.agg vs)
  | none => none
 | some false => nth l o
 | none => none
theorem ptS_ok {T : Nat} {l : List SV} {us : List Value} {o : Nat} {v : SV} (hl : RelL ρ l us) (h : ptS P T l o = some v) : ∃ u, (part T us.toArray o).run P w = .ok u w ∧ Rel ρ v u := by
 unfold ptS at h
 split at h
 ·rename_i hagg
  split at h
  ·rename_i n hn
   obtain ⟨h1, h2⟩ := subK_some h
   simp only [Option.some.injEq] at h2
   subst h2
   refine ⟨.agg ((us.drop o).take n).toArray, ?_, by rw [Rel]; exact ⟨_, (hl.drop o).take n, rfl⟩⟩
   simp only [part, Sem.run_bind, run_isAgg hagg, Result.andThen_ok, if_true, TH.run_sizeOf hn]
   simp [List.extract_eq_take_drop]
  ·cases h
 ·rename_i hagg
  rw [nth_eq] at h
  obtain ⟨u, hu, hr⟩ := hl.at h
  refine ⟨u, ?_, hr⟩
  simp only [part, Sem.run_bind, run_isAgg hagg, Result.andThen_ok]
  simp [hu]
 ·cases h
def fdS (P : Program) (T f : Nat) (x : SV) : Option SV := match x with
 | .agg l => match P.underlying T with
  | some (.struct fs) => match fs[f]? with
   | some fd => ptS P fd.type l fd.offset
   | none => none
  | _ => none
 | _ => none
theorem fdS_ok {T f : Nat} {x v : SV} {u : Value} (hx : Rel ρ x u) (h : fdS P T f x = some v) : ∃ z, (Instr.field T u f).run P w = .ok z w ∧ Rel ρ v z := by
 cases x <;> simp only [fdS] at h <;> try (cases h; done)
 rename_i l
 rw [Rel] at hx
 obtain ⟨us, hl, rfl⟩ := hx
 split at h
 ·rename_i fs hu
  split at h
  ·rename_i fd hf
   obtain ⟨z, h1, h2⟩ := ptS_ok (w := w) hl h
   refine ⟨z, ?_, h2⟩
   simp [Instr.field, run_underlying hu, hf, asAgg, h1]
  ·cases h
 ·cases h
def ixS (P : Program) (T : Nat) (x i : SV) : Option SV := match x with
 | .agg l => match i with
  | .raw (.int _ (.ofNat i)) => match arT P T with
   | some (len, e, sz) => bif Nat.blt i len then ptS P e l (i * sz) else none
   | none => none
  | _ => none
 | .raw u => match i with
  | .raw z => match pv P (Instr.index T u z) with
   | some (.int k n) => some (.raw (.int k n))
   | _ => none
  | _ => none
 | _ => none
theorem ixS_ok {T : Nat} {x i v : SV} {u z : Value} (hx : Rel ρ x u) (hi : Rel ρ i z) (h : ixS P T x i = some v) : ∃ q, (Instr.index T u z).run P w = .ok q w ∧ Rel ρ v q := by
 unfold ixS at h
 split at h
 ·rename_i l
  rw [Rel] at hx
  obtain ⟨us, hl, rfl⟩ := hx
  split at h
  ·rename_i k i'
   rw [Rel] at hi
   subst hi
   split at h
   ·rename_i len e sz har
    have hA := arT_ok har
    cases h1 : Nat.blt i' len with
    | false => rw [h1] at h; cases h
    | true =>
     rw [h1, cond_true] at h
     have h1 := Nat.blt_eq.mp h1
     obtain ⟨q, h2, h3⟩ := ptS_ok (w := w) hl h
     refine ⟨q, ?_, h3⟩
     have g1 : (i' : Int) < (len : Int) := by omega
     simp [Instr.index, asIntOf, run_underlying hA.u, g1, h1, TH.run_sizeOf hA.size, h2]
   ·cases h
  ·cases h
 ·rename_i u0
  rw [Rel] at hx
  subst hx
  split at h
  ·rename_i z0
   rw [Rel] at hi
   subst hi
   split at h
   ·rename_i k n hp
    simp only [Option.some.injEq] at h
    exact ⟨_, pv_run hp w, by rw [← h, Rel]⟩
   ·cases h
  ·cases h
 ·cases h
def exS (x : SV) (i : Nat) : Option SV := match x with
 | .tup l => nth l i
 | _ => none
theorem exS_ok {x v : SV} {i : Nat} {u : Value} (hx : Rel ρ x u) (h : exS x i = some v) : ∃ z, (Instr.extract u i).run P w = .ok z w ∧ Rel ρ v z := by
 cases x <;> simp only [exS] at h <;> try (cases h; done)
 rename_i l
 rw [Rel] at hx
 obtain ⟨us, hl, rfl⟩ := hx
 rw [nth_eq] at h
 obtain ⟨z, hz, hr⟩ := hl.at h
 exact ⟨z, by simp [Instr.extract, hz], hr⟩
def lnS (P : Program) (T : Nat) (x : SV) (st : St) : Option (SV × St) := match P.underlying T with
 | some (.slice _) => match x with
  | .sl _ _ n _ => some (.raw (.int .i64 (.ofNat n)), st)
  | .sl0 => some (.raw (.int .i64 0), st)
  | .raw (.slice _ n _) => some (.raw (.int .i64 (.ofNat n)), st)
  | _ => none
 | some (.map _ _) => match x with
  | .raw (.map none) => some (.raw (.int .i64 0), st)
  | .map b => match st with
   | ⟨h, nx, bs, R, W⟩ => match h.get b with
    | some (.map es _) => insK bs b R fun R' => natK (llen es) fun n => some (.raw (.int .i64 (.ofNat n)), ⟨h, nx, bs, R', W⟩)
    | _ => none
  | _ => none
 | _ => none
theorem MRel.len {es : List SEnt} : ∀ {ms : List MapEntry}, MRel ρ es ms → ms.length = es.length := by
 induction es with
 | nil => intro ms h; rw [MRel] at h; rw [h]; rfl
 | cons e es ih => intro ms h; rw [MRel] at h; obtain ⟨m, r, rfl, _, _, _, h5⟩ := h; simp [ih h5]
theorem lnS_ok {T ty : Nat} {x v : SV} {u : Value} (hx : Rel ρ x u) (h : lnS P T x st = some (v, st')) (hs : Sim ρ D st w) (hD : ∀ x, x ∈ st'.R ∨ st.base ≤ x → D x) : Did P ρ D st st' w v (Builtin.len_ #[T] ty #[u]) := by
 unfold lnS at h
 split at h
 ·rename_i e hu
  split at h <;> try (cases h; done)
  ·simp only [Option.some.injEq, Prod.mk.injEq] at h
   obtain ⟨e1, e2⟩ := h
   subst e2
   rw [Rel] at hx
   obtain ⟨_, _, _, _, _, rfl⟩ := hx
   exact Did.pure hs (by simp [Builtin.len_, run_underlying hu, goInt]; rfl) (by rw [← e1, Rel]; first | done | rfl)
  ·simp only [Option.some.injEq, Prod.mk.injEq] at h
   obtain ⟨e1, e2⟩ := h
   subst e2
   rw [Rel] at hx
   obtain ⟨_, _, rfl⟩ := hx
   exact Did.pure hs (by simp [Builtin.len_, run_underlying hu, goInt]; rfl) (by rw [← e1, Rel]; first | done | rfl)
  ·simp only [Option.some.injEq, Prod.mk.injEq] at h
   obtain ⟨e1, e2⟩ := h
   subst e2
   rw [Rel] at hx
   subst hx
   exact Did.pure hs (by simp [Builtin.len_, run_underlying hu, goInt]; rfl) (by rw [← e1, Rel]; first | done | rfl)
 ·rename_i kt et hu
  split at h <;> try (cases h; done)
  ·simp only [Option.some.injEq, Prod.mk.injEq] at h
   obtain ⟨e1, e2⟩ := h
   subst e2
   rw [Rel] at hx
   subst hx
   exact Did.pure hs (by simp [Builtin.len_, run_underlying hu, goInt]; rfl) (by rw [← e1, Rel]; first | done | rfl)
  ·rename_i b
   cases st with
   | mk hh nx bs R W =>
    simp only at h
    split at h
    ·rename_i es c hg
     rw [insK_eq, natK_eq] at h
     simp only [Option.some.injEq, Prod.mk.injEq] at h
     obtain ⟨e1, e2⟩ := h
     rw [Rel] at hx
     obtain ⟨B, s, hb, rfl⟩ := hx
     have hd : D b := hD b (by rw [← e2]; exact ins_has _ _ _)
     obtain ⟨b', s', ob, q1, q2, ms, rfl, q4⟩ := hs.live b _ hd hg
     rw [hb] at q1; cases q1
     refine ⟨.int .i64 (ms.length : Int), w, ρ, ?_, ?_, by rw [← e2]; exact Step.touch hs (ins_sub _ _ _) fun _ h => h⟩
     ·simp [Builtin.len_, run_underlying hu, goInt, getObj, Sem.run, q2]
     ·rw [← e1, Rel, q4.len, llen_eq]; rfl
    ·cases h
 ·cases h
def kEq : IntKind → IntKind → Bool
 | .i8, .i8 => true | .i16, .i16 => true | .i32, .i32 => true | .i64, .i64 => true
 | .u8, .u8 => true | .u16, .u16 => true | .u32, .u32 => true | .u64, .u64 => true
 | _, _ => false
theorem kEq_eq {k k' : IntKind} (h : kEq k k' = true) : k = k' := by cases k <;> cases k' <;> first | rfl | cases h
def kmax : IntKind → Nat
 | .i8 => 127 | .i16 => 32767 | .i32 => 2147483647 | .i64 => 9223372036854775807
 | .u8 => 255 | .u16 => 65535 | .u32 => 4294967295 | .u64 => 18446744073709551615
def ksg : IntKind → Bool
 | .i8 => true | .i16 => true | .i32 => true | .i64 => true
 | _ => false
def wrapF (k : IntKind) (n : Int) : Int := match n with
 | .ofNat m => bif Nat.ble m (kmax k) then .ofNat m else k.wrap n
 | .negSucc m => bif ksg k && Nat.ble m (kmax k) then .negSucc m else k.wrap n
theorem fits_of {k : IntKind} {m : Nat} (h : m ≤ kmax k) : Fits k m := by
 cases k <;> simp only [kmax] at h <;> simp [Fits, room, IntKind.bits, IntKind.signed] <;> omega
theorem wrap_pos {k : IntKind} {m : Nat} (h : m ≤ kmax k) : k.wrap (m : Int) = m := wrap_nat (fits_of h)
theorem kbits (k : IntKind) (hk : ksg k = true) : k.signed = true ∧ (2 ^ k.bits : Int) = 2 * 2 ^ (k.bits - 1) ∧ ((kmax k : Nat) : Int) + 1 = 2 ^ (k.bits - 1) := by
 cases k <;> first | (cases hk; done) | exact ⟨rfl, rfl, rfl⟩
theorem wrap_neg {k : IntKind} {m : Nat} (hk : ksg k = true) (h : m ≤ kmax k) : k.wrap (Int.negSucc m) = Int.negSucc m := by
 obtain ⟨h1, h2, h3⟩ := kbits k hk
 unfold IntKind.wrap
 rw [h2]
 generalize (2 ^ (k.bits - 1) : Int) = H at *
 have e : Int.negSucc m % (2 * H) = Int.negSucc m + 2 * H := by
  rw [← Int.add_emod_right]
  exact Int.emod_eq_of_lt (by rw [Int.negSucc_eq]; omega) (by rw [Int.negSucc_eq]; omega)
 simp only [e, h1, Bool.true_and]
 rw [if_pos (by rw [decide_eq_true_eq, Int.negSucc_eq]; omega)]
 omega
theorem wrapF_eq (k : IntKind) (n : Int) : wrapF k n = k.wrap n := by
 cases n with
 | ofNat m =>
  simp only [wrapF]
  cases h : Nat.ble m (kmax k) with
  | false => rfl
  | true => exact (wrap_pos (Nat.ble_eq.mp h)).symm
 | negSucc m =>
  simp only [wrapF]
  cases h : ksg k && Nat.ble m (kmax k) with
  | false => rfl
  | true =>
   rw [Bool.and_eq_true] at h
   exact (wrap_neg h.1 (Nat.ble_eq.mp h.2)).symm
def ilt : Int → Int → Bool
 | .ofNat m, .ofNat n => Nat.blt m n
 | .ofNat _, .negSucc _ => false
 | .negSucc _, .ofNat _ => true
 | .negSucc m, .negSucc n => Nat.blt n m
theorem ilt_eq (x y : Int) : ilt x y = decide (x < y) := by
 rw [Bool.eq_iff_iff, decide_eq_true_eq]
 cases x <;> cases y <;> simp only [ilt, Nat.blt_eq, Bool.false_eq_true, true_iff, false_iff, Int.ofNat_eq_natCast, Int.negSucc_eq] <;> omega
def ieq : Int → Int → Bool
 | .ofNat m, .ofNat n => Nat.beq m n
 | .negSucc m, .negSucc n => Nat.beq m n
 | _, _ => false
theorem ieq_eq (x y : Int) : ieq x y = decide (x = y) := by
 rw [Bool.eq_iff_iff, decide_eq_true_eq]
 cases x <;> cases y <;> simp [ieq]
 omega
def intV (k : IntKind) (n : Int) : Option SV := intK n fun n' => some (.raw (.int k n'))
theorem intV_eq (k : IntKind) (n : Int) : intV k n = some (.raw (.int k n)) := by simp only [intV, intK_eq]
def boolV (b : Bool) : Option SV := match b with
 | true => some (.raw (.bool true))
 | false => some (.raw (.bool false))
theorem boolV_eq (b : Bool) : boolV b = some (.raw (.bool b)) := by cases b <;> rfl
def isZ : Int → Bool
 | .ofNat 0 => true
 | _ => false
theorem isZ_eq {n : Int} (h : isZ n = false) : n ≠ 0 := by
 rintro rfl; cases h
def ibS (op : BinOp) (k : IntKind) (x : Int) (k' : IntKind) (y : Int) : Option SV := match op with
 | .add => bif kEq k k' then intV k (wrapF k (Int.add x y)) else none
 | .sub => bif kEq k k' then intV k (wrapF k (Int.sub x y)) else none
 | .mul => bif kEq k k' then intV k (wrapF k (Int.mul x y)) else none
 | .quo => bif kEq k k' then (bif isZ y then none else intV k (wrapF k (Int.tdiv x y))) else none
 | .rem => bif kEq k k' then (bif isZ y then none else intV k (Int.tmod x y)) else none
 | .lss => bif kEq k k' then boolV (ilt x y) else none
 | .gtr => bif kEq k k' then boolV (ilt y x) else none
 | .leq => bif kEq k k' then boolV (!ilt y x) else none
 | .geq => bif kEq k k' then boolV (!ilt x y) else none
 | .eql => bif kEq k k' then boolV (ieq x y) else none
 | .neq => bif kEq k k' then boolV (!ieq x y) else none
 | .and => bif kEq k k' then (match x with
  | .ofNat m => match y with
   | .ofNat n => bif Nat.ble m (kmax k) && Nat.ble n (kmax k) then intV k (.ofNat (Nat.land m n)) else none
   | _ => none
  | _ => none) else none
 | .or => bif kEq k k' then (match x with
  | .ofNat m => match y with
   | .ofNat n => bif Nat.ble m (kmax k) && Nat.ble n (kmax k) then intV k (.ofNat (Nat.lor m n)) else none
   | _ => none
  | _ => none) else none
 | .xor => bif kEq k k' then (match x with
  | .ofNat m => match y with
   | .ofNat n => bif Nat.ble m (kmax k) && Nat.ble n (kmax k) then intV k (.ofNat (Nat.xor m n)) else none
   | _ => none
  | _ => none) else none
 | .andNot => bif kEq k k' then (match x with
  | .ofNat m => match y with
   | .ofNat n => bif Nat.ble m (kmax k) && Nat.ble n (kmax k) then intV k (.ofNat (Nat.xor m (Nat.land m n))) else none
   | _ => none
  | _ => none) else none
 | .shl => match x with
  | .ofNat m => match y with
   | .ofNat s => bif Nat.ble s k.bits then intV k (wrapF k (.ofNat (Nat.shiftLeft m s))) else none
   | _ => none
  | _ => none
 | .shr => match x with
  | .ofNat m => match y with
   | .ofNat s => bif Nat.ble s k.bits then intV k (.ofNat (Nat.shiftRight m s)) else none
   | _ => none
  | _ => none
end
end Go.TX
namespace Go.TH
open Go
section
variable {P : Program} {C : Cx P} {E : Env} {H : List HP}
variable {ops : Array Oper} {K : KP} {rest : List Oper} {d : Nat} {ty : TypeId} {pos : String} {af : Array Edge} {x y : Operand} {T T' : TypeId} {k : IntKind} {a b : Nat}
theorem bv_andNot {n : Nat} (x y : BitVec n) : x &&& ~~~y = x ^^^ (x &&& y) := by
 apply BitVec.eq_of_getLsbD_eq
 intro i hi
 simp [hi]
 cases x[i] <;> cases y[i] <;> rfl
end
end Go.TH
namespace Go.TX
open Go Go.TH
noncomputable section
variable {ρ : Ren} {N : Nat} {env : Tr SV} {a : Act} {P : Program} {D : Nat → Prop} {st st' : St} {w : World}
def opT (op : BinOp) (T : TypeId) (xo yo : Operand) (u z : Value) : Sem Value := do eqGuard op T xo yo u z; binOp op T u z
theorem ble2 {m n k : Nat} (h : (Nat.ble m k && Nat.ble n k) = true) : m ≤ k ∧ n ≤ k := by
 rw [Bool.and_eq_true] at h
 exact ⟨Nat.ble_eq.mp h.1, Nat.ble_eq.mp h.2⟩
def arF (op : BinOp) (x y : Int) : Option Int := match op with | .add => some (x + y) | .sub => some (x - y) | .mul => some (x * y) | _ => none
def cmF (op : BinOp) (x y : Int) : Option Bool := match op with | .lss => some (ilt x y) | .gtr => some (ilt y x) | .leq => some (!ilt y x) | .geq => some (!ilt x y) | .eql => some (ieq x y) | .neq => some (!ieq x y) | _ => none
def dvF (op : BinOp) (k : IntKind) (x y : Int) : Option Int := match op with | .quo => some (k.wrap (x.tdiv y)) | .rem => some (x.tmod y) | _ => none
def btF (op : BinOp) (m n : Nat) : Option Nat := match op with | .and => some (m &&& n) | .or => some (m ||| n) | .xor => some (m ^^^ n) | .andNot => some (m ^^^ (m &&& n)) | _ => none
def shF (op : BinOp) (k : IntKind) (m s : Nat) : Option Int := match op with | .shl => some (k.wrap ((m <<< s : Nat) : Int)) | .shr => some ((m >>> s : Nat) : Int) | _ => none
theorem op_arith {op : BinOp} {k : IntKind} {x y n : Int} (h : arF op x y = some n) (T : TypeId) (xo yo : Operand) : (opT op T xo yo (.int k x) (.int k y)).run P w = .ok (.int k (k.wrap n)) w := by
 cases op <;> simp only [arF, Option.some.injEq, reduceCtorEq] at h <;> subst h <;> simp [opT, eqGuard, binOp, Op.intArith]
theorem op_cmp {op : BinOp} {k : IntKind} {x y : Int} {b : Bool} (h : cmF op x y = some b) (T : TypeId) (xo yo : Operand) :
 (opT op T xo yo (.int k x) (.int k y)).run P w = .ok (.bool b) w := by
 cases op <;> simp only [cmF, Option.some.injEq, reduceCtorEq] at h <;> subst h <;> simp [opT, eqGuard, binOp, Op.intCmp, ilt_eq, ieq_eq]
 ·by_cases q : x = y <;> simp [q]
 ·by_cases q : x = y <;> simp [q]
 ·rw [Bool.eq_iff_iff]; simp
 ·rw [Bool.eq_iff_iff]; simp
theorem op_div {op : BinOp} {k : IntKind} {x y n : Int} (hy : y ≠ 0) (h : dvF op k x y = some n) (T : TypeId) (xo yo : Operand) : (opT op T xo yo (.int k x) (.int k y)).run P w = .ok (.int k n) w := by
 cases op <;> simp only [dvF, Option.some.injEq, reduceCtorEq] at h <;> subst h <;> simp [opT, eqGuard, binOp, Op.intDiv, hy]
theorem op_bits {op : BinOp} {k : IntKind} {m n r : Nat} (hm : m ≤ kmax k) (hn : n ≤ kmax k) (h : btF op m n = some r) (T : TypeId) (xo yo : Operand) :
 (opT op T xo yo (.int k (m : Int)) (.int k (n : Int))).run P w = .ok (.int k (r : Int)) w := by
 have ha := fits_of hm
 have hb := fits_of hn
 cases op <;> simp only [btF, Option.some.injEq, reduceCtorEq] at h <;> subst h
 ·simp [opT, eqGuard, binOp, Op.intBits, mod_fits ha, mod_fits hb]
  exact_mod_cast wrap_nat (k := k) (a := m &&& n) ha.and
 ·simp [opT, eqGuard, binOp, Op.intBits, mod_fits ha, mod_fits hb]
  exact_mod_cast wrap_nat (k := k) (a := m ||| n) (ha.or hb)
 ·simp [opT, eqGuard, binOp, Op.intBits, mod_fits ha, mod_fits hb]
  exact_mod_cast wrap_nat (k := k) (a := m ^^^ n) (ha.xor hb)
 ·simp [opT, eqGuard, binOp, Op.intBits, bv_andNot, mod_fits ha, mod_fits hb]
  exact_mod_cast wrap_nat (k := k) (a := m ^^^ (m &&& n)) (ha.xor ha.and)
theorem op_shift {op : BinOp} {k k' : IntKind} {m s : Nat} {r : Int} (hs : s ≤ k.bits) (h : shF op k m s = some r) (T : TypeId) (xo yo : Operand) :
 (opT op T xo yo (.int k (m : Int)) (.int k' (s : Int))).run P w = .ok (.int k r) w := by
 have h0 : ¬ ((s : Int) < 0) := by omega
 cases op <;> simp only [shF, Option.some.injEq, reduceCtorEq] at h <;> subst h
 ·simp [opT, eqGuard, binOp, Op.shift, h0, Nat.min_eq_left hs, Nat.shiftLeft_eq]
 ·simp [opT, eqGuard, binOp, Op.shift, h0, Nat.min_eq_left hs, Nat.shiftRight_eq_div_pow]
  rw [Int.fdiv_eq_ediv_of_nonneg _ (by exact_mod_cast Nat.zero_le (2 ^ s))]
theorem kEq_of {α : Type} {k k' : IntKind} {x : Option α} {v : α} (h : (bif kEq k k' then x else none) = some v) : k = k' ∧ x = some v := by
 cases hk : kEq k k' with
 | false => rw [hk] at h; cases h
 | true => rw [hk] at h; exact ⟨kEq_eq hk, h⟩
theorem bif_of {α : Type} {b : Bool} {x : Option α} {v : α} (h : (bif b then x else none) = some v) : b = true ∧ x = some v := by
 cases b with
 | false => cases h
 | true => exact ⟨rfl, h⟩
theorem bif_no {α : Type} {b : Bool} {x : Option α} {v : α} (h : (bif b then none else x) = some v) : b = false ∧ x = some v := by
 cases b with
 | true => cases h
 | false => exact ⟨rfl, h⟩
theorem two_of {α : Type} {x y : Int} {f : Nat → Nat → Option α} {v : α} (h : (match x with | .ofNat m => (match y with | .ofNat n => f m n | _ => none) | _ => none) = some v) : ∃ m n : Nat, x = (m : Int) ∧ y = (n : Int) ∧ f m n = some v := by
 cases x <;> cases y <;> simp only [reduceCtorEq] at h
 exact ⟨_, _, rfl, rfl, h⟩
theorem ibS_ok {op : BinOp} {k k' : IntKind} {x y : Int} {v : SV} (h : ibS op k x k' y = some v) (T : TypeId) (xo yo : Operand) : ∃ u, (opT op T xo yo (.int k x) (.int k' y)).run P w = .ok u w ∧ v = .raw u := by
 have arith : ∀ {n : Int}, k = k' ∧ intV k (wrapF k n) = some v → arF op x y = some n → ∃ u, (opT op T xo yo (.int k x) (.int k' y)).run P w = .ok u w ∧ v = .raw u := by
  rintro n ⟨rfl, g⟩ hn
  rw [intV_eq, wrapF_eq, Option.some.injEq] at g
  exact ⟨_, op_arith hn T xo yo, g.symm⟩
 have cmp : ∀ {b : Bool}, k = k' ∧ boolV b = some v → cmF op x y = some b → ∃ u, (opT op T xo yo (.int k x) (.int k' y)).run P w = .ok u w ∧ v = .raw u := by
  rintro b ⟨rfl, g⟩ hb
  rw [boolV_eq, Option.some.injEq] at g
  exact ⟨_, op_cmp hb T xo yo, g.symm⟩
 have bits : ∀ {f : Nat → Nat → Nat}, (k = k' ∧ ∃ m n : Nat, x = (m : Int) ∧ y = (n : Int) ∧ (bif Nat.ble m (kmax k) && Nat.ble n (kmax k) then intV k (.ofNat (f m n)) else none) = some v) → (∀ m n, btF op m n = some (f m n)) →
  ∃ u, (opT op T xo yo (.int k x) (.int k' y)).run P w = .ok u w ∧ v = .raw u := by
  rintro f ⟨rfl, m, n, rfl, rfl, g⟩ hf
  obtain ⟨hb, g⟩ := bif_of g
  obtain ⟨hm, hn⟩ := ble2 hb
  rw [intV_eq, Option.some.injEq] at g
  exact ⟨_, op_bits hm hn (hf m n) T xo yo, g.symm⟩
 cases op <;> simp only [ibS] at h
 ·exact arith (kEq_of h) rfl
 ·exact arith (kEq_of h) rfl
 ·exact arith (kEq_of h) rfl
 ·obtain ⟨rfl, g⟩ := kEq_of h
  obtain ⟨hz, g⟩ := bif_no g
  rw [intV_eq, wrapF_eq, Option.some.injEq] at g
  exact ⟨_, op_div (isZ_eq hz) rfl T xo yo, g.symm⟩
 ·obtain ⟨rfl, g⟩ := kEq_of h
  obtain ⟨hz, g⟩ := bif_no g
  rw [intV_eq, Option.some.injEq] at g
  exact ⟨_, op_div (isZ_eq hz) rfl T xo yo, g.symm⟩
 ·exact bits ⟨(kEq_of h).1, two_of (kEq_of h).2⟩ fun _ _ => rfl
 ·exact bits ⟨(kEq_of h).1, two_of (kEq_of h).2⟩ fun _ _ => rfl
 ·exact bits ⟨(kEq_of h).1, two_of (kEq_of h).2⟩ fun _ _ => rfl
 ·obtain ⟨m, s, rfl, rfl, g⟩ := two_of h
  obtain ⟨hb, g⟩ := bif_of g
  rw [intV_eq, wrapF_eq, Option.some.injEq] at g
  exact ⟨_, op_shift (Nat.ble_eq.mp hb) rfl T xo yo, g.symm⟩
 ·obtain ⟨m, s, rfl, rfl, g⟩ := two_of h
  obtain ⟨hb, g⟩ := bif_of g
  rw [intV_eq, Option.some.injEq] at g
  exact ⟨_, op_shift (Nat.ble_eq.mp hb) rfl T xo yo, g.symm⟩
 ·exact bits ⟨(kEq_of h).1, two_of (kEq_of h).2⟩ fun _ _ => rfl
 all_goals exact cmp (kEq_of h) rfl
end
end Go.TX
namespace Go.TX
open Go Go.TH
noncomputable section
variable {ρ : Ren} {N : Nat} {env : Tr SV} {a : Act} {P : Program} {D : Nat → Prop} {st st' : St} {w : World}
def raws : List SV → Option (List Value)
 | [] => some []
 | .raw v :: r => match raws r with
  | some l => some (v :: l)
  | none => none
 | _ :: _ => none
def toV : SV → Option Value
 | .raw v => some v
 | .agg l => match raws l with
  | some vs => some (.agg vs.toArray)
  | none => none
 | _ => none
theorem raws_rel : ∀ {l : List SV} {vs us : List Value}, raws l = some vs → RelL ρ l us → us = vs
 | [], vs, us, h, hr => by
  simp only [raws, Option.some.injEq] at h
  rw [RelL] at hr
  rw [hr, h]
 | s :: l, vs, us, h, hr => by
  rw [RelL] at hr
  obtain ⟨v, r, rfl, h1, h2⟩ := hr
  cases s <;> simp only [raws] at h <;> try (cases h; done)
  rw [Rel] at h1
  subst h1
  split at h
  ·rename_i l' hl
   simp only [Option.some.injEq] at h
   subst h
   rw [raws_rel hl h2]
  ·cases h
theorem toV_rel {s : SV} {v u : Value} (h : toV s = some v) (hr : Rel ρ s u) : u = v := by
 cases s <;> simp only [toV] at h <;> try (cases h; done)
 ·rw [Rel] at hr
  simp only [Option.some.injEq] at h
  rw [hr, h]
 ·rw [Rel] at hr
  obtain ⟨us, h1, rfl⟩ := hr
  split at h
  ·rename_i vs hv
   simp only [Option.some.injEq] at h
   subst h
   rw [raws_rel hv h1]
  ·cases h
def valV (v : Value) : Option SV := match v with
 | .int k n => intV k n
 | .bool b => boolV b
 | .agg cs => some (.agg (cs.toList.map .raw))
 | v => some (.raw v)
theorem valV_rel {v : Value} {s : SV} (h : valV v = some s) : Rel ρ s v := by
 cases v <;> simp only [valV, intV_eq, boolV_eq, Option.some.injEq] at h <;> subst h <;> rw [Rel]
 exact ⟨_, RelL.raws _, by simp⟩
def isNil : SV → Bool
 | .raw (.pointer none) => true
 | .raw (.slice none 0 0) => true
 | .raw (.map none) => true
 | .raw .nilFunc => true
 | _ => false
def eqNil (P : Program) (T : TypeId) (x : SV) : Option Bool := match x with
 | .ptr _ _ => match P.underlying T with
  | some (.pointer _) => some false
  | _ => none
 | .sl _ _ _ _ => match P.underlying T with
  | some (.slice _) => some false
  | _ => none
 | .map _ => match P.underlying T with
  | some (.map _ _) => some false
  | _ => none
 | .fn _ _ _ => match P.underlying T with
  | some (.func _ _ _) => some false
  | _ => none
 | _ => none
def nilT (P : Program) (T : TypeId) (x : SV) : Bool := match x with
 | .raw (.pointer none) => match P.underlying T with
  | some (.pointer _) => true
  | _ => false
 | .raw (.slice none 0 0) => match P.underlying T with
  | some (.slice _) => true
  | _ => false
 | .raw (.map none) => match P.underlying T with
  | some (.map _ _) => true
  | _ => false
 | .raw .nilFunc => match P.underlying T with
  | some (.func _ _ _) => true
  | _ => false
 | _ => false
theorem eqNil_ok {T : TypeId} {x y : SV} {u z : Value} {b : Bool} (hx : Rel ρ x u) (hy : Rel ρ y z) (h : eqNil P T x = some b) (hn : nilT P T y = true) :
 (Op.equal T u z).run P w = .ok b w ∧ (Op.equal T z u).run P w = .ok b w := by
 cases x <;> simp only [eqNil] at h <;> try (cases h; done)
 all_goals
  split at h <;> try (cases h; done)
  rename_i hu
  simp only [Option.some.injEq] at h
  subst h
  unfold nilT at hn
  split at hn <;> try (cases hn; done)
  all_goals
   split at hn <;> try (cases hn; done)
   rename_i hu'
   rw [hu] at hu'
   first
    |(cases hu'; done)
    |(simp only [Rel] at hx hy
      subst hy
      first
       |(obtain ⟨_, _, _, rfl⟩ := hx
         constructor <;> (unfold Op.equal; rw [show Op.maxDepth = 9999 + 1 from rfl, Op.equalIn]; simp [run_underlying hu]))
       |(obtain ⟨_, _, _, _, _, rfl⟩ := hx
         constructor <;> (unfold Op.equal; rw [show Op.maxDepth = 9999 + 1 from rfl, Op.equalIn]; simp [run_underlying hu]))
       |(obtain ⟨_, _, _, _, rfl⟩ := hx
         constructor <;> (unfold Op.equal; rw [show Op.maxDepth = 9999 + 1 from rfl, Op.equalIn]; simp [run_underlying hu])))
def boS (P : Program) (op : BinOp) (T : TypeId) (xo yo : Operand) (x y : SV) : Option SV := match x with
 | .raw (.int k m) => match y with
  | .raw (.int k' n) => ibS op k m k' n
  | _ => none
 | x => match toV x with
  | some u => match toV y with
   | some z => match pv P (opT op T xo yo u z) with
    | some v => valV v
    | none => none
   | none => bif isNil x && nilT P T x then (match eqNil P T y with
    | some b => match op with
     | .eql => boolV b
     | .neq => boolV (!b)
     | _ => none
    | none => none) else none
  | none => bif nilT P T y then (match eqNil P T x with
   | some b => match op with
    | .eql => boolV b
    | .neq => boolV (!b)
    | _ => none
   | none => none) else none
theorem opT_eq {op : BinOp} {T : TypeId} {xo yo : Operand} {u z : Value} {b : Bool} {v : SV} (hq : (Op.equal T u z).run P w = .ok b w)  (hg : ∀ op, (eqGuard op T xo yo u z).run P w = .ok () w) (hop : ∀ op, op = .eql ∨ op = .neq → binOp op T u z = (if op = .eql then (do pure (.bool (← Op.equal T u z))) else (do pure (.bool (!(← Op.equal T u z)))))) (h : (match op with | .eql => boolV b | .neq => boolV (!b) | _ => none) = some v) : ∃ r, (opT op T xo yo u z).run P w = .ok r w ∧ Rel ρ v r := by
 cases op <;> simp only [reduceCtorEq] at h
 ·rw [boolV_eq, Option.some.injEq] at h
  refine ⟨.bool b, ?_, by rw [← h, Rel]⟩
  simp only [opT, Sem.run_bind, hg, Result.andThen_ok, hop .eql (.inl rfl), if_true]
  simp [hq]
 ·rw [boolV_eq, Option.some.injEq] at h
  refine ⟨.bool !b, ?_, by rw [← h, Rel]⟩
  simp only [opT, Sem.run_bind, hg, Result.andThen_ok, hop .neq (.inr rfl)]
  simp [hq]
theorem guard_nil {op : BinOp} {T : TypeId} {xo yo : Operand} {x y : SV} {u z : Value} {b : Bool} (hx : Rel ρ x u) (hy : Rel ρ y z) (h : eqNil P T x = some b) (hn : nilT P T y = true) :
 (eqGuard op T xo yo u z).run P w = .ok () w ∧ (eqGuard op T yo xo z u).run P w = .ok () w ∧ (∀ op, op = .eql ∨ op = .neq → binOp op T u z = (if op = .eql then (do pure (.bool (← Op.equal T u z))) else (do pure (.bool (!(← Op.equal T u z)))))) ∧
   (∀ op, op = .eql ∨ op = .neq → binOp op T z u = (if op = .eql then (do pure (.bool (← Op.equal T z u))) else (do pure (.bool (!(← Op.equal T z u)))))) := by
 cases x <;> simp only [eqNil] at h <;> try (cases h; done)
 all_goals
  split at h <;> try (cases h; done)
  unfold nilT at hn
  split at hn <;> try (cases hn; done)
  all_goals
   simp only [Rel] at hx hy
   subst hy
   first
    |(obtain ⟨_, _, _, rfl⟩ := hx
      refine ⟨by cases op <;> simp [eqGuard], by cases op <;> simp [eqGuard], ?_, ?_⟩ <;> (rintro op (rfl | rfl) <;> rfl))
    |(obtain ⟨_, _, _, _, _, rfl⟩ := hx
      refine ⟨by cases op <;> simp [eqGuard], by cases op <;> simp [eqGuard], ?_, ?_⟩ <;> (rintro op (rfl | rfl) <;> rfl))
    |(obtain ⟨_, _, _, _, rfl⟩ := hx
      refine ⟨by cases op <;> simp [eqGuard], by cases op <;> simp [eqGuard], ?_, ?_⟩ <;> (rintro op (rfl | rfl) <;> rfl))
theorem boS_ok {op : BinOp} {T : TypeId} {xo yo : Operand} {x y v : SV} {u z : Value} (hx : Rel ρ x u) (hy : Rel ρ y z) (h : boS P op T xo yo x y = some v) : ∃ r, (opT op T xo yo u z).run P w = .ok r w ∧ Rel ρ v r := by
 unfold boS at h
 split at h
 ·rename_i k m
  split at h
  ·rename_i k' n
   rw [Rel] at hx hy
   subst hx; subst hy
   obtain ⟨r, h1, h2⟩ := ibS_ok (P := P) (w := w) h T xo yo
   exact ⟨r, h1, by rw [h2, Rel]⟩
  ·cases h
 ·split at h
  ·rename_i u' hu
   have eu := toV_rel hu hx
   split at h
   ·rename_i z' hz
    have ez := toV_rel hz hy
    subst eu; subst ez
    split at h
    ·rename_i r hp
     exact ⟨r, pv_run hp w, valV_rel h⟩
    ·cases h
   ·obtain ⟨hb, h⟩ := bif_of h
    rw [Bool.and_eq_true] at hb
    split at h
    ·rename_i b hq
     have h1 := eqNil_ok (w := w) hy hx hq hb.2
     have h2 := fun op => guard_nil (w := w) (op := op) (xo := yo) (yo := xo) hy hx hq hb.2
     exact opT_eq h1.2 (fun op => (h2 op).2.1) (h2 .eql).2.2.2 h
    ·cases h
  ·obtain ⟨hb, h⟩ := bif_of h
   split at h
   ·rename_i b hq
    have h1 := eqNil_ok (w := w) hx hy hq hb
    have h2 := fun op => guard_nil (w := w) (op := op) (xo := xo) (yo := yo) hx hy hq hb
    exact opT_eq h1.1 (fun op => (h2 op).1) (h2 .eql).2.2.1 h
   ·cases h
end
end Go.TX
namespace Go.TX
open Go Go.TH
noncomputable section
variable {ρ : Ren} {N : Nat} {env : Tr SV} {a : Act} {P : Program} {D : Nat → Prop} {st st' : St} {w : World}
def unS (P : Program) (op : UnOp) (x : SV) : Option SV := match op, x with
 | .not, .raw (.bool b) => boolV (!b)
 | op, x => match toV x with
  | some u => match pv P (Op.unary op u) with
   | some v => valV v
   | none => none
  | none => none
theorem unS_ok {op : UnOp} {x v : SV} {u : Value} (hx : Rel ρ x u) (h : unS P op x = some v) : ∃ r, (Op.unary op u).run P w = .ok r w ∧ Rel ρ v r := by
 unfold unS at h
 split at h
 ·rw [Rel] at hx
  subst hx
  rw [boolV_eq, Option.some.injEq] at h
  exact ⟨_, by simp [Op.unary]; rfl, by rw [← h, Rel]⟩
 ·split at h
  ·rename_i u' hu
   have := toV_rel hu hx
   subst this
   split at h
   ·rename_i r hr
    exact ⟨r, pv_run hr w, valV_rel h⟩
   ·cases h
  ·cases h
def intK? (P : Program) (T : TypeId) : Option IntKind := match P.underlying T with
 | some (.int k) => some k
 | _ => none
def cvS (P : Program) (T T' : TypeId) (x : SV) : Option SV := match x with
 | .raw (.int _ n) => match intK? P T' with
  | some k => bif (P.underlying T).isSome then intV k (wrapF k n) else none
  | none => none
 | x => match toV x with
  | some u => match pv P (convert T T' u) with
   | some v => valV v
   | none => none
  | none => none
theorem cvS_ok {T T' : TypeId} {x v : SV} {u : Value} (hx : Rel ρ x u) (h : cvS P T T' x = some v) : ∃ r, (convert T T' u).run P w = .ok r w ∧ Rel ρ v r := by
 unfold cvS at h
 split at h
 ·rename_i k n
  rw [Rel] at hx
  subst hx
  split at h
  ·rename_i k' hk
   unfold intK? at hk
   split at hk
   ·rename_i k2 hu
    simp only [Option.some.injEq] at hk
    subst hk
    obtain ⟨hs, h⟩ := bif_of h
    obtain ⟨ds, hd⟩ := Option.isSome_iff_exists.mp hs
    rw [intV_eq, wrapF_eq, Option.some.injEq] at h
    exact ⟨_, by simp [convert, run_underlying hd, run_underlying hu, Conv.intToInt]; rfl, by rw [← h, Rel]⟩
   ·cases hk
  ·cases h
 ·split at h
  ·rename_i u' hu
   have := toV_rel hu hx
   subst this
   split at h
   ·rename_i r hr
    exact ⟨r, pv_run hr w, valV_rel h⟩
   ·cases h
  ·cases h
def srcK {β : Type} (sz : Nat) (y : SV) (st : St) (k : Nat → List SV → St → Option β) : Option β := match y with
 | .raw (.slice none 0 0) => k 0 [] st
 | .sl0 => k 0 [] st
 | .sl b o n _ => rdK st b fun l _ _ st' => subK l o (n * sz) fun vs => k n vs st'
 | _ => none
structure Src (P : Program) (w : World) (sz : Nat) (z : Value) (n : Nat) (us : List Value) : Prop where
 is : ∃ ad c, z = .slice ad n c ∧ (0 < n → ∃ b o, ad = some ⟨b, o, none⟩ ∧ ∀ j u, us[j]? = some u → w.cell? ((⟨b, o, none⟩ : Addr).add j) = some u)
 len : us.length = n * sz
theorem srcK_ok {β : Type} {sz : Nat} {y : SV} {z : Value} {k : Nat → List SV → St → Option β} {r : β} (hy : Rel ρ y z) (h : srcK sz y st k = some r) (hs : Sim ρ D st w) (hD : ∀ n vs st', k n vs st' = some r → ∀ x, x ∈ st'.R ∨ st.base ≤ x → D x) :
 ∃ n vs us R', k n vs ⟨st.h, st.nx, st.base, R', st.W⟩ = some r ∧ (∀ x, x ∈ st.R → x ∈ R') ∧ RelL ρ vs us ∧ Src P w sz z n us := by
 unfold srcK at h
 split at h
 ·rw [Rel] at hy
  subst hy
  exact ⟨0, [], [], st.R, h, fun _ h => h, RelL.nil, ⟨none, 0, rfl, fun h => absurd h (by omega)⟩, by simp⟩
 ·rw [Rel] at hy
  obtain ⟨ad, c, rfl⟩ := hy
  exact ⟨0, [], [], st.R, h, fun _ h => h, RelL.nil, ⟨ad, c, rfl, fun h => absurd h (by omega)⟩, by simp⟩
 ·rename_i b o n c
  rw [Rel] at hy
  obtain ⟨B, s, cap, hb, _, rfl⟩ := hy
  obtain ⟨l, e, op, hg, h⟩ := rdK_some h
  obtain ⟨hl, h⟩ := subK_some h
  have hd : D b := hD _ _ _ h b (ins_has _ _ _)
  obtain ⟨b', s', pre, us, vs, q1, q2, qz, q3, q4, q5⟩ := hs.row hd hg
  rw [hb] at q1; cases q1
  refine ⟨n, _, (us.drop o).take (n * sz), _, h, ins_sub _ _ _, (q3.drop o).take _, ⟨_, _, rfl, fun _ => ⟨_, _, rfl, cells_of q2 qz⟩⟩, ?_⟩
  have := q3.len
  simp; omega
 ·cases h
theorem run_firstCells_src {sz n : Nat} {z : Value} {us : List Value} (h : Src P w sz z n us) {w' : World} (hc : ∀ p v, w.cell? p = some v → w'.cell? p = some v) : (Builtin.firstCells sz n z).run P w' = .ok us.toArray w' := by
 obtain ⟨⟨ad, c, rfl, ha⟩, hl⟩ := h
 rcases Nat.eq_zero_or_pos n with rfl | hp
 ·have : us = [] := List.eq_nil_of_length_eq_zero (by simpa using hl)
  subst this
  cases ad with
  | none => simp [Builtin.firstCells]
  | some b =>
   have := run_loadCells_list (P := P) w' b [] (by simp)
   simpa [Builtin.firstCells] using this
 ·obtain ⟨b, o, rfl, hh⟩ := ha hp
  exact run_firstCells_some (P := P) w' sz n _ n c us hl (fun j v hv => hc _ _ (hh j v hv))
theorem run_append_in {T e : TypeId} {ty : TypeId} {i : TypeInfo} (hu : P.underlying T = some (.slice e)) (hi : P.info? e = some i) {b o n k : Nat} {cs : List Value} {e' : TypeId} (hg : w.heap[b]? = some (.cells cs.toArray e' (0, 0))) {z : Value} {m : Nat} {news : List Value}
 (hz : Src P w i.size z m news) (h1 : ∀ u ∈ news, u.oneCell' = true) (hroom : n + m ≤ k) (hfit : o + n * i.size + news.length ≤ cs.length) :
 ∃ w', (Builtin.append_ #[T, T] ty #[.slice (some ⟨b, o, none⟩) n k, z]).run P w = .ok (.slice (some ⟨b, o, none⟩) (n + m) k) w' ∧ w'.os = w.os ∧ w'.tape = w.tape ∧ w'.output = w.output ∧ w'.heap.size = w.heap.size ∧
  w'.heap[b]? = some (.cells (wrl cs (o + n * i.size) news).toArray e' (0, 0)) ∧ ∀ q, q ≠ b → w'.heap[q]? = w.heap[q]? := by
 have hf := run_firstCells_src (P := P) hz (w' := w) fun _ _ h => h
 obtain ⟨w', hr, a1, a2, a3, a4, a5, a6⟩ := run_storeCells_own (P := P) (b := b) (off := o + n * i.size) news 0 w cs hg (by simpa using hfit) h1
 refine ⟨w', ?_, a1, a2, a3, a4, by simpa using a5, a6⟩
 obtain ⟨ad, c, rfl, _⟩ := hz.is
 simp [Builtin.append_, run_underlying hu, sizeOf, typeInfo, hi, Builtin.lenOf, hroom, hf, Addr.add_lit, hr]
theorem run_append_new {T e : TypeId} {ty : TypeId} {i : TypeInfo} {zv : Value} (hu : P.underlying T = some (.slice e)) (hi : P.info? e = some i) (hzv : i.zero = some zv) {x : Value} {n k : Nat} {olds : List Value} {ad : Option Addr} (hx : x = .slice ad n k) (hx' : ad = none → n = 0 ∧ k = 0) (ho : ∀ {w' : World}, (∀ p v, w.cell? p = some v → w'.cell? p = some v) → (Builtin.firstCells i.size n x).run P w' = .ok olds.toArray w') {z : Value} {m : Nat} {news : List Value}
 (hz : Src P w i.size z m news) (hm : 0 < m) (hg : k < n + m) (h63 : n + m ≤ 9223372036854775807) (hb : (n + m) * i.bytes ≤ 140737488355328) :
 ∃ c w', n + m ≤ c ∧ (Builtin.append_ #[T, T] ty #[x, z]).run P w = .ok (.slice (some ⟨w.heap.size, 0, none⟩) (n + m) c) w' ∧ w'.os = w.os ∧ w'.tape = w.tape ∧ w'.output = w.output ∧
  w'.heap = w.heap.push (.cells ((olds ++ news) ++ (Builtin.zeroCells zv.cells (c - (n + m))).toList).toArray e (0, 0)) := by
 obtain ⟨⟨az, cz, rfl, ha⟩, hl⟩ := hz
 obtain ⟨b0, o0, rfl, hh⟩ := ha hm
 have hf := run_firstCells_some (P := P) w.drew i.size m ⟨b0, o0, none⟩ m cz news hl (by simpa using hh)
 have ho' := ho (w' := w.drew) fun p v h => by simpa using h
 have hn : ¬ (n + m ≤ k) := by omega
 have h63' : ¬ (9223372036854775807 < ((n : Int) + (m : Int))) := by omega
 have hfit := growslice_fits (bytes := i.bytes) hg hb
 have h48' : ¬ (281474976710656 < Builtin.nextslicecap (n + m) k * i.bytes) := by omega
 subst hx
 refine ⟨grownCap w (n + m) k e, w.drew.alloc (.cells ((olds ++ news) ++ (Builtin.zeroCells zv.cells (grownCap w (n + m) k e - (n + m))).toList).toArray e), grownCap_ge w (n + m) k e, ?_, rfl, rfl, rfl, rfl⟩
 simp [Builtin.append_, run_underlying hu, sizeOf, typeInfo, zeroValue, hi, hzv, Builtin.lenOf, hn, h63', h48', Question.forced, hf, ho', newRow, grownCap]
 congr 2
 apply Array.ext'
 simp [List.append_assoc]
def apC (e sz by' : Nat) (x : SV) (m : Nat) (news : List SV) (st1 : St) : Option (SV × St) := match m with
 | 0 => match x with
  | .raw (.slice none 0 0) => some (x, st1)
  | .sl _ _ n (.kn k) => bif Nat.ble n k then some (x, st1) else none
  | _ => none
 | m' + 1 => bif onesS news then (match x with
  | .raw (.slice none 0 0) => bif Nat.ble ((m' + 1) * by') 140737488355328 && Nat.ble (m' + 1) 9223372036854775807 then
   newK st1 (.cells news e true) fun q st' => natK (m' + 1) fun n' => some (.sl q 0 n' (.rest sz), st')
   else none
  | .sl b o n (.kn k) => bif Nat.ble (n + (m' + 1)) k then
   (rdK st1 b fun l e' op st2 => wrK l (o + n * sz) news fun l' => wtK st2 b (.cells l' e' op) fun st' => natK (n + (m' + 1)) fun n' => some (.sl b o n' (.kn k), st'))
   else (bif Nat.ble ((n + (m' + 1)) * by') 140737488355328 && Nat.ble (n + (m' + 1)) 9223372036854775807 then
    rdK st1 b fun l _ _ st2 => subK l o (n * sz) fun olds => appK olds news fun row => newK st2 (.cells row e true) fun q st' => natK (n + (m' + 1)) fun n' => some (.sl q 0 n' (.rest sz), st')
   else none)
  | .sl b o n (.rest sz') => bif Nat.beq sz sz' && Nat.blt 0 sz then (bif Nat.ble ((n + (m' + 1)) * by') 140737488355328 && Nat.ble (n + (m' + 1)) 9223372036854775807 then
   rdK st1 b fun l e' op st2 => bif op && Nat.beq e' e then (bif Nat.ble (o + (n + (m' + 1)) * sz) (llen l) then none else subK l o (n * sz) fun olds => appK olds news fun row =>
    match st2 with
    | ⟨h, nx, bs, R, W⟩ => h.setK b none fun h1 => h1.setK nx (some (.cells row e true)) fun h2 => natK (Nat.succ nx) fun nx' => insK bs b W fun W' => natK (n + (m' + 1)) fun n' => some (.sl nx 0 n' (.rest sz), ⟨h2, nx', bs, R, W'⟩))
   else none else none) else none
  | _ => none) else none
def apS (P : Program) (T T' : TypeId) (x y : SV) (st : St) : Option (SV × St) := bif Nat.beq T T' then match slT P T with
 | some (e, sz, by', _) => srcK sz y st fun m news st1 => apC e sz by' x m news st1
 | none => none else none
theorem apC_R {e sz by' m : Nat} {x v : SV} {news : List SV} (h : apC e sz by' x m news st = some (v, st')) : ∀ y, y ∈ st.R → y ∈ st'.R := by
 unfold apC at h
 intro y hy
 split at h
 ·split at h
  ·simp only [Option.some.injEq, Prod.mk.injEq] at h; rw [← h.2]; exact hy
  ·obtain ⟨_, h⟩ := bif_of h
   simp only [Option.some.injEq, Prod.mk.injEq] at h; rw [← h.2]; exact hy
  ·cases h
 ·rename_i m'
  have hones := (bif_of h).1
  replace h := (bif_of h).2
  split at h
  ·obtain ⟨_, h⟩ := bif_of h
   simp only [newK_eq, natK_eq, Option.some.injEq, Prod.mk.injEq] at h; rw [← h.2]; exact hy
  ·rename_i b o n k
   cases hb : Nat.ble (n + (m' + 1)) k with
   | true =>
    rw [hb, cond_true] at h
    obtain ⟨l, e', op, hg, h⟩ := rdK_some h
    obtain ⟨hl, h⟩ := wrK_some h
    rw [wtK_eq] at h
    simp only [natK_eq, Option.some.injEq, Prod.mk.injEq] at h; rw [← h.2]; exact ins_sub _ _ _ _ (ins_sub _ _ _ _ hy)
   | false =>
    rw [hb, cond_false] at h
    obtain ⟨_, h⟩ := bif_of h
    obtain ⟨l, e', op, hg, h⟩ := rdK_some h
    obtain ⟨hl, h⟩ := subK_some h
    simp only [appK_eq, newK_eq, natK_eq, Option.some.injEq, Prod.mk.injEq] at h; rw [← h.2]; exact ins_sub _ _ _ _ hy
  ·obtain ⟨_, h⟩ := bif_of h
   obtain ⟨_, h⟩ := bif_of h
   obtain ⟨l, e', op, hg, h⟩ := rdK_some h
   obtain ⟨_, h⟩ := bif_of h
   cases hb : Nat.ble _ (llen l) with
   | true => rw [hb] at h; cases h
   | false =>
    rw [hb, cond_false] at h
    obtain ⟨hl, h⟩ := subK_some h
    simp only [appK_eq, Tr.setK_eq, natK_eq, insK_eq, Option.some.injEq, Prod.mk.injEq] at h; rw [← h.2]; exact ins_sub _ _ _ _ hy
  ·cases h
theorem Did.after {R : List Nat} {v : SV} {s : Sem Value} (hs : Sim ρ D st w) (hR : ∀ x, x ∈ st.R → x ∈ R) (h : Did P ρ D ⟨st.h, st.nx, st.base, R, st.W⟩ st' w v s) : Did P ρ D st st' w v s := by
 obtain ⟨u, w', ρ', h1, h2, h3⟩ := h
 exact ⟨u, w', ρ', h1, h2, ⟨h3.os, h3.tape, h3.output, h3.size, h3.nx, h3.base, fun x hx => h3.sR x (hR x hx), h3.sW, h3.ext, h3.keep, h3.dead, h3.same, h3.fresh, h3.sim⟩⟩
theorem zeroCells_len {z : Array Value} {n : Nat} : (Builtin.zeroCells z n).toList.length = n * z.size := by simp [Builtin.zeroCells]
theorem apC_ok {T e ty : TypeId} {i : TypeInfo} {zv : Value} {x v : SV} {u z : Value} {m : Nat} {news : List SV} {nv : List Value} (hu : P.underlying T = some (.slice e)) (hi : P.info? e = some i) (hzv : i.zero = some zv) (hzs : zv.cells.size = i.size)
 (hx : Rel ρ x u) (hz : Src P w i.size z m nv) (hn : RelL ρ news nv) (h : apC e i.size i.bytes x m news st = some (v, st')) (hs : Sim ρ D st w) (hD : ∀ x, x ∈ st'.R ∨ st.base ≤ x → D x) (hf : Free ρ st.nx st'.nx) :
 Did P ρ D st st' w v (Builtin.append_ #[T, T] ty #[u, z]) := by
 have hzl := hz.len
 unfold apC at h
 split at h
 ·
  have hnil : nv = [] := List.eq_nil_of_length_eq_zero (by simpa using hzl)
  subst hnil
  obtain ⟨⟨az, cz, rfl, _⟩, _⟩ := hz
  split at h
  ·simp only [Option.some.injEq, Prod.mk.injEq] at h
   obtain ⟨rfl, rfl⟩ := h
   rw [Rel] at hx; subst hx
   refine Did.pure hs (u := .slice none 0 0) ?_ (by rw [Rel])
   cases az with
   | none => simp [Builtin.append_, run_underlying hu, sizeOf, typeInfo, hi, Builtin.lenOf, Builtin.firstCells]
   | some b =>
    have : (loadCells b 0).run P w = .ok #[] w := by simpa using run_loadCells_list (P := P) w b [] (by simp)
    simp [Builtin.append_, run_underlying hu, sizeOf, typeInfo, hi, Builtin.lenOf, Builtin.firstCells, this]
  ·rename_i b o n k
   have hb := (bif_of h).1
   replace h := (bif_of h).2
   have hb := Nat.ble_eq.mp hb
   simp only [Option.some.injEq, Prod.mk.injEq] at h
   obtain ⟨rfl, rfl⟩ := h
   have hx0 := hx
   rw [Rel] at hx
   obtain ⟨B, s, cap, hB, hc, rfl⟩ := hx
   simp only [CapR] at hc
   subst hc
   refine Did.pure hs (u := .slice (some ⟨B, s.1 + o, none⟩) n cap) ?_ hx0
   have h0 : (storeCells ((⟨B, s.1 + o, none⟩ : Addr).add (n * i.size)) []).run P w = .ok () w := by simp [storeCells]
   cases az with
   | none => simp [Builtin.append_, run_underlying hu, sizeOf, typeInfo, hi, Builtin.lenOf, Builtin.firstCells, hb, h0]
   | some b =>
    have : (loadCells b 0).run P w = .ok #[] w := by simpa using run_loadCells_list (P := P) w b [] (by simp)
    simp [Builtin.append_, run_underlying hu, sizeOf, typeInfo, hi, Builtin.lenOf, Builtin.firstCells, this, hb, h0]
  ·cases h
 ·rename_i m'
  have hones := (bif_of h).1
  replace h := (bif_of h).2
  have h1 := hn.ones hones
  have hnl := hn.len
  split at h
  ·
   have hb := (bif_of h).1
   replace h := (bif_of h).2
   obtain ⟨hb1, hb2⟩ := by rw [Bool.and_eq_true] at hb; exact hb
   have hb1 := Nat.ble_eq.mp hb1
   have hb2 := Nat.ble_eq.mp hb2
   simp only [newK_eq, natK_eq, Option.some.injEq, Prod.mk.injEq] at h
   obtain ⟨e1, e2⟩ := h
   have hne : ρ st.nx = none := hf _ (Nat.le_refl _) (by rw [← e2]; exact Nat.lt_succ_self _)
   rw [Rel] at hx; subst hx
   obtain ⟨c, w', hc, hr, a1, a2, a3, a4⟩ := run_append_new (P := P) (ty := ty) (w := w) (olds := []) (ad := none) (n := 0) (k := 0) hu hi hzv rfl (fun _ => ⟨rfl, rfl⟩) (fun {w'} _ => by simp [Builtin.firstCells]) hz (Nat.succ_pos _) (by omega) (by omega) (by rw [Nat.zero_add]; exact hb1)
   simp only [List.nil_append, Nat.zero_add] at hr a4 hc
   refine Did.new (n := (0, c * i.size)) hs hf e2.symm hr ⟨[], nv, (Builtin.zeroCells zv.cells (c - (m' + 1))).toList, rfl, rfl, hn.mono (Ren.put_le hne), (fun h => by cases h), ?_⟩ a1 a2 a3 a4 ?_
   ·rw [hzl, zeroCells_len, hzs, ← Nat.add_mul]; congr 1; omega
   ·rw [← e1, Rel]; exact ⟨_, _, c, Ren.put_at, by simp [CapR], rfl⟩
  ·rename_i b o n k
   have hx0 := hx
   rw [Rel] at hx
   obtain ⟨B, s, cap, hB, hc, rfl⟩ := hx
   simp only [CapR] at hc
   subst hc
   cases hb : Nat.ble (n + (m' + 1)) cap with
   | true =>
    rw [hb, cond_true] at h
    have hb := Nat.ble_eq.mp hb
    obtain ⟨l, e', op, hg, h⟩ := rdK_some h
    obtain ⟨hl, h⟩ := wrK_some h
    rw [wtK_eq] at h
    simp only [natK_eq, Option.some.injEq, Prod.mk.injEq] at h
    obtain ⟨e1, e2⟩ := h
    have hdx : D b := hD b (by rw [← e2]; rcases ins_has st.base b st.R with q | q; exact .inl (ins_sub _ _ _ _ q); exact .inr q)
    obtain ⟨b', s', pre, us, vs, q1, q2, qz, q3, q4, q5⟩ := hs.row hdx hg
    rw [hB] at q1; cases q1
    have hul := q3.len
    obtain ⟨w', hr, a1, a2, a3, a4, a5, a6⟩ := run_append_in (P := P) (ty := ty) (w := w) (b := B) (o := s.1 + o) (n := n) (k := cap) hu hi q2 hz h1 hb (by rw [← qz]; simp; omega)
    refine ⟨_, w', ρ, hr, by rw [← e1, Rel]; exact ⟨B, s, cap, hB, rfl, rfl⟩, ?_⟩
    rw [← e2]
    have e3 : s.1 + o + n * i.size = pre.length + (o + n * i.size) := by rw [qz]; omega
    rw [e3, wrl_pre (by simp; omega), wrl_mid (by omega)] at a5
    refine Step.upd hs hdx (by rw [hg]; simp) hB (o := .cells (l.take (o + n * i.size) ++ news ++ l.drop (o + n * i.size + news.length)) e' op) (ob := _) ⟨pre, us.take (o + n * i.size) ++ nv ++ us.drop (o + n * i.size + nv.length), vs, rfl, qz, ?_, q4, ?_⟩ (fun y hy => ins_sub _ _ _ _ (ins_sub _ _ _ _ hy)) (ins_sub _ _ _) (ins_has _ _ _) a1 a2 a3 a4 a5 a6
    ·rw [hnl]; exact ((q3.take _).app hn).app (q3.drop _)
    ·simp; omega
   | false =>
    rw [hb, cond_false] at h
    have hb : ¬ (n + (m' + 1) ≤ cap) := fun q => by rw [Nat.ble_eq.mpr q] at hb; cases hb
    have hc := (bif_of h).1
    replace h := (bif_of h).2
    obtain ⟨hc1, hc2⟩ := by rw [Bool.and_eq_true] at hc; exact hc
    have hc1 := Nat.ble_eq.mp hc1
    have hc2 := Nat.ble_eq.mp hc2
    obtain ⟨l, e', op, hg, h⟩ := rdK_some h
    obtain ⟨hl, h⟩ := subK_some h
    simp only [appK_eq, newK_eq, natK_eq, Option.some.injEq, Prod.mk.injEq] at h
    obtain ⟨e1, e2⟩ := h
    have hdx : D b := hD b (by rw [← e2]; exact ins_has _ _ _)
    obtain ⟨b', s', pre, us, vs, q1, q2, qz, q3, q4, q5⟩ := hs.row hdx hg
    rw [hB] at q1; cases q1
    have hul := q3.len
    have hsrc : Src P w i.size (.slice (some ⟨B, s.1 + o, none⟩) n cap) n ((us.drop o).take (n * i.size)) := ⟨⟨_, _, rfl, fun _ => ⟨_, _, rfl, cells_of q2 qz⟩⟩, by simp; omega⟩
    have hne : ρ st.nx = none := hf _ (Nat.le_refl _) (by rw [← e2]; exact Nat.lt_succ_self _)
    obtain ⟨c, w', hc, hr, a1, a2, a3, a4⟩ := run_append_new (P := P) (ty := ty) (w := w) (olds := (us.drop o).take (n * i.size)) (n := n) (k := cap) hu hi hzv rfl (fun q => by cases q) (fun {w'} hw => run_firstCells_src hsrc hw) hz (Nat.succ_pos _) (by omega) hc2 hc1
    refine Did.after hs (ins_sub st.base b st.R) ?_
    have hs' : Sim ρ D ⟨st.h, st.nx, st.base, ins st.base b st.R, st.W⟩ w := ⟨hs.live, hs.inj, hs.lt⟩
    refine Did.new (n := (0, c * i.size)) hs' hf e2.symm hr ⟨[], (us.drop o).take (n * i.size) ++ nv, (Builtin.zeroCells zv.cells (c - (n + (m' + 1)))).toList, rfl, rfl, (((q3.drop o).take _).app hn).mono (Ren.put_le hne), (fun h => by cases h), ?_⟩ a1 a2 a3 a4 ?_
    ·rw [List.length_append, hsrc.len, hzl, zeroCells_len, hzs, ← Nat.add_mul, ← Nat.add_mul]; congr 1; omega
    ·rw [← e1, Rel]; exact ⟨_, _, c, Ren.put_at, by simp [CapR], rfl⟩
  ·rename_i b o n sz'
   have hx0 := hx
   rw [Rel] at hx
   obtain ⟨B, s, cap, hB, hc, rfl⟩ := hx
   simp only [CapR] at hc
   have hq := (bif_of h).1
   replace h := (bif_of h).2
   obtain ⟨hq1, hq2⟩ := by rw [Bool.and_eq_true] at hq; exact hq
   have hq1 := Nat.eq_of_beq_eq_true hq1
   have hq2 := Nat.blt_eq.mp hq2
   subst hq1
   have hcc := (bif_of h).1
   replace h := (bif_of h).2
   obtain ⟨hc1, hc2⟩ := by rw [Bool.and_eq_true] at hcc; exact hcc
   have hc1 := Nat.ble_eq.mp hc1
   have hc2 := Nat.ble_eq.mp hc2
   obtain ⟨l, e', op, hg, h⟩ := rdK_some h
   have ho := (bif_of h).1
   replace h := (bif_of h).2
   obtain ⟨ho1, ho2⟩ := by rw [Bool.and_eq_true] at ho; exact ho
   have ho2 := Nat.eq_of_beq_eq_true ho2
   subst ho2
   cases hb : Nat.ble (o + (n + (m' + 1)) * i.size) (llen l) with
   | true => rw [hb] at h; cases h
   | false =>
    rw [hb, cond_false] at h
    have hb : ¬ (o + (n + (m' + 1)) * i.size ≤ l.length) := fun q => by rw [← llen_eq] at q; rw [Nat.ble_eq.mpr q] at hb; cases hb
    obtain ⟨hl, h⟩ := subK_some h
    simp only [appK_eq, Tr.setK_eq, natK_eq, insK_eq, Option.some.injEq, Prod.mk.injEq] at h
    obtain ⟨e1, e2⟩ := h
    have hdx : D b := hD b (by rw [← e2]; exact ins_has _ _ _)
    obtain ⟨b', s', pre, us, vs, q1, q2, qz, q3, q4, q5⟩ := hs.row hdx hg
    rw [hB] at q1; cases q1
    have hul := q3.len
    have hne : ρ st.nx = none := hf _ (Nat.le_refl _) (by rw [← e2]; exact Nat.lt_succ_self _)
    have hsrc : Src P w i.size (.slice (some ⟨B, s.1 + o, none⟩) n cap) n ((us.drop o).take (n * i.size)) := ⟨⟨_, _, rfl, fun _ => ⟨_, _, rfl, cells_of q2 qz⟩⟩, by simp; omega⟩
    have hk1 : ∀ y, y ∈ st.W → y ∈ ins st.base b st.W := ins_sub _ _ _
    by_cases hroom : n + (m' + 1) ≤ cap
    ·
     have hm1 : (n + (m' + 1)) * i.size ≤ cap * i.size := Nat.mul_le_mul_right _ hroom
     have hzl2 : nv.length = (m' + 1) * i.size := hzl
     have hm2 : (n + (m' + 1)) * i.size = n * i.size + (m' + 1) * i.size := Nat.add_mul ..
     obtain ⟨w', hr, a1, a2, a3, a4, a5, a6⟩ := run_append_in (P := P) (ty := ty) (w := w) (b := B) (o := s.1 + o) (n := n) (k := cap) hu hi q2 hz h1 hroom (by rw [← qz]; simp; omega)
     have e3 : s.1 + o + n * i.size = pre.length + (o + n * i.size) := by rw [qz]; omega
     rw [e3, wrl_pre (by simp; omega)] at a5
     have e4 : wrl (us ++ vs) (o + n * i.size) nv = us.take o ++ (((us.drop o).take (n * i.size) ++ nv) ++ (us ++ vs).drop (o + n * i.size + nv.length)) := by
      have e5 : us ++ vs = us.take (o + n * i.size) ++ (us ++ vs).drop (o + n * i.size) := by
       conv => lhs; rw [← List.take_append_drop (o + n * i.size) (us ++ vs)]
       rw [List.take_append_of_le_length (by omega)]
      have e6 : (us.take (o + n * i.size)).length = o + n * i.size := by simp; omega
      have e7 := wrl_eq nv (us.take (o + n * i.size)) ((us ++ vs).drop (o + n * i.size)) (by simp; omega)
      rw [e6, ← e5] at e7
      rw [e7, List.drop_drop]
      have e8 : us.take (o + n * i.size) = us.take o ++ (us.drop o).take (n * i.size) := by rw [List.take_add]
      rw [e8]
      simp [List.append_assoc]
     rw [e4, ← List.append_assoc] at a5
     refine ⟨_, w', ρ.put st.nx B (s.1 + o, s.2 - o), hr, ?_, ?_⟩
     ·rw [← e1, Rel]; exact ⟨B, (s.1 + o, s.2 - o), cap, Ren.put_at, by simp only [CapR]; omega, rfl⟩
     ·rw [← e2]
      refine Step.move hs hne hdx (by rw [hg]; simp) hB (s1 := (s.1 + o, s.2 - o)) (o := .cells ((l.drop o).take (n * i.size) ++ news) e' true) (ob := _) ⟨pre ++ us.take o, (us.drop o).take (n * i.size) ++ nv, (us ++ vs).drop (o + n * i.size + nv.length), rfl, ?_, (((q3.drop o).take _).app hn).mono (Ren.put_le hne), (fun h => by cases h), ?_⟩ (ins_sub _ _ _) hk1 (ins_has _ _ _) a1 a2 a3 a4 a5 a6
      ·simp; omega
      ·simp; omega
    ·obtain ⟨c, w', hc', hr, a1, a2, a3, a4⟩ := run_append_new (P := P) (ty := ty) (w := w) (olds := (us.drop o).take (n * i.size)) (n := n) (k := cap) hu hi hzv rfl (fun q => by cases q) (fun {w'} hw => run_firstCells_src hsrc hw) hz (Nat.succ_pos _) (by omega) hc2 hc1
     have hkill := Step.kill (x := b) (R := ins st.base b st.R) (W := ins st.base b st.W) hs (ins_sub _ _ _) hk1 (ins_has _ _ _)
     have hrel : RelL ρ ((l.drop o).take (n * i.size) ++ news) ((us.drop o).take (n * i.size) ++ nv) := ((q3.drop o).take _).app hn
     refine ⟨_, w', ρ.put st.nx w.heap.size (0, c * i.size), hr, ?_, ?_⟩
     ·rw [← e1, Rel]; exact ⟨_, _, c, Ren.put_at, by simp [CapR], rfl⟩
     ·have hnew := Step.new (o := .cells ((l.drop o).take (n * i.size) ++ news) e' true) (s := (0, c * i.size)) (ob := _) hkill.sim hne ⟨[], (us.drop o).take (n * i.size) ++ nv, (Builtin.zeroCells zv.cells (c - (n + (m' + 1)))).toList, rfl, rfl, hrel.mono (Ren.put_le hne), (fun h => by cases h), (by
       rw [List.length_append, hsrc.len, hzl, zeroCells_len, hzs, ← Nat.add_mul, ← Nat.add_mul]; congr 1; omega)⟩ a1 a2 a3 a4
      rw [← e2]
      exact hkill.trans hnew
  ·cases h
theorem apS_ok {T T' ty : TypeId} {x y v : SV} {u z : Value} (hx : Rel ρ x u) (hy : Rel ρ y z) (h : apS P T T' x y st = some (v, st')) (hs : Sim ρ D st w) (hD : ∀ x, x ∈ st'.R ∨ st.base ≤ x → D x) (hf : Free ρ st.nx st'.nx) :
 Did P ρ D st st' w v (Builtin.append_ #[T, T'] ty #[u, z]) := by
 unfold apS at h
 have hT := (bif_of h).1
 replace h := (bif_of h).2
 have hT := Nat.eq_of_beq_eq_true hT
 subst hT
 split at h
 ·rename_i e sz by' zz hT
  obtain ⟨hu, i, zv, hi, rfl, rfl, hz, rfl, hzc, hzl⟩ := slT_ok hT
  obtain ⟨n, vs, us, R', h, hR, hr, hsrc⟩ := srcK_ok hy h hs fun n vs st1 h1 x hx => hD x (by
   rcases hx with q | q
   ·exact .inl (apC_R h1 x q)
   ·exact .inr q)
  refine Did.after hs hR ?_
  exact apC_ok hu hi hz (by rw [hzc]; simpa using hzl) hx hsrc hr h ⟨hs.live, hs.inj, hs.lt⟩ hD hf
 ·cases h
end
end Go.TX
