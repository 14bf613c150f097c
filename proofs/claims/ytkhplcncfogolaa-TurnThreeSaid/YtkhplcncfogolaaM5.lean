/-
  What is proved here: circles through one, two and three points. Conditions: none; each contract states its own.
  What is proved here: the circle through three points, and that of two; which circle is smaller. Conditions: none; each contract states its own.
  What is proved here: the smallest circles that grow. Conditions: none; each contract states its own.
  What is proved here: the reference: all circles of a track, and the smallest one. Conditions: none; each contract states its own.
  What is proved here: the reference: the smallest circle of a track. Conditions: none; each contract states its own.
-/
import Derived.Test.YtkhplcncfogolaaM4
import Derived.ChangeKeysEq
import Derived.Test.YtkhplcncfogolaaM2
namespace Go.Proofs.Ytkhplcncfogolaa
open Go Go.TH
attribute [local irreducible] W WO pt
set_option maxRecDepth 10000
set_option maxHeartbeats 1000000
abbrev cirV (c : Cir) : Value := .agg #[.int .i64 c.x, .int .i64 c.y, .int .i64 c.den, .int .i64 c.n, .int .i64 c.d]
abbrev ptV (p : Int × Int) : Value := .agg #[.int .i64 p.1, .int .i64 p.2]
abbrev ringV (c : Cir) (o : Value) : Value := .agg #[.int .i64 c.x, .int .i64 c.y, .int .i64 c.den, .int .i64 c.n, .int .i64 c.d, o]
/-- a ring of a circle -/
def RingR (c : Cir) (r : Value) : Prop := ∃ (a : Option Addr) (n k : Nat), r = ringV c (.slice a n k)
theorem ref_circleP (w : World) (x y den : Int) (p : Int × Int) (hp : OkP p) (hd : 0 < den) (hd2 : -262144 ≤ den ∧ den ≤ 262144) (hx : -268435456 ≤ x ∧ x ≤ 268435456) (hy : -268435456 ≤ y ∧ y ≤ 268435456) :
    Ret Try.prog 55 [.int .i64 x, .int .i64 y, .int .i64 den, .agg #[.int .i64 p.1, .int .i64 p.2]].toArray w (cirV (mkN (x) (y) (den) p)) := by
  refine Ret.of mixed tyTab Try.func55 rfl rfl ?_
  have hD : 0 < den := by omega
  have hg := gcd3_pos (x := x) (y := y) hD
  have b1 := tdiv_ab (a := x) hg
  have b2 := tdiv_ab (a := y) hg
  have b3 := mkN_den (x := x) (y := y) hD
  have b4 := mul100 hp.1 (d := (den).tdiv (gcd3 (x) (y) (den))) ⟨b3.1, by omega⟩
  have b5 := mul100 hp.2 (d := (den).tdiv (gcd3 (x) (y) (den))) ⟨b3.1, by omega⟩
  have b6 := den_b (d := (den).tdiv (gcd3 (x) (y) (den))) ⟨b3.1, by omega⟩
  unfold ab at b1 b2
  have q1 := sq_b (x := p.1 * (den).tdiv (gcd3 (x) (y) (den)) - (x).tdiv (gcd3 (x) (y) (den))) (by omega)
  have q2 := sq_b (x := p.2 * (den).tdiv (gcd3 (x) (y) (den)) - (y).tdiv (gcd3 (x) (y) (den))) (by omega)
  have hh := gcd2_pos (a := (p.1 * (den).tdiv (gcd3 (x) (y) (den)) - (x).tdiv (gcd3 (x) (y) (den))) * (p.1 * (den).tdiv (gcd3 (x) (y) (den)) - (x).tdiv (gcd3 (x) (y) (den))) + (p.2 * (den).tdiv (gcd3 (x) (y) (den)) - (y).tdiv (gcd3 (x) (y) (den))) * (p.2 * (den).tdiv (gcd3 (x) (y) (den)) - (y).tdiv (gcd3 (x) (y) (den)))) (b := (den).tdiv (gcd3 (x) (y) (den)) * (den).tdiv (gcd3 (x) (y) (den))) (by omega) (by omega)
  refine W.sreg ?_
  refine WO.boxA rfl rfl (fun b1 hb1 => ?_)
  refine WO.alloc rfl rfl rfl (fun b2 hb2 => ?_)
  refine WO.nil ?_
  refine W.seq ?_
  refine W.sreg ?_
  refine WO.p rfl rfl (WO.p rfl rfl ?_)
  refine WO.nil ?_
  refine W.cond_bl rfl (fun c1 => ?_) (fun c1 => ?_)
  · first
    | (exfalso; omega)
    | (refine W.region ?_
       refine WO.p rfl rfl (WO.neg rfl (by (first | (unfold in64; omega) | (unfold in64; omega) | exact tdiv_in (by omega) (by omega) (by unfold in64; omega))) rfl (WO.p rfl rfl (WO.neg rfl (by (first | (unfold in64; omega) | (unfold in64; omega) | exact tdiv_in (by omega) (by omega) (by unfold in64; omega))) rfl (WO.p rfl rfl (WO.neg rfl (by (first | (unfold in64; omega) | (unfold in64; omega) | exact tdiv_in (by omega) (by omega) (by unfold in64; omega))) rfl (WO.p rfl rfl (WO.p rfl rfl (WO.p rfl rfl ?_))))))))
       refine WO.nil ?_
       refine W.sreg ?_
       refine WO.p rfl rfl ?_
       refine WO.callR rfl Try.call76 (fun L w hi => ref_amount w _ (by unfold in64; omega)) rfl ?_
       refine WO.p rfl rfl ?_
       refine WO.callR rfl Try.call76 (fun L w hi => ref_amount w _ (by unfold in64; omega)) rfl ?_
       refine WO.callR rfl Try.call75 (fun L w hi => ref_gcd w _ _ (ab_nn _) (ab_nn _)) rfl ?_
       refine WO.p rfl rfl ?_
       refine WO.callR (r := .int .i64 (gcd3 (x) (y) (den))) rfl Try.call75 (fun L w hi => ref_gcd w _ (den) (gcd2_nn _ _) (by omega)) rfl ?_
       refine WO.p rfl rfl ?_
       refine WO.nil ?_
       refine W.seq ?_
       refine W.drawD 11 [.r 0 [], .r 1 [], .r 2 [], .r 3 [0], .r 4 [0], .r 5 [0], .r 6 [0, 1], .r 7 [0, 1], .r 8 [0, 1], .r 9 [0], .r 10 [0, 1]] [0, 1] (A0 := []) (Sub.refl _) (by kernel_rfl) ?_ ?_
       · exact (ALok.r (ALok.r (ALok.r (ALok.r (ALok.r (ALok.r (ALok.r (ALok.r (ALok.r (ALok.r (ALok.r ALok.nil)))))))))))
       refine' DT.r rfl rfl rfl ?hq ?_
       case hq =>
         refine WO.p rfl rfl ?_
         exact WO.nil ⟨rfl, rfl⟩
       refine' DT.r rfl rfl rfl ?hq ?_
       case hq =>
         refine WO.p rfl rfl ?_
         exact WO.nil ⟨rfl, rfl⟩
       refine' DT.r rfl rfl rfl ?hq ?_
       case hq =>
         refine WO.quo rfl rfl (by first | omega | assumption) (by (first | (unfold in64; omega) | (unfold in64; omega) | exact tdiv_in (by omega) (by omega) (by unfold in64; omega))) rfl ?_
         exact WO.nil ⟨rfl, rfl⟩
       refine' DT.r rfl rfl rfl ?hq ?_
       case hq =>
         refine WO.p rfl rfl ?_
         exact WO.nil ⟨rfl, rfl⟩
       refine' DT.r rfl rfl rfl ?hq ?_
       case hq =>
         refine WO.p rfl rfl ?_
         exact WO.nil ⟨rfl, rfl⟩
       refine' DT.r rfl rfl rfl ?hq ?_
       case hq =>
         refine WO.quo rfl rfl (by first | omega | assumption) (by (first | (unfold in64; omega) | (unfold in64; omega) | exact tdiv_in (by omega) (by omega) (by unfold in64; omega))) rfl ?_
         exact WO.nil ⟨rfl, rfl⟩
       refine' DT.r rfl rfl rfl ?hq ?_
       case hq =>
         refine WO.p rfl rfl ?_
         exact WO.nil ⟨rfl, rfl⟩
       refine' DT.r rfl rfl rfl ?hq ?_
       case hq =>
         refine WO.p rfl rfl ?_
         exact WO.nil ⟨rfl, rfl⟩
       refine' DT.r rfl rfl rfl ?hq ?_
       case hq =>
         refine WO.quo rfl rfl (by first | omega | assumption) (by (first | (unfold in64; omega) | (unfold in64; omega) | exact tdiv_in (by omega) (by omega) (by unfold in64; omega))) rfl ?_
         exact WO.nil ⟨rfl, rfl⟩
       refine' DT.r rfl rfl rfl ?hq ?_
       case hq =>
         refine WO.p rfl rfl ?_
         exact WO.nil ⟨rfl, rfl⟩
       refine' DT.r rfl rfl rfl ?hq ?_
       case hq =>
         refine WO.p rfl rfl ?_
         exact WO.nil ⟨rfl, rfl⟩
       refine DT.nil [_, _] rfl ?_
       refine WO.p rfl rfl ?_
       refine WO.nil ?_
       refine W.seq ?_
       refine W.drawD 13 [.r 0 [], .b 1 [], .r 2 [], .r 3 [], .r 4 [], .r 5 [], .r 6 [], .b 7 [], .r 8 [], .r 9 [], .r 10 [], .r 11 [], .r 12 []] [] (A0 := []) (Sub.refl _) (by kernel_rfl) ?_ ?_
       · exact (ALok.r (ALok.b (ALok.r (ALok.r (ALok.r (ALok.r (ALok.r (ALok.b (ALok.r (ALok.r (ALok.r (ALok.r (ALok.r ALok.nil)))))))))))))
       refine' DT.r rfl rfl rfl ?hq ?_
       case hq =>
         refine WO.field0 rfl rfl rfl ?_
         exact WO.nil ⟨rfl, rfl⟩
       refine' DT.b rfl rfl rfl ?hq ?_
       case hq =>
         refine WO.load rfl rfl (Cell.own (Pick.tail (Pick.head)) rfl) rfl ?_
         exact WO.nil ⟨rfl, rfl⟩
       refine' DT.r rfl rfl rfl ?hq ?_
       case hq =>
         refine WO.p rfl rfl ?_
         exact WO.nil ⟨rfl, rfl⟩
       refine' DT.r rfl rfl rfl ?hq ?_
       case hq =>
         refine WO.ar rfl rfl rfl (by (first | (unfold in64; omega) | (unfold in64; omega) | exact tdiv_in (by omega) (by omega) (by unfold in64; omega))) rfl ?_
         exact WO.nil ⟨rfl, rfl⟩
       refine' DT.r rfl rfl rfl ?hq ?_
       case hq =>
         refine WO.p rfl rfl ?_
         exact WO.nil ⟨rfl, rfl⟩
       refine' DT.r rfl rfl rfl ?hq ?_
       case hq =>
         refine WO.ar rfl rfl rfl (by (first | (unfold in64; omega) | (unfold in64; omega) | exact tdiv_in (by omega) (by omega) (by unfold in64; omega))) rfl ?_
         exact WO.nil ⟨rfl, rfl⟩
       refine' DT.r rfl rfl rfl ?hq ?_
       case hq =>
         refine WO.fieldL rfl rfl rfl ?_
         exact WO.nil ⟨rfl, rfl⟩
       refine' DT.b rfl rfl rfl ?hq ?_
       case hq =>
         refine WO.load rfl rfl (Cell.own (Pick.tail (Pick.head)) rfl) rfl ?_
         exact WO.nil ⟨rfl, rfl⟩
       refine' DT.r rfl rfl rfl ?hq ?_
       case hq =>
         refine WO.p rfl rfl ?_
         exact WO.nil ⟨rfl, rfl⟩
       refine' DT.r rfl rfl rfl ?hq ?_
       case hq =>
         refine WO.ar rfl rfl rfl (by (first | (unfold in64; omega) | (unfold in64; omega) | exact tdiv_in (by omega) (by omega) (by unfold in64; omega))) rfl ?_
         exact WO.nil ⟨rfl, rfl⟩
       refine' DT.r rfl rfl rfl ?hq ?_
       case hq =>
         refine WO.p rfl rfl ?_
         exact WO.nil ⟨rfl, rfl⟩
       refine' DT.r rfl rfl rfl ?hq ?_
       case hq =>
         refine WO.ar rfl rfl rfl (by (first | (unfold in64; omega) | (unfold in64; omega) | exact tdiv_in (by omega) (by omega) (by unfold in64; omega))) rfl ?_
         exact WO.nil ⟨rfl, rfl⟩
       refine' DT.r rfl rfl rfl ?hq ?_
       case hq =>
         refine WO.p rfl rfl ?_
         exact WO.nil ⟨rfl, rfl⟩
       refine DT.nil [_, _] rfl ?_
       refine WO.p rfl rfl ?_
       refine WO.nil ?_
       refine W.sreg ?_
       refine WO.p rfl rfl (WO.p rfl rfl (WO.ar rfl rfl rfl (by (first | (unfold in64; omega) | (unfold in64; omega) | exact tdiv_in (by omega) (by omega) (by unfold in64; omega))) rfl (WO.p rfl rfl (WO.p rfl rfl (WO.ar rfl rfl rfl (by (first | (unfold in64; omega) | (unfold in64; omega) | exact tdiv_in (by omega) (by omega) (by unfold in64; omega))) rfl (WO.ar rfl rfl rfl (by (first | (unfold in64; omega) | (unfold in64; omega) | exact tdiv_in (by omega) (by omega) (by unfold in64; omega))) rfl (WO.p rfl rfl (WO.p rfl rfl (WO.ar rfl rfl rfl (by (first | (unfold in64; omega) | (unfold in64; omega) | exact tdiv_in (by omega) (by omega) (by unfold in64; omega))) rfl (WO.p rfl rfl (WO.p rfl rfl ?_)))))))))))
       refine WO.nil ?_
       refine W.sreg ?_
       refine WO.p rfl rfl (WO.p rfl rfl ?_)
       refine WO.callR rfl Try.call75 (fun L w hi => ref_gcd w _ _ (by omega) (by omega)) rfl ?_
       refine WO.p rfl rfl ?_
       refine WO.nil ?_
       refine W.seq ?_
       refine W.drawD 10 [.r 0 [], .r 1 [], .r 2 [], .r 3 [], .r 4 [], .r 5 [], .r 6 [], .r 7 [], .r 8 [], .r 9 []] [] (A0 := []) (Sub.refl _) (by kernel_rfl) ?_ ?_
       · exact (ALok.r (ALok.r (ALok.r (ALok.r (ALok.r (ALok.r (ALok.r (ALok.r (ALok.r (ALok.r ALok.nil))))))))))
       refine' DT.r rfl rfl rfl ?hq ?_
       case hq =>
         refine WO.p rfl rfl ?_
         exact WO.nil ⟨rfl, rfl⟩
       refine' DT.r rfl rfl rfl ?hq ?_
       case hq =>
         refine WO.p rfl rfl ?_
         exact WO.nil ⟨rfl, rfl⟩
       refine' DT.r rfl rfl rfl ?hq ?_
       case hq =>
         refine WO.p rfl rfl ?_
         exact WO.nil ⟨rfl, rfl⟩
       refine' DT.r rfl rfl rfl ?hq ?_
       case hq =>
         refine WO.p rfl rfl ?_
         exact WO.nil ⟨rfl, rfl⟩
       refine' DT.r rfl rfl rfl ?hq ?_
       case hq =>
         refine WO.p rfl rfl ?_
         exact WO.nil ⟨rfl, rfl⟩
       refine' DT.r rfl rfl rfl ?hq ?_
       case hq =>
         refine WO.quo rfl rfl (by first | omega | assumption) (by (first | (unfold in64; omega) | (unfold in64; omega) | exact tdiv_in (by omega) (by omega) (by unfold in64; omega))) rfl ?_
         exact WO.nil ⟨rfl, rfl⟩
       refine' DT.r rfl rfl rfl ?hq ?_
       case hq =>
         refine WO.p rfl rfl ?_
         exact WO.nil ⟨rfl, rfl⟩
       refine' DT.r rfl rfl rfl ?hq ?_
       case hq =>
         refine WO.p rfl rfl ?_
         exact WO.nil ⟨rfl, rfl⟩
       refine' DT.r rfl rfl rfl ?hq ?_
       case hq =>
         refine WO.quo rfl rfl (by first | omega | assumption) (by (first | (unfold in64; omega) | (unfold in64; omega) | exact tdiv_in (by omega) (by omega) (by unfold in64; omega))) rfl ?_
         exact WO.nil ⟨rfl, rfl⟩
       refine' DT.r rfl rfl rfl ?hq ?_
       case hq =>
         refine' WO.build (cs := _) rfl rfl rfl ?hf rfl ?_
         case hf => (conv => lhs; simp [-List.getD_eq_getElem?_getD, -Int.neg_tdiv, fillL, vcl, wrl, TTab.pl?.lget']) <;> rfl
         exact WO.nil ⟨rfl, rfl⟩
       refine DT.nil [_, _] rfl ?_
       refine' WO.build (cs := _) rfl rfl rfl ?hf rfl ?_
       case hf => (conv => lhs; simp [-List.getD_eq_getElem?_getD, -Int.neg_tdiv, fillL, vcl, wrl, TTab.pl?.lget']) <;> rfl
       refine WO.storeA rfl rfl rfl rfl Pick.head rfl rfl ?_
       refine WO.nil ?_
       refine W.ret ?_
       refine fin.ret (Res.one rfl (RV.cell rfl rfl rfl (Cells.own (by repeat (first | exact Pick.head | apply Pick.tail))))) ?_
       first | rfl)
  · first
    | (exfalso; omega)
    | (refine W.skip ?_
       refine W.sreg ?_
       refine WO.p rfl rfl ?_
       refine WO.callR rfl Try.call76 (fun L w hi => ref_amount w _ (by unfold in64; omega)) rfl ?_
       refine WO.p rfl rfl ?_
       refine WO.callR rfl Try.call76 (fun L w hi => ref_amount w _ (by unfold in64; omega)) rfl ?_
       refine WO.callR rfl Try.call75 (fun L w hi => ref_gcd w _ _ (ab_nn _) (ab_nn _)) rfl ?_
       refine WO.p rfl rfl ?_
       refine WO.callR (r := .int .i64 (gcd3 (x) (y) (den))) rfl Try.call75 (fun L w hi => ref_gcd w _ (den) (gcd2_nn _ _) (by omega)) rfl ?_
       refine WO.p rfl rfl ?_
       refine WO.nil ?_
       refine W.seq ?_
       refine W.drawD 11 [.r 0 [], .r 1 [], .r 2 [], .r 3 [0], .r 4 [0], .r 5 [0], .r 6 [0, 1], .r 7 [0, 1], .r 8 [0, 1], .r 9 [0], .r 10 [0, 1]] [0, 1] (A0 := []) (Sub.refl _) (by kernel_rfl) ?_ ?_
       · exact (ALok.r (ALok.r (ALok.r (ALok.r (ALok.r (ALok.r (ALok.r (ALok.r (ALok.r (ALok.r (ALok.r ALok.nil)))))))))))
       refine' DT.r rfl rfl rfl ?hq ?_
       case hq =>
         refine WO.p rfl rfl ?_
         exact WO.nil ⟨rfl, rfl⟩
       refine' DT.r rfl rfl rfl ?hq ?_
       case hq =>
         refine WO.p rfl rfl ?_
         exact WO.nil ⟨rfl, rfl⟩
       refine' DT.r rfl rfl rfl ?hq ?_
       case hq =>
         refine WO.quo rfl rfl (by first | omega | assumption) (by (first | (unfold in64; omega) | (unfold in64; omega) | exact tdiv_in (by omega) (by omega) (by unfold in64; omega))) rfl ?_
         exact WO.nil ⟨rfl, rfl⟩
       refine' DT.r rfl rfl rfl ?hq ?_
       case hq =>
         refine WO.p rfl rfl ?_
         exact WO.nil ⟨rfl, rfl⟩
       refine' DT.r rfl rfl rfl ?hq ?_
       case hq =>
         refine WO.p rfl rfl ?_
         exact WO.nil ⟨rfl, rfl⟩
       refine' DT.r rfl rfl rfl ?hq ?_
       case hq =>
         refine WO.quo rfl rfl (by first | omega | assumption) (by (first | (unfold in64; omega) | (unfold in64; omega) | exact tdiv_in (by omega) (by omega) (by unfold in64; omega))) rfl ?_
         exact WO.nil ⟨rfl, rfl⟩
       refine' DT.r rfl rfl rfl ?hq ?_
       case hq =>
         refine WO.p rfl rfl ?_
         exact WO.nil ⟨rfl, rfl⟩
       refine' DT.r rfl rfl rfl ?hq ?_
       case hq =>
         refine WO.p rfl rfl ?_
         exact WO.nil ⟨rfl, rfl⟩
       refine' DT.r rfl rfl rfl ?hq ?_
       case hq =>
         refine WO.quo rfl rfl (by first | omega | assumption) (by (first | (unfold in64; omega) | (unfold in64; omega) | exact tdiv_in (by omega) (by omega) (by unfold in64; omega))) rfl ?_
         exact WO.nil ⟨rfl, rfl⟩
       refine' DT.r rfl rfl rfl ?hq ?_
       case hq =>
         refine WO.p rfl rfl ?_
         exact WO.nil ⟨rfl, rfl⟩
       refine' DT.r rfl rfl rfl ?hq ?_
       case hq =>
         refine WO.p rfl rfl ?_
         exact WO.nil ⟨rfl, rfl⟩
       refine DT.nil [_, _] rfl ?_
       refine WO.p rfl rfl ?_
       refine WO.nil ?_
       refine W.seq ?_
       refine W.drawD 13 [.r 0 [], .b 1 [], .r 2 [], .r 3 [], .r 4 [], .r 5 [], .r 6 [], .b 7 [], .r 8 [], .r 9 [], .r 10 [], .r 11 [], .r 12 []] [] (A0 := []) (Sub.refl _) (by kernel_rfl) ?_ ?_
       · exact (ALok.r (ALok.b (ALok.r (ALok.r (ALok.r (ALok.r (ALok.r (ALok.b (ALok.r (ALok.r (ALok.r (ALok.r (ALok.r ALok.nil)))))))))))))
       refine' DT.r rfl rfl rfl ?hq ?_
       case hq =>
         refine WO.field0 rfl rfl rfl ?_
         exact WO.nil ⟨rfl, rfl⟩
       refine' DT.b rfl rfl rfl ?hq ?_
       case hq =>
         refine WO.load rfl rfl (Cell.own (Pick.tail (Pick.head)) rfl) rfl ?_
         exact WO.nil ⟨rfl, rfl⟩
       refine' DT.r rfl rfl rfl ?hq ?_
       case hq =>
         refine WO.p rfl rfl ?_
         exact WO.nil ⟨rfl, rfl⟩
       refine' DT.r rfl rfl rfl ?hq ?_
       case hq =>
         refine WO.ar rfl rfl rfl (by (first | (unfold in64; omega) | (unfold in64; omega) | exact tdiv_in (by omega) (by omega) (by unfold in64; omega))) rfl ?_
         exact WO.nil ⟨rfl, rfl⟩
       refine' DT.r rfl rfl rfl ?hq ?_
       case hq =>
         refine WO.p rfl rfl ?_
         exact WO.nil ⟨rfl, rfl⟩
       refine' DT.r rfl rfl rfl ?hq ?_
       case hq =>
         refine WO.ar rfl rfl rfl (by (first | (unfold in64; omega) | (unfold in64; omega) | exact tdiv_in (by omega) (by omega) (by unfold in64; omega))) rfl ?_
         exact WO.nil ⟨rfl, rfl⟩
       refine' DT.r rfl rfl rfl ?hq ?_
       case hq =>
         refine WO.fieldL rfl rfl rfl ?_
         exact WO.nil ⟨rfl, rfl⟩
       refine' DT.b rfl rfl rfl ?hq ?_
       case hq =>
         refine WO.load rfl rfl (Cell.own (Pick.tail (Pick.head)) rfl) rfl ?_
         exact WO.nil ⟨rfl, rfl⟩
       refine' DT.r rfl rfl rfl ?hq ?_
       case hq =>
         refine WO.p rfl rfl ?_
         exact WO.nil ⟨rfl, rfl⟩
       refine' DT.r rfl rfl rfl ?hq ?_
       case hq =>
         refine WO.ar rfl rfl rfl (by (first | (unfold in64; omega) | (unfold in64; omega) | exact tdiv_in (by omega) (by omega) (by unfold in64; omega))) rfl ?_
         exact WO.nil ⟨rfl, rfl⟩
       refine' DT.r rfl rfl rfl ?hq ?_
       case hq =>
         refine WO.p rfl rfl ?_
         exact WO.nil ⟨rfl, rfl⟩
       refine' DT.r rfl rfl rfl ?hq ?_
       case hq =>
         refine WO.ar rfl rfl rfl (by (first | (unfold in64; omega) | (unfold in64; omega) | exact tdiv_in (by omega) (by omega) (by unfold in64; omega))) rfl ?_
         exact WO.nil ⟨rfl, rfl⟩
       refine' DT.r rfl rfl rfl ?hq ?_
       case hq =>
         refine WO.p rfl rfl ?_
         exact WO.nil ⟨rfl, rfl⟩
       refine DT.nil [_, _] rfl ?_
       refine WO.p rfl rfl ?_
       refine WO.nil ?_
       refine W.sreg ?_
       refine WO.p rfl rfl (WO.p rfl rfl (WO.ar rfl rfl rfl (by (first | (unfold in64; omega) | (unfold in64; omega) | exact tdiv_in (by omega) (by omega) (by unfold in64; omega))) rfl (WO.p rfl rfl (WO.p rfl rfl (WO.ar rfl rfl rfl (by (first | (unfold in64; omega) | (unfold in64; omega) | exact tdiv_in (by omega) (by omega) (by unfold in64; omega))) rfl (WO.ar rfl rfl rfl (by (first | (unfold in64; omega) | (unfold in64; omega) | exact tdiv_in (by omega) (by omega) (by unfold in64; omega))) rfl (WO.p rfl rfl (WO.p rfl rfl (WO.ar rfl rfl rfl (by (first | (unfold in64; omega) | (unfold in64; omega) | exact tdiv_in (by omega) (by omega) (by unfold in64; omega))) rfl (WO.p rfl rfl (WO.p rfl rfl ?_)))))))))))
       refine WO.nil ?_
       refine W.sreg ?_
       refine WO.p rfl rfl (WO.p rfl rfl ?_)
       refine WO.callR rfl Try.call75 (fun L w hi => ref_gcd w _ _ (by omega) (by omega)) rfl ?_
       refine WO.p rfl rfl ?_
       refine WO.nil ?_
       refine W.seq ?_
       refine W.drawD 10 [.r 0 [], .r 1 [], .r 2 [], .r 3 [], .r 4 [], .r 5 [], .r 6 [], .r 7 [], .r 8 [], .r 9 []] [] (A0 := []) (Sub.refl _) (by kernel_rfl) ?_ ?_
       · exact (ALok.r (ALok.r (ALok.r (ALok.r (ALok.r (ALok.r (ALok.r (ALok.r (ALok.r (ALok.r ALok.nil))))))))))
       refine' DT.r rfl rfl rfl ?hq ?_
       case hq =>
         refine WO.p rfl rfl ?_
         exact WO.nil ⟨rfl, rfl⟩
       refine' DT.r rfl rfl rfl ?hq ?_
       case hq =>
         refine WO.p rfl rfl ?_
         exact WO.nil ⟨rfl, rfl⟩
       refine' DT.r rfl rfl rfl ?hq ?_
       case hq =>
         refine WO.p rfl rfl ?_
         exact WO.nil ⟨rfl, rfl⟩
       refine' DT.r rfl rfl rfl ?hq ?_
       case hq =>
         refine WO.p rfl rfl ?_
         exact WO.nil ⟨rfl, rfl⟩
       refine' DT.r rfl rfl rfl ?hq ?_
       case hq =>
         refine WO.p rfl rfl ?_
         exact WO.nil ⟨rfl, rfl⟩
       refine' DT.r rfl rfl rfl ?hq ?_
       case hq =>
         refine WO.quo rfl rfl (by first | omega | assumption) (by (first | (unfold in64; omega) | (unfold in64; omega) | exact tdiv_in (by omega) (by omega) (by unfold in64; omega))) rfl ?_
         exact WO.nil ⟨rfl, rfl⟩
       refine' DT.r rfl rfl rfl ?hq ?_
       case hq =>
         refine WO.p rfl rfl ?_
         exact WO.nil ⟨rfl, rfl⟩
       refine' DT.r rfl rfl rfl ?hq ?_
       case hq =>
         refine WO.p rfl rfl ?_
         exact WO.nil ⟨rfl, rfl⟩
       refine' DT.r rfl rfl rfl ?hq ?_
       case hq =>
         refine WO.quo rfl rfl (by first | omega | assumption) (by (first | (unfold in64; omega) | (unfold in64; omega) | exact tdiv_in (by omega) (by omega) (by unfold in64; omega))) rfl ?_
         exact WO.nil ⟨rfl, rfl⟩
       refine' DT.r rfl rfl rfl ?hq ?_
       case hq =>
         refine' WO.build (cs := _) rfl rfl rfl ?hf rfl ?_
         case hf => (conv => lhs; simp [-List.getD_eq_getElem?_getD, -Int.neg_tdiv, fillL, vcl, wrl, TTab.pl?.lget']) <;> rfl
         exact WO.nil ⟨rfl, rfl⟩
       refine DT.nil [_, _] rfl ?_
       refine' WO.build (cs := _) rfl rfl rfl ?hf rfl ?_
       case hf => (conv => lhs; simp [-List.getD_eq_getElem?_getD, -Int.neg_tdiv, fillL, vcl, wrl, TTab.pl?.lget']) <;> rfl
       refine WO.storeA rfl rfl rfl rfl Pick.head rfl rfl ?_
       refine WO.nil ?_
       refine W.ret ?_
       refine fin.ret (Res.one rfl (RV.cell rfl rfl rfl (Cells.own (by repeat (first | exact Pick.head | apply Pick.tail))))) ?_
       first | rfl)
theorem ref_circleN (w : World) (x y den : Int) (p : Int × Int) (hp : OkP p) (hd : den < 0) (hd2 : -262144 ≤ den ∧ den ≤ 262144) (hx : -268435456 ≤ x ∧ x ≤ 268435456) (hy : -268435456 ≤ y ∧ y ≤ 268435456) :
    Ret Try.prog 55 [.int .i64 x, .int .i64 y, .int .i64 den, .agg #[.int .i64 p.1, .int .i64 p.2]].toArray w (cirV (mkN (-x) (-y) (-den) p)) := by
  refine Ret.of mixed tyTab Try.func55 rfl rfl ?_
  have hD : 0 < -den := by omega
  have hg := gcd3_pos (x := -x) (y := -y) hD
  have b1 := tdiv_ab (a := -x) hg
  have b2 := tdiv_ab (a := -y) hg
  have b3 := mkN_den (x := -x) (y := -y) hD
  have b4 := mul100 hp.1 (d := (-den).tdiv (gcd3 (-x) (-y) (-den))) ⟨b3.1, by omega⟩
  have b5 := mul100 hp.2 (d := (-den).tdiv (gcd3 (-x) (-y) (-den))) ⟨b3.1, by omega⟩
  have b6 := den_b (d := (-den).tdiv (gcd3 (-x) (-y) (-den))) ⟨b3.1, by omega⟩
  unfold ab at b1 b2
  have q1 := sq_b (x := p.1 * (-den).tdiv (gcd3 (-x) (-y) (-den)) - (-x).tdiv (gcd3 (-x) (-y) (-den))) (by omega)
  have q2 := sq_b (x := p.2 * (-den).tdiv (gcd3 (-x) (-y) (-den)) - (-y).tdiv (gcd3 (-x) (-y) (-den))) (by omega)
  have hh := gcd2_pos (a := (p.1 * (-den).tdiv (gcd3 (-x) (-y) (-den)) - (-x).tdiv (gcd3 (-x) (-y) (-den))) * (p.1 * (-den).tdiv (gcd3 (-x) (-y) (-den)) - (-x).tdiv (gcd3 (-x) (-y) (-den))) + (p.2 * (-den).tdiv (gcd3 (-x) (-y) (-den)) - (-y).tdiv (gcd3 (-x) (-y) (-den))) * (p.2 * (-den).tdiv (gcd3 (-x) (-y) (-den)) - (-y).tdiv (gcd3 (-x) (-y) (-den)))) (b := (-den).tdiv (gcd3 (-x) (-y) (-den)) * (-den).tdiv (gcd3 (-x) (-y) (-den))) (by omega) (by omega)
  refine W.sreg ?_
  refine WO.boxA rfl rfl (fun b1 hb1 => ?_)
  refine WO.alloc rfl rfl rfl (fun b2 hb2 => ?_)
  refine WO.nil ?_
  refine W.seq ?_
  refine W.sreg ?_
  refine WO.p rfl rfl (WO.p rfl rfl ?_)
  refine WO.nil ?_
  refine W.cond_bl rfl (fun c1 => ?_) (fun c1 => ?_)
  · first
    | (exfalso; omega)
    | (refine W.region ?_
       refine WO.p rfl rfl (WO.neg rfl (by (first | (unfold in64; omega) | (unfold in64; omega) | exact tdiv_in (by omega) (by omega) (by unfold in64; omega))) rfl (WO.p rfl rfl (WO.neg rfl (by (first | (unfold in64; omega) | (unfold in64; omega) | exact tdiv_in (by omega) (by omega) (by unfold in64; omega))) rfl (WO.p rfl rfl (WO.neg rfl (by (first | (unfold in64; omega) | (unfold in64; omega) | exact tdiv_in (by omega) (by omega) (by unfold in64; omega))) rfl (WO.p rfl rfl (WO.p rfl rfl (WO.p rfl rfl ?_))))))))
       refine WO.nil ?_
       refine W.sreg ?_
       refine WO.p rfl rfl ?_
       refine WO.callR rfl Try.call76 (fun L w hi => ref_amount w _ (by unfold in64; omega)) rfl ?_
       refine WO.p rfl rfl ?_
       refine WO.callR rfl Try.call76 (fun L w hi => ref_amount w _ (by unfold in64; omega)) rfl ?_
       refine WO.callR rfl Try.call75 (fun L w hi => ref_gcd w _ _ (ab_nn _) (ab_nn _)) rfl ?_
       refine WO.p rfl rfl ?_
       refine WO.callR (r := .int .i64 (gcd3 (-x) (-y) (-den))) rfl Try.call75 (fun L w hi => ref_gcd w _ (-den) (gcd2_nn _ _) (by omega)) rfl ?_
       refine WO.p rfl rfl ?_
       refine WO.nil ?_
       refine W.seq ?_
       refine W.drawD 11 [.r 0 [], .r 1 [], .r 2 [], .r 3 [0], .r 4 [0], .r 5 [0], .r 6 [0, 1], .r 7 [0, 1], .r 8 [0, 1], .r 9 [0], .r 10 [0, 1]] [0, 1] (A0 := []) (Sub.refl _) (by kernel_rfl) ?_ ?_
       · exact (ALok.r (ALok.r (ALok.r (ALok.r (ALok.r (ALok.r (ALok.r (ALok.r (ALok.r (ALok.r (ALok.r ALok.nil)))))))))))
       refine' DT.r rfl rfl rfl ?hq ?_
       case hq =>
         refine WO.p rfl rfl ?_
         exact WO.nil ⟨rfl, rfl⟩
       refine' DT.r rfl rfl rfl ?hq ?_
       case hq =>
         refine WO.p rfl rfl ?_
         exact WO.nil ⟨rfl, rfl⟩
       refine' DT.r rfl rfl rfl ?hq ?_
       case hq =>
         refine WO.quo rfl rfl (by first | omega | assumption) (by (first | (unfold in64; omega) | (unfold in64; omega) | exact tdiv_in (by omega) (by omega) (by unfold in64; omega))) rfl ?_
         exact WO.nil ⟨rfl, rfl⟩
       refine' DT.r rfl rfl rfl ?hq ?_
       case hq =>
         refine WO.p rfl rfl ?_
         exact WO.nil ⟨rfl, rfl⟩
       refine' DT.r rfl rfl rfl ?hq ?_
       case hq =>
         refine WO.p rfl rfl ?_
         exact WO.nil ⟨rfl, rfl⟩
       refine' DT.r rfl rfl rfl ?hq ?_
       case hq =>
         refine WO.quo rfl rfl (by first | omega | assumption) (by (first | (unfold in64; omega) | (unfold in64; omega) | exact tdiv_in (by omega) (by omega) (by unfold in64; omega))) rfl ?_
         exact WO.nil ⟨rfl, rfl⟩
       refine' DT.r rfl rfl rfl ?hq ?_
       case hq =>
         refine WO.p rfl rfl ?_
         exact WO.nil ⟨rfl, rfl⟩
       refine' DT.r rfl rfl rfl ?hq ?_
       case hq =>
         refine WO.p rfl rfl ?_
         exact WO.nil ⟨rfl, rfl⟩
       refine' DT.r rfl rfl rfl ?hq ?_
       case hq =>
         refine WO.quo rfl rfl (by first | omega | assumption) (by (first | (unfold in64; omega) | (unfold in64; omega) | exact tdiv_in (by omega) (by omega) (by unfold in64; omega))) rfl ?_
         exact WO.nil ⟨rfl, rfl⟩
       refine' DT.r rfl rfl rfl ?hq ?_
       case hq =>
         refine WO.p rfl rfl ?_
         exact WO.nil ⟨rfl, rfl⟩
       refine' DT.r rfl rfl rfl ?hq ?_
       case hq =>
         refine WO.p rfl rfl ?_
         exact WO.nil ⟨rfl, rfl⟩
       refine DT.nil [_, _] rfl ?_
       refine WO.p rfl rfl ?_
       refine WO.nil ?_
       refine W.seq ?_
       refine W.drawD 13 [.r 0 [], .b 1 [], .r 2 [], .r 3 [], .r 4 [], .r 5 [], .r 6 [], .b 7 [], .r 8 [], .r 9 [], .r 10 [], .r 11 [], .r 12 []] [] (A0 := []) (Sub.refl _) (by kernel_rfl) ?_ ?_
       · exact (ALok.r (ALok.b (ALok.r (ALok.r (ALok.r (ALok.r (ALok.r (ALok.b (ALok.r (ALok.r (ALok.r (ALok.r (ALok.r ALok.nil)))))))))))))
       refine' DT.r rfl rfl rfl ?hq ?_
       case hq =>
         refine WO.field0 rfl rfl rfl ?_
         exact WO.nil ⟨rfl, rfl⟩
       refine' DT.b rfl rfl rfl ?hq ?_
       case hq =>
         refine WO.load rfl rfl (Cell.own (Pick.tail (Pick.head)) rfl) rfl ?_
         exact WO.nil ⟨rfl, rfl⟩
       refine' DT.r rfl rfl rfl ?hq ?_
       case hq =>
         refine WO.p rfl rfl ?_
         exact WO.nil ⟨rfl, rfl⟩
       refine' DT.r rfl rfl rfl ?hq ?_
       case hq =>
         refine WO.ar rfl rfl rfl (by (first | (unfold in64; omega) | (unfold in64; omega) | exact tdiv_in (by omega) (by omega) (by unfold in64; omega))) rfl ?_
         exact WO.nil ⟨rfl, rfl⟩
       refine' DT.r rfl rfl rfl ?hq ?_
       case hq =>
         refine WO.p rfl rfl ?_
         exact WO.nil ⟨rfl, rfl⟩
       refine' DT.r rfl rfl rfl ?hq ?_
       case hq =>
         refine WO.ar rfl rfl rfl (by (first | (unfold in64; omega) | (unfold in64; omega) | exact tdiv_in (by omega) (by omega) (by unfold in64; omega))) rfl ?_
         exact WO.nil ⟨rfl, rfl⟩
       refine' DT.r rfl rfl rfl ?hq ?_
       case hq =>
         refine WO.fieldL rfl rfl rfl ?_
         exact WO.nil ⟨rfl, rfl⟩
       refine' DT.b rfl rfl rfl ?hq ?_
       case hq =>
         refine WO.load rfl rfl (Cell.own (Pick.tail (Pick.head)) rfl) rfl ?_
         exact WO.nil ⟨rfl, rfl⟩
       refine' DT.r rfl rfl rfl ?hq ?_
       case hq =>
         refine WO.p rfl rfl ?_
         exact WO.nil ⟨rfl, rfl⟩
       refine' DT.r rfl rfl rfl ?hq ?_
       case hq =>
         refine WO.ar rfl rfl rfl (by (first | (unfold in64; omega) | (unfold in64; omega) | exact tdiv_in (by omega) (by omega) (by unfold in64; omega))) rfl ?_
         exact WO.nil ⟨rfl, rfl⟩
       refine' DT.r rfl rfl rfl ?hq ?_
       case hq =>
         refine WO.p rfl rfl ?_
         exact WO.nil ⟨rfl, rfl⟩
       refine' DT.r rfl rfl rfl ?hq ?_
       case hq =>
         refine WO.ar rfl rfl rfl (by (first | (unfold in64; omega) | (unfold in64; omega) | exact tdiv_in (by omega) (by omega) (by unfold in64; omega))) rfl ?_
         exact WO.nil ⟨rfl, rfl⟩
       refine' DT.r rfl rfl rfl ?hq ?_
       case hq =>
         refine WO.p rfl rfl ?_
         exact WO.nil ⟨rfl, rfl⟩
       refine DT.nil [_, _] rfl ?_
       refine WO.p rfl rfl ?_
       refine WO.nil ?_
       refine W.sreg ?_
       refine WO.p rfl rfl (WO.p rfl rfl (WO.ar rfl rfl rfl (by (first | (unfold in64; omega) | (unfold in64; omega) | exact tdiv_in (by omega) (by omega) (by unfold in64; omega))) rfl (WO.p rfl rfl (WO.p rfl rfl (WO.ar rfl rfl rfl (by (first | (unfold in64; omega) | (unfold in64; omega) | exact tdiv_in (by omega) (by omega) (by unfold in64; omega))) rfl (WO.ar rfl rfl rfl (by (first | (unfold in64; omega) | (unfold in64; omega) | exact tdiv_in (by omega) (by omega) (by unfold in64; omega))) rfl (WO.p rfl rfl (WO.p rfl rfl (WO.ar rfl rfl rfl (by (first | (unfold in64; omega) | (unfold in64; omega) | exact tdiv_in (by omega) (by omega) (by unfold in64; omega))) rfl (WO.p rfl rfl (WO.p rfl rfl ?_)))))))))))
       refine WO.nil ?_
       refine W.sreg ?_
       refine WO.p rfl rfl (WO.p rfl rfl ?_)
       refine WO.callR rfl Try.call75 (fun L w hi => ref_gcd w _ _ (by omega) (by omega)) rfl ?_
       refine WO.p rfl rfl ?_
       refine WO.nil ?_
       refine W.seq ?_
       refine W.drawD 10 [.r 0 [], .r 1 [], .r 2 [], .r 3 [], .r 4 [], .r 5 [], .r 6 [], .r 7 [], .r 8 [], .r 9 []] [] (A0 := []) (Sub.refl _) (by kernel_rfl) ?_ ?_
       · exact (ALok.r (ALok.r (ALok.r (ALok.r (ALok.r (ALok.r (ALok.r (ALok.r (ALok.r (ALok.r ALok.nil))))))))))
       refine' DT.r rfl rfl rfl ?hq ?_
       case hq =>
         refine WO.p rfl rfl ?_
         exact WO.nil ⟨rfl, rfl⟩
       refine' DT.r rfl rfl rfl ?hq ?_
       case hq =>
         refine WO.p rfl rfl ?_
         exact WO.nil ⟨rfl, rfl⟩
       refine' DT.r rfl rfl rfl ?hq ?_
       case hq =>
         refine WO.p rfl rfl ?_
         exact WO.nil ⟨rfl, rfl⟩
       refine' DT.r rfl rfl rfl ?hq ?_
       case hq =>
         refine WO.p rfl rfl ?_
         exact WO.nil ⟨rfl, rfl⟩
       refine' DT.r rfl rfl rfl ?hq ?_
       case hq =>
         refine WO.p rfl rfl ?_
         exact WO.nil ⟨rfl, rfl⟩
       refine' DT.r rfl rfl rfl ?hq ?_
       case hq =>
         refine WO.quo rfl rfl (by first | omega | assumption) (by (first | (unfold in64; omega) | (unfold in64; omega) | exact tdiv_in (by omega) (by omega) (by unfold in64; omega))) rfl ?_
         exact WO.nil ⟨rfl, rfl⟩
       refine' DT.r rfl rfl rfl ?hq ?_
       case hq =>
         refine WO.p rfl rfl ?_
         exact WO.nil ⟨rfl, rfl⟩
       refine' DT.r rfl rfl rfl ?hq ?_
       case hq =>
         refine WO.p rfl rfl ?_
         exact WO.nil ⟨rfl, rfl⟩
       refine' DT.r rfl rfl rfl ?hq ?_
       case hq =>
         refine WO.quo rfl rfl (by first | omega | assumption) (by (first | (unfold in64; omega) | (unfold in64; omega) | exact tdiv_in (by omega) (by omega) (by unfold in64; omega))) rfl ?_
         exact WO.nil ⟨rfl, rfl⟩
       refine' DT.r rfl rfl rfl ?hq ?_
       case hq =>
         refine' WO.build (cs := _) rfl rfl rfl ?hf rfl ?_
         case hf => (conv => lhs; simp [-List.getD_eq_getElem?_getD, -Int.neg_tdiv, fillL, vcl, wrl, TTab.pl?.lget']) <;> rfl
         exact WO.nil ⟨rfl, rfl⟩
       refine DT.nil [_, _] rfl ?_
       refine' WO.build (cs := _) rfl rfl rfl ?hf rfl ?_
       case hf => (conv => lhs; simp [-List.getD_eq_getElem?_getD, -Int.neg_tdiv, fillL, vcl, wrl, TTab.pl?.lget']) <;> rfl
       refine WO.storeA rfl rfl rfl rfl Pick.head rfl rfl ?_
       refine WO.nil ?_
       refine W.ret ?_
       refine fin.ret (Res.one rfl (RV.cell rfl rfl rfl (Cells.own (by repeat (first | exact Pick.head | apply Pick.tail))))) ?_
       first | rfl)
  · first
    | (exfalso; omega)
    | (refine W.skip ?_
       refine W.sreg ?_
       refine WO.p rfl rfl ?_
       refine WO.callR rfl Try.call76 (fun L w hi => ref_amount w _ (by unfold in64; omega)) rfl ?_
       refine WO.p rfl rfl ?_
       refine WO.callR rfl Try.call76 (fun L w hi => ref_amount w _ (by unfold in64; omega)) rfl ?_
       refine WO.callR rfl Try.call75 (fun L w hi => ref_gcd w _ _ (ab_nn _) (ab_nn _)) rfl ?_
       refine WO.p rfl rfl ?_
       refine WO.callR (r := .int .i64 (gcd3 (-x) (-y) (-den))) rfl Try.call75 (fun L w hi => ref_gcd w _ (-den) (gcd2_nn _ _) (by omega)) rfl ?_
       refine WO.p rfl rfl ?_
       refine WO.nil ?_
       refine W.seq ?_
       refine W.drawD 11 [.r 0 [], .r 1 [], .r 2 [], .r 3 [0], .r 4 [0], .r 5 [0], .r 6 [0, 1], .r 7 [0, 1], .r 8 [0, 1], .r 9 [0], .r 10 [0, 1]] [0, 1] (A0 := []) (Sub.refl _) (by kernel_rfl) ?_ ?_
       · exact (ALok.r (ALok.r (ALok.r (ALok.r (ALok.r (ALok.r (ALok.r (ALok.r (ALok.r (ALok.r (ALok.r ALok.nil)))))))))))
       refine' DT.r rfl rfl rfl ?hq ?_
       case hq =>
         refine WO.p rfl rfl ?_
         exact WO.nil ⟨rfl, rfl⟩
       refine' DT.r rfl rfl rfl ?hq ?_
       case hq =>
         refine WO.p rfl rfl ?_
         exact WO.nil ⟨rfl, rfl⟩
       refine' DT.r rfl rfl rfl ?hq ?_
       case hq =>
         refine WO.quo rfl rfl (by first | omega | assumption) (by (first | (unfold in64; omega) | (unfold in64; omega) | exact tdiv_in (by omega) (by omega) (by unfold in64; omega))) rfl ?_
         exact WO.nil ⟨rfl, rfl⟩
       refine' DT.r rfl rfl rfl ?hq ?_
       case hq =>
         refine WO.p rfl rfl ?_
         exact WO.nil ⟨rfl, rfl⟩
       refine' DT.r rfl rfl rfl ?hq ?_
       case hq =>
         refine WO.p rfl rfl ?_
         exact WO.nil ⟨rfl, rfl⟩
       refine' DT.r rfl rfl rfl ?hq ?_
       case hq =>
         refine WO.quo rfl rfl (by first | omega | assumption) (by (first | (unfold in64; omega) | (unfold in64; omega) | exact tdiv_in (by omega) (by omega) (by unfold in64; omega))) rfl ?_
         exact WO.nil ⟨rfl, rfl⟩
       refine' DT.r rfl rfl rfl ?hq ?_
       case hq =>
         refine WO.p rfl rfl ?_
         exact WO.nil ⟨rfl, rfl⟩
       refine' DT.r rfl rfl rfl ?hq ?_
       case hq =>
         refine WO.p rfl rfl ?_
         exact WO.nil ⟨rfl, rfl⟩
       refine' DT.r rfl rfl rfl ?hq ?_
       case hq =>
         refine WO.quo rfl rfl (by first | omega | assumption) (by (first | (unfold in64; omega) | (unfold in64; omega) | exact tdiv_in (by omega) (by omega) (by unfold in64; omega))) rfl ?_
         exact WO.nil ⟨rfl, rfl⟩
       refine' DT.r rfl rfl rfl ?hq ?_
       case hq =>
         refine WO.p rfl rfl ?_
         exact WO.nil ⟨rfl, rfl⟩
       refine' DT.r rfl rfl rfl ?hq ?_
       case hq =>
         refine WO.p rfl rfl ?_
         exact WO.nil ⟨rfl, rfl⟩
       refine DT.nil [_, _] rfl ?_
       refine WO.p rfl rfl ?_
       refine WO.nil ?_
       refine W.seq ?_
       refine W.drawD 13 [.r 0 [], .b 1 [], .r 2 [], .r 3 [], .r 4 [], .r 5 [], .r 6 [], .b 7 [], .r 8 [], .r 9 [], .r 10 [], .r 11 [], .r 12 []] [] (A0 := []) (Sub.refl _) (by kernel_rfl) ?_ ?_
       · exact (ALok.r (ALok.b (ALok.r (ALok.r (ALok.r (ALok.r (ALok.r (ALok.b (ALok.r (ALok.r (ALok.r (ALok.r (ALok.r ALok.nil)))))))))))))
       refine' DT.r rfl rfl rfl ?hq ?_
       case hq =>
         refine WO.field0 rfl rfl rfl ?_
         exact WO.nil ⟨rfl, rfl⟩
       refine' DT.b rfl rfl rfl ?hq ?_
       case hq =>
         refine WO.load rfl rfl (Cell.own (Pick.tail (Pick.head)) rfl) rfl ?_
         exact WO.nil ⟨rfl, rfl⟩
       refine' DT.r rfl rfl rfl ?hq ?_
       case hq =>
         refine WO.p rfl rfl ?_
         exact WO.nil ⟨rfl, rfl⟩
       refine' DT.r rfl rfl rfl ?hq ?_
       case hq =>
         refine WO.ar rfl rfl rfl (by (first | (unfold in64; omega) | (unfold in64; omega) | exact tdiv_in (by omega) (by omega) (by unfold in64; omega))) rfl ?_
         exact WO.nil ⟨rfl, rfl⟩
       refine' DT.r rfl rfl rfl ?hq ?_
       case hq =>
         refine WO.p rfl rfl ?_
         exact WO.nil ⟨rfl, rfl⟩
       refine' DT.r rfl rfl rfl ?hq ?_
       case hq =>
         refine WO.ar rfl rfl rfl (by (first | (unfold in64; omega) | (unfold in64; omega) | exact tdiv_in (by omega) (by omega) (by unfold in64; omega))) rfl ?_
         exact WO.nil ⟨rfl, rfl⟩
       refine' DT.r rfl rfl rfl ?hq ?_
       case hq =>
         refine WO.fieldL rfl rfl rfl ?_
         exact WO.nil ⟨rfl, rfl⟩
       refine' DT.b rfl rfl rfl ?hq ?_
       case hq =>
         refine WO.load rfl rfl (Cell.own (Pick.tail (Pick.head)) rfl) rfl ?_
         exact WO.nil ⟨rfl, rfl⟩
       refine' DT.r rfl rfl rfl ?hq ?_
       case hq =>
         refine WO.p rfl rfl ?_
         exact WO.nil ⟨rfl, rfl⟩
       refine' DT.r rfl rfl rfl ?hq ?_
       case hq =>
         refine WO.ar rfl rfl rfl (by (first | (unfold in64; omega) | (unfold in64; omega) | exact tdiv_in (by omega) (by omega) (by unfold in64; omega))) rfl ?_
         exact WO.nil ⟨rfl, rfl⟩
       refine' DT.r rfl rfl rfl ?hq ?_
       case hq =>
         refine WO.p rfl rfl ?_
         exact WO.nil ⟨rfl, rfl⟩
       refine' DT.r rfl rfl rfl ?hq ?_
       case hq =>
         refine WO.ar rfl rfl rfl (by (first | (unfold in64; omega) | (unfold in64; omega) | exact tdiv_in (by omega) (by omega) (by unfold in64; omega))) rfl ?_
         exact WO.nil ⟨rfl, rfl⟩
       refine' DT.r rfl rfl rfl ?hq ?_
       case hq =>
         refine WO.p rfl rfl ?_
         exact WO.nil ⟨rfl, rfl⟩
       refine DT.nil [_, _] rfl ?_
       refine WO.p rfl rfl ?_
       refine WO.nil ?_
       refine W.sreg ?_
       refine WO.p rfl rfl (WO.p rfl rfl (WO.ar rfl rfl rfl (by (first | (unfold in64; omega) | (unfold in64; omega) | exact tdiv_in (by omega) (by omega) (by unfold in64; omega))) rfl (WO.p rfl rfl (WO.p rfl rfl (WO.ar rfl rfl rfl (by (first | (unfold in64; omega) | (unfold in64; omega) | exact tdiv_in (by omega) (by omega) (by unfold in64; omega))) rfl (WO.ar rfl rfl rfl (by (first | (unfold in64; omega) | (unfold in64; omega) | exact tdiv_in (by omega) (by omega) (by unfold in64; omega))) rfl (WO.p rfl rfl (WO.p rfl rfl (WO.ar rfl rfl rfl (by (first | (unfold in64; omega) | (unfold in64; omega) | exact tdiv_in (by omega) (by omega) (by unfold in64; omega))) rfl (WO.p rfl rfl (WO.p rfl rfl ?_)))))))))))
       refine WO.nil ?_
       refine W.sreg ?_
       refine WO.p rfl rfl (WO.p rfl rfl ?_)
       refine WO.callR rfl Try.call75 (fun L w hi => ref_gcd w _ _ (by omega) (by omega)) rfl ?_
       refine WO.p rfl rfl ?_
       refine WO.nil ?_
       refine W.seq ?_
       refine W.drawD 10 [.r 0 [], .r 1 [], .r 2 [], .r 3 [], .r 4 [], .r 5 [], .r 6 [], .r 7 [], .r 8 [], .r 9 []] [] (A0 := []) (Sub.refl _) (by kernel_rfl) ?_ ?_
       · exact (ALok.r (ALok.r (ALok.r (ALok.r (ALok.r (ALok.r (ALok.r (ALok.r (ALok.r (ALok.r ALok.nil))))))))))
       refine' DT.r rfl rfl rfl ?hq ?_
       case hq =>
         refine WO.p rfl rfl ?_
         exact WO.nil ⟨rfl, rfl⟩
       refine' DT.r rfl rfl rfl ?hq ?_
       case hq =>
         refine WO.p rfl rfl ?_
         exact WO.nil ⟨rfl, rfl⟩
       refine' DT.r rfl rfl rfl ?hq ?_
       case hq =>
         refine WO.p rfl rfl ?_
         exact WO.nil ⟨rfl, rfl⟩
       refine' DT.r rfl rfl rfl ?hq ?_
       case hq =>
         refine WO.p rfl rfl ?_
         exact WO.nil ⟨rfl, rfl⟩
       refine' DT.r rfl rfl rfl ?hq ?_
       case hq =>
         refine WO.p rfl rfl ?_
         exact WO.nil ⟨rfl, rfl⟩
       refine' DT.r rfl rfl rfl ?hq ?_
       case hq =>
         refine WO.quo rfl rfl (by first | omega | assumption) (by (first | (unfold in64; omega) | (unfold in64; omega) | exact tdiv_in (by omega) (by omega) (by unfold in64; omega))) rfl ?_
         exact WO.nil ⟨rfl, rfl⟩
       refine' DT.r rfl rfl rfl ?hq ?_
       case hq =>
         refine WO.p rfl rfl ?_
         exact WO.nil ⟨rfl, rfl⟩
       refine' DT.r rfl rfl rfl ?hq ?_
       case hq =>
         refine WO.p rfl rfl ?_
         exact WO.nil ⟨rfl, rfl⟩
       refine' DT.r rfl rfl rfl ?hq ?_
       case hq =>
         refine WO.quo rfl rfl (by first | omega | assumption) (by (first | (unfold in64; omega) | (unfold in64; omega) | exact tdiv_in (by omega) (by omega) (by unfold in64; omega))) rfl ?_
         exact WO.nil ⟨rfl, rfl⟩
       refine' DT.r rfl rfl rfl ?hq ?_
       case hq =>
         refine' WO.build (cs := _) rfl rfl rfl ?hf rfl ?_
         case hf => (conv => lhs; simp [-List.getD_eq_getElem?_getD, -Int.neg_tdiv, fillL, vcl, wrl, TTab.pl?.lget']) <;> rfl
         exact WO.nil ⟨rfl, rfl⟩
       refine DT.nil [_, _] rfl ?_
       refine' WO.build (cs := _) rfl rfl rfl ?hf rfl ?_
       case hf => (conv => lhs; simp [-List.getD_eq_getElem?_getD, -Int.neg_tdiv, fillL, vcl, wrl, TTab.pl?.lget']) <;> rfl
       refine WO.storeA rfl rfl rfl rfl Pick.head rfl rfl ?_
       refine WO.nil ?_
       refine W.ret ?_
       refine fin.ret (Res.one rfl (RV.cell rfl rfl rfl (Cells.own (by repeat (first | exact Pick.head | apply Pick.tail))))) ?_
       first | rfl)
theorem ref_circle (w : World) (x y den : Int) (p : Int × Int) (hp : OkP p) (hd : den ≠ 0) (hd2 : -262144 ≤ den ∧ den ≤ 262144) (hx : -268435456 ≤ x ∧ x ≤ 268435456) (hy : -268435456 ≤ y ∧ y ≤ 268435456) :
    Ret Try.prog 55 [.int .i64 x, .int .i64 y, .int .i64 den, .agg #[.int .i64 p.1, .int .i64 p.2]].toArray w (cirV (mkR x y den p)) := by
  unfold mkR; split
  · exact ref_circleN w x y den p hp (by omega) hd2 hx hy
  · exact ref_circleP w x y den p hp (by omega) hd2 hx hy
theorem c_alone (w : World) (p : Int × Int) (hp : OkP p) : RetE Try.prog 65 [.agg #[.int .i64 p.1, .int .i64 p.2]].toArray w (RingR (aloneC p)) := by
  refine RetE.of mixed tyTab Try.func65 rfl rfl ?_
  obtain ⟨h1, h2⟩ := id hp
  refine W.sreg ?_
  refine WO.boxA rfl rfl (fun b1 hb1 => ?_)
  refine WO.alloc rfl rfl rfl (fun b2 hb2 => ?_)
  refine WO.nil ?_
  refine W.sreg ?_
  refine WO.indexArrL (o' := 0) rfl rfl rfl (by decide) rfl rfl ?_
  refine WO.load rfl rfl (Cell.own (Pick.tail (Pick.head)) rfl) rfl ?_
  refine WO.indexArrL (o' := 1) rfl rfl rfl (by decide) rfl rfl ?_
  refine WO.load rfl rfl (Cell.own (Pick.tail (Pick.head)) rfl) rfl (WO.loadA rfl rfl (Cells.own (Pick.tail (Pick.head))) rfl rfl ?_)
  refine' WO.buildSl (cs := _) rfl rfl rfl rfl ?hf rfl rfl ?hl rfl (fun v3 => ?_)
  case hf => (conv => lhs; simp [-List.getD_eq_getElem?_getD, fillL, vcl, wrl, TTab.pl?.lget']) <;> rfl
  case hl => rfl
  refine WO.callR (r := ringV (aloneC p) (.slice (some ⟨v3, 0, none⟩) 1 1)) rfl Try.call74 (fun L w hi => c_newRing w p.1 p.2 1 _ p [] (RdF.of_ow (e := 74) encP_ok (by repeat (first | exact Pick.head | apply Pick.tail)) hi) hp (by omega) (by omega) (by omega) (by omega)) rfl ?_
  refine WO.storeA rfl rfl rfl rfl (Pick.tail (Pick.head)) rfl rfl ?_
  refine WO.nil ?_
  refine W.ret ?_
  exact fin.ret (Res.one rfl (RV.cell rfl rfl rfl (Cells.own (by repeat (first | exact Pick.head | apply Pick.tail))))) ⟨_, _, _, rfl⟩
theorem eq74 (a b c d : Int) : EqT Try.prog .eql 74 (.agg #[.int .i64 a, .int .i64 b]) (.agg #[.int .i64 c, .int .i64 d]) (.bool (bl ((a, b) = (c, d)))) := by
  intro x y w
  obtain ⟨i, hi⟩ : ∃ i, Try.prog.info? 2 = some i := ⟨_, rfl⟩
  have hc : Try.prog.cellsOf 2 = 1 := rfl
  have h : (Op.equalIn 10000 74 (.agg #[.int .i64 a, .int .i64 b]) (.agg #[.int .i64 c, .int .i64 d])).run Try.prog w = .ok (bl ((a, b) = (c, d))) w := by
    rw [show (10000 : Nat) = 9999 + 1 from rfl, run_equalIn_array _ 9999 (t := 74) (e := 2) (n := 2) _ _ rfl hi, hc]
    simp [Op.eqItems, go_sem, List.range, List.range.loop, Try.underlying2]
    by_cases h1 : a = c <;> by_cases h2 : b = d <;> simp [h1, h2, bl_eq]
  simp [go_sem, Try.eqGuardType74, Try.underlying74, h]
theorem c_between (w : World) (p q : Int × Int) (hp : OkP p) (hq : OkP q) : RetE Try.prog 81 [.agg #[.int .i64 p.1, .int .i64 p.2], .agg #[.int .i64 q.1, .int .i64 q.2]].toArray w (RingR (betwC p q)) := by
  refine RetE.of mixed tyTab Try.func81 rfl rfl ?_
  obtain ⟨h1, h2⟩ := id hp
  obtain ⟨h3, h4⟩ := id hq
  refine W.sreg ?_
  refine WO.boxA rfl rfl (fun b1 hb1 => ?_)
  refine WO.boxA rfl rfl (fun b2 hb2 => ?_)
  refine WO.alloc rfl rfl rfl (fun b3 hb3 => ?_)
  refine WO.nil ?_
  refine W.seq ?_
  refine W.sreg ?_
  refine WO.loadA rfl rfl (Cells.own (Pick.tail (Pick.tail (Pick.head)))) rfl rfl (WO.loadA rfl rfl (Cells.own (Pick.tail (Pick.head))) rfl rfl ?_)
  refine WO.eqT rfl rfl (eq74 _ _ _ _) rfl ?_
  refine WO.nil ?_
  refine W.cond_bl rfl (fun c1 => ?_) (fun c1 => ?_)
  · first
    | (exfalso; omega)
    | (refine W.sreg ?_
       refine WO.loadA rfl rfl (Cells.own (Pick.tail (Pick.tail (Pick.head)))) rfl rfl ?_
       refine WO.callE rfl Try.call65 (fun L w hi => c_alone w p hp) rfl ?_
       rintro _ ⟨a, n, k, rfl⟩
       refine WO.storeA rfl rfl rfl rfl Pick.head rfl rfl ?_
       refine WO.nil ?_
       refine W.ret ?_
       refine fin.ret (Res.one rfl (RV.cell rfl rfl rfl (Cells.own (by repeat (first | exact Pick.head | apply Pick.tail))))) ?_
       first | exact ⟨_, _, _, rfl⟩ | (obtain rfl : p = q := (by assumption); rw [betwC_same]; exact ⟨_, _, _, rfl⟩))
  · first
    | (exfalso; omega)
    | (refine W.skip ?_
       refine W.sreg ?_
       refine WO.indexArrL (o' := 0) rfl rfl rfl (by decide) rfl rfl ?_
       refine WO.load rfl rfl (Cell.own (Pick.tail (Pick.tail (Pick.head))) rfl) rfl ?_
       refine WO.indexArrL (o' := 0) rfl rfl rfl (by decide) rfl rfl ?_
       refine WO.load rfl rfl (Cell.own (Pick.tail (Pick.head)) rfl) rfl (WO.ar rfl rfl rfl (by (first | (unfold in64; omega) | (unfold in64; omega))) rfl ?_)
       refine WO.indexArrL (o' := 1) rfl rfl rfl (by decide) rfl rfl ?_
       refine WO.load rfl rfl (Cell.own (Pick.tail (Pick.tail (Pick.head))) rfl) rfl ?_
       refine WO.indexArrL (o' := 1) rfl rfl rfl (by decide) rfl rfl ?_
       refine WO.load rfl rfl (Cell.own (Pick.tail (Pick.head)) rfl) rfl (WO.ar rfl rfl rfl (by (first | (unfold in64; omega) | (unfold in64; omega))) rfl (WO.loadA rfl rfl (Cells.own (Pick.tail (Pick.tail (Pick.head)))) rfl rfl (WO.loadA rfl rfl (Cells.own (Pick.tail (Pick.head))) rfl rfl ?_)))
       refine' WO.buildSl (cs := _) rfl rfl rfl rfl ?hf rfl rfl ?hl rfl (fun v4 => ?_)
       case hf => (conv => lhs; simp [-List.getD_eq_getElem?_getD, fillL, vcl, wrl, TTab.pl?.lget']) <;> rfl
       case hl => rfl
       refine WO.callR (r := ringV (betwC p q) (.slice (some ⟨v4, 0, none⟩) 2 2)) rfl Try.call74 (fun L w hi => c_newRing w (p.1 + q.1) (p.2 + q.2) 2 _ p [q] (RdF.of_ow (e := 74) encP_ok (by repeat (first | exact Pick.head | apply Pick.tail)) hi) hp (by omega) (by omega) (by omega) (by omega)) rfl ?_
       refine WO.storeA rfl rfl rfl rfl (Pick.tail (Pick.head)) rfl rfl ?_
       refine WO.nil ?_
       refine W.ret ?_
       refine fin.ret (Res.one rfl (RV.cell rfl rfl rfl (Cells.own (by repeat (first | exact Pick.head | apply Pick.tail))))) ?_
       first | exact ⟨_, _, _, rfl⟩ | (obtain rfl : p = q := (by assumption); rw [betwC_same]; exact ⟨_, _, _, rfl⟩))
/-- what through answers -/
def ThrR (a b c : Int × Int) (r : Value) : Prop := ∃ (c' : Cir) (x : Option Addr) (n k : Nat), r = .tuple #[ringV c' (.slice x n k), .bool (bl (cross a b c ≠ 0))] ∧ (cross a b c ≠ 0 → c' = thrC a b c)
theorem ThrR.no {a b c : Int × Int} (h : cross a b c = 0) : ThrR a b c (.tuple #[ringV ⟨0, 0, 0, 0, 0⟩ (.slice none 0 0), .bool false]) := ⟨_, _, _, _, by rw [bl_f.2 (fun g => g h)], fun g => absurd h g⟩
theorem ThrR.yes {a b c : Int × Int} {x : Option Addr} {n k : Nat} (h : cross a b c ≠ 0) : ThrR a b c (.tuple #[ringV (thrC a b c) (.slice x n k), .bool true]) := ⟨_, _, _, _, by rw [bl_t.2 h], fun _ => rfl⟩
theorem two_get {u v : Int} : ∀ (i : Nat) (x : Int), [u, v][i]? = some x → ∃ z, encI x = [z] ∧ lget [.int .i64 u, .int .i64 v] (0 + i) = some z := fun i x h => by
  match i with
  | 0 => simp at h; subst h; exact ⟨_, rfl, rfl⟩
  | 1 => simp at h; subst h; exact ⟨_, rfl, rfl⟩
  | i + 2 => simp at h
theorem c_through (w : World) (a b c : Int × Int) (ha : OkP a) (hb : OkP b) (hc : OkP c) : RetE Try.prog 54 [.agg #[.int .i64 a.1, .int .i64 a.2], .agg #[.int .i64 b.1, .int .i64 b.2], .agg #[.int .i64 c.1, .int .i64 c.2]].toArray w (ThrR a b c) := by
  refine RetE.of mixed tyTab Try.func54 rfl rfl ?_
  have d1 := dist_bd hb ha
  have d2 := dist_bd hc ha
  have hx := cross_bd ha hb hc
  have bx := nx_bd ha hb hc
  have bY := ny_bd ha hb hc
  obtain ⟨a1, a2⟩ := id ha
  obtain ⟨b1', b2'⟩ := id hb
  obtain ⟨c1', c2'⟩ := id hc
  have m1 := mul_bd (a := b.1 - a.1) (b := c.2 - a.2) (A := 200) (B := 200) (by omega) (by omega)
  have m2 := mul_bd (a := b.2 - a.2) (b := c.1 - a.1) (A := 200) (B := 200) (by omega) (by omega)
  have n1 := mul_bd (a := a.1) (b := 2 * cross a b c) (A := 100) (B := 160000) (by omega) (by omega)
  have n2 := mul_bd (a := (b.1 - a.1) * (b.1 - a.1) + (b.2 - a.2) * (b.2 - a.2)) (b := c.2 - a.2) (A := 80000) (B := 200) (by omega) (by omega)
  have n3 := mul_bd (a := (c.1 - a.1) * (c.1 - a.1) + (c.2 - a.2) * (c.2 - a.2)) (b := b.2 - a.2) (A := 80000) (B := 200) (by omega) (by omega)
  have n4 := mul_bd (a := a.2) (b := 2 * cross a b c) (A := 100) (B := 160000) (by omega) (by omega)
  have n5 := mul_bd (a := (c.1 - a.1) * (c.1 - a.1) + (c.2 - a.2) * (c.2 - a.2)) (b := b.1 - a.1) (A := 80000) (B := 200) (by omega) (by omega)
  have n6 := mul_bd (a := (b.1 - a.1) * (b.1 - a.1) + (b.2 - a.2) * (b.2 - a.2)) (b := c.1 - a.1) (A := 80000) (B := 200) (by omega) (by omega)
  have hcr : (b.1 - a.1) * (c.2 - a.2) - (b.2 - a.2) * (c.1 - a.1) = cross a b c := rfl
  rw [← hcr] at n1 n4
  refine W.sreg ?_
  refine WO.boxA rfl rfl (fun b1 hb1 => ?_)
  refine WO.boxA rfl rfl (fun b2 hb2 => ?_)
  refine WO.boxA rfl rfl (fun b3 hb3 => ?_)
  refine WO.alloc rfl rfl rfl (fun b4 hb4 => ?_)
  refine WO.p rfl rfl ?_
  refine WO.nil ?_
  refine W.seq ?_
  refine W.drawD 25 [.r 0 [], .b 1 [], .r 2 [], .b 3 [], .r 4 [], .r 5 [], .b 6 [], .r 7 [], .b 8 [], .r 9 [], .r 10 [], .r 11 [], .b 12 [], .r 13 [], .b 14 [], .r 15 [], .r 16 [], .b 17 [], .r 18 [], .b 19 [], .r 20 [], .r 21 [], .a 22 8 (.cells #[.int .i64 0, .int .i64 0] 74 (0, 0)), .a 23 9 (.cells #[.int .i64 0, .int .i64 0] 74 (0, 0)), .s 24 []] [] (A0 := []) (Sub.refl _) (by kernel_rfl) ?_ ?_
  · exact (ALok.r (ALok.b (ALok.r (ALok.b (ALok.r (ALok.r (ALok.b (ALok.r (ALok.b (ALok.r (ALok.r (ALok.r (ALok.b (ALok.r (ALok.b (ALok.r (ALok.r (ALok.b (ALok.r (ALok.b (ALok.r (ALok.r (ALok.cons rfl rfl rfl rfl rfl (ALok.cons rfl rfl rfl rfl rfl (ALok.s ALok.nil)))))))))))))))))))))))))
  refine' DT.r rfl rfl rfl ?hq ?_
  case hq =>
    refine WO.indexArrL (o' := 0) rfl rfl rfl (by decide) rfl rfl ?_
    exact WO.nil ⟨rfl, rfl⟩
  refine' DT.b rfl rfl rfl ?hq ?_
  case hq =>
    refine WO.load rfl rfl (Cell.own (Pick.tail (Pick.tail (Pick.head))) rfl) rfl ?_
    exact WO.nil ⟨rfl, rfl⟩
  refine' DT.r rfl rfl rfl ?hq ?_
  case hq =>
    refine WO.indexArrL (o' := 0) rfl rfl rfl (by decide) rfl rfl ?_
    exact WO.nil ⟨rfl, rfl⟩
  refine' DT.b rfl rfl rfl ?hq ?_
  case hq =>
    refine WO.load rfl rfl (Cell.own (Pick.tail (Pick.tail (Pick.tail (Pick.head)))) rfl) rfl ?_
    exact WO.nil ⟨rfl, rfl⟩
  refine' DT.r rfl rfl rfl ?hq ?_
  case hq =>
    refine WO.ar rfl rfl rfl (by (first | (unfold in64; omega) | (unfold in64; omega))) rfl ?_
    exact WO.nil ⟨rfl, rfl⟩
  refine' DT.r rfl rfl rfl ?hq ?_
  case hq =>
    refine WO.indexArrL (o' := 1) rfl rfl rfl (by decide) rfl rfl ?_
    exact WO.nil ⟨rfl, rfl⟩
  refine' DT.b rfl rfl rfl ?hq ?_
  case hq =>
    refine WO.load rfl rfl (Cell.own (Pick.tail (Pick.tail (Pick.head))) rfl) rfl ?_
    exact WO.nil ⟨rfl, rfl⟩
  refine' DT.r rfl rfl rfl ?hq ?_
  case hq =>
    refine WO.indexArrL (o' := 1) rfl rfl rfl (by decide) rfl rfl ?_
    exact WO.nil ⟨rfl, rfl⟩
  refine' DT.b rfl rfl rfl ?hq ?_
  case hq =>
    refine WO.load rfl rfl (Cell.own (Pick.tail (Pick.tail (Pick.tail (Pick.head)))) rfl) rfl ?_
    exact WO.nil ⟨rfl, rfl⟩
  refine' DT.r rfl rfl rfl ?hq ?_
  case hq =>
    refine WO.ar rfl rfl rfl (by (first | (unfold in64; omega) | (unfold in64; omega))) rfl ?_
    exact WO.nil ⟨rfl, rfl⟩
  refine' DT.r rfl rfl rfl ?hq ?_
  case hq =>
    refine' WO.build (cs := _) rfl rfl rfl ?hf rfl ?_
    case hf => (conv => lhs; simp [-List.getD_eq_getElem?_getD, fillL, vcl, wrl, TTab.pl?.lget']) <;> rfl
    exact WO.nil ⟨rfl, rfl⟩
  refine' DT.r rfl rfl rfl ?hq ?_
  case hq =>
    refine WO.indexArrL (o' := 0) rfl rfl rfl (by decide) rfl rfl ?_
    exact WO.nil ⟨rfl, rfl⟩
  refine' DT.b rfl rfl rfl ?hq ?_
  case hq =>
    refine WO.load rfl rfl (Cell.own (Pick.tail (Pick.head)) rfl) rfl ?_
    exact WO.nil ⟨rfl, rfl⟩
  refine' DT.r rfl rfl rfl ?hq ?_
  case hq =>
    refine WO.indexArrL (o' := 0) rfl rfl rfl (by decide) rfl rfl ?_
    exact WO.nil ⟨rfl, rfl⟩
  refine' DT.b rfl rfl rfl ?hq ?_
  case hq =>
    refine WO.load rfl rfl (Cell.own (Pick.tail (Pick.tail (Pick.tail (Pick.head)))) rfl) rfl ?_
    exact WO.nil ⟨rfl, rfl⟩
  refine' DT.r rfl rfl rfl ?hq ?_
  case hq =>
    refine WO.ar rfl rfl rfl (by (first | (unfold in64; omega) | (unfold in64; omega))) rfl ?_
    exact WO.nil ⟨rfl, rfl⟩
  refine' DT.r rfl rfl rfl ?hq ?_
  case hq =>
    refine WO.indexArrL (o' := 1) rfl rfl rfl (by decide) rfl rfl ?_
    exact WO.nil ⟨rfl, rfl⟩
  refine' DT.b rfl rfl rfl ?hq ?_
  case hq =>
    refine WO.load rfl rfl (Cell.own (Pick.tail (Pick.head)) rfl) rfl ?_
    exact WO.nil ⟨rfl, rfl⟩
  refine' DT.r rfl rfl rfl ?hq ?_
  case hq =>
    refine WO.indexArrL (o' := 1) rfl rfl rfl (by decide) rfl rfl ?_
    exact WO.nil ⟨rfl, rfl⟩
  refine' DT.b rfl rfl rfl ?hq ?_
  case hq =>
    refine WO.load rfl rfl (Cell.own (Pick.tail (Pick.tail (Pick.tail (Pick.head)))) rfl) rfl ?_
    exact WO.nil ⟨rfl, rfl⟩
  refine' DT.r rfl rfl rfl ?hq ?_
  case hq =>
    refine WO.ar rfl rfl rfl (by (first | (unfold in64; omega) | (unfold in64; omega))) rfl ?_
    exact WO.nil ⟨rfl, rfl⟩
  refine' DT.r rfl rfl rfl ?hq ?_
  case hq =>
    refine' WO.build (cs := _) rfl rfl rfl ?hf rfl ?_
    case hf => (conv => lhs; simp [-List.getD_eq_getElem?_getD, fillL, vcl, wrl, TTab.pl?.lget']) <;> rfl
    exact WO.nil ⟨rfl, rfl⟩
  refine DT.a (fun b5 => ?_)
  refine DT.a (fun b6 => ?_)
  refine DT.s [_, _, _, _, _, _] rfl rfl rfl ?_
  refine WO.storeA rfl rfl rfl rfl (Pick.tail (Pick.head)) rfl rfl ?_
  refine WO.nil ⟨[_, _], rfl, rfl, (Keep.a (Keep.a (Keep.r (Keep.r (Keep.b (Keep.r (Keep.b (Keep.r (Keep.r (Keep.b (Keep.r (Keep.b (Keep.r (Keep.r (Keep.r (Keep.b (Keep.r (Keep.b (Keep.r (Keep.r (Keep.b (Keep.r (Keep.b (Keep.r Keep.nil)))))))))))))))))))))))), ?_⟩
  refine DT.nil [_, _, _, _, _, _] rfl ?_
  refine WO.storeA rfl rfl rfl rfl (Pick.tail (Pick.head)) rfl rfl ?_
  refine WO.nil ?_
  refine W.sreg ?_
  refine WO.indexArrL (o' := 0) rfl rfl rfl (by decide) rfl rfl ?_
  refine WO.load rfl rfl (Cell.own (Pick.tail (Pick.head)) rfl) rfl ?_
  refine WO.indexArrL (o' := 1) rfl rfl rfl (by decide) rfl rfl ?_
  refine WO.load rfl rfl (Cell.own Pick.head rfl) rfl (WO.ar rfl rfl rfl (by (first | (unfold in64; omega) | (unfold in64; omega))) rfl ?_)
  refine WO.indexArrL (o' := 1) rfl rfl rfl (by decide) rfl rfl ?_
  refine WO.load rfl rfl (Cell.own (Pick.tail (Pick.head)) rfl) rfl ?_
  refine WO.indexArrL (o' := 0) rfl rfl rfl (by decide) rfl rfl ?_
  refine WO.load rfl rfl (Cell.own Pick.head rfl) rfl (WO.ar rfl rfl rfl (by (first | (unfold in64; omega) | (unfold in64; omega))) rfl (WO.ar rfl rfl rfl (by (first | (unfold in64; omega) | (unfold in64; omega))) rfl (WO.ar rfl rfl rfl (by (first | (unfold in64; omega) | (unfold in64; omega))) rfl (WO.p rfl rfl ?_))))
  refine WO.nil ?_
  refine W.seq ?_
  refine W.sreg ?_
  refine WO.p rfl rfl (WO.p rfl rfl ?_)
  refine WO.nil ?_
  refine W.cond_bl rfl (fun c1 => ?_) (fun c1 => ?_)
  · first
    | (exfalso; omega)
    | (refine W.sreg ?_
       refine' WO.build (cs := _) rfl rfl rfl ?hf rfl ?_
       case hf => (conv => lhs; simp [-List.getD_eq_getElem?_getD, fillL, vcl, wrl, TTab.pl?.lget']) <;> rfl
       refine WO.storeA rfl rfl rfl rfl (Pick.tail (Pick.tail (Pick.head))) rfl rfl (WO.p rfl rfl ?_)
       refine WO.nil ?_
       refine W.ret ?_
       refine fin.ret (Res.two rfl (RV.cell rfl rfl rfl (Cells.own (by repeat (first | exact Pick.head | apply Pick.tail)))) (RV.tmp rfl)) ?_
       first | exact ThrR.no (by omega) | exact ThrR.yes (by omega))
  · first
    | (exfalso; omega)
    | (refine W.skip ?_
       refine W.seq ?_
       refine W.drawD 3 [.r 0 [], .b 1 [], .r 2 []] [] (A0 := []) (Sub.refl _) (by kernel_rfl) ?_ ?_
       · exact (ALok.r (ALok.b (ALok.r ALok.nil)))
       refine' DT.r rfl rfl rfl ?hq ?_
       case hq =>
         refine WO.sliceArr rfl rfl rfl ?_
         exact WO.nil ⟨rfl, rfl⟩
       refine' DT.b rfl rfl rfl ?hq ?_
       case hq =>
         refine WO.callR (r := .int .i64 ((b.1 - a.1) * (b.1 - a.1) + (b.2 - a.2) * (b.2 - a.2))) rfl Try.call69 (fun L w hi => by rw [← sqL2]; exact c_squares w _ [b.1 - a.1, b.2 - a.2] (RdF.of_pt (fun a => ⟨_, rfl⟩) (by repeat (first | exact Pick.head | apply Pick.tail)) hi rfl (by omega) two_get) (Nat.le_refl _) (all_two (by omega) (by omega))) rfl ?_
         exact WO.nil ⟨rfl, rfl⟩
       refine' DT.r rfl rfl rfl ?hq ?_
       case hq =>
         refine WO.sliceArr rfl rfl rfl ?_
         exact WO.nil ⟨rfl, rfl⟩
       refine DT.nil [_, _, _, _, _, _] rfl ?_
       refine WO.callR (r := .int .i64 ((c.1 - a.1) * (c.1 - a.1) + (c.2 - a.2) * (c.2 - a.2))) rfl Try.call69 (fun L w hi => by rw [← sqL2]; exact c_squares w _ [c.1 - a.1, c.2 - a.2] (RdF.of_pt (fun a => ⟨_, rfl⟩) (by repeat (first | exact Pick.head | apply Pick.tail)) hi rfl (by omega) two_get) (Nat.le_refl _) (all_two (by omega) (by omega))) rfl ?_
       refine WO.p rfl rfl (WO.p rfl rfl ?_)
       refine WO.nil ?_
       refine W.sreg ?_
       refine WO.indexArrL (o' := 0) rfl rfl rfl (by decide) rfl rfl ?_
       refine WO.load rfl rfl (Cell.own (Pick.tail (Pick.tail (Pick.tail (Pick.tail (Pick.tail (Pick.head)))))) rfl) rfl (WO.p rfl rfl (WO.ar rfl rfl rfl (by (first | (unfold in64; omega) | (unfold in64; omega))) rfl (WO.p rfl rfl ?_)))
       refine WO.indexArrL (o' := 1) rfl rfl rfl (by decide) rfl rfl ?_
       refine WO.load rfl rfl (Cell.own Pick.head rfl) rfl (WO.ar rfl rfl rfl (by (first | (unfold in64; omega) | (unfold in64; omega))) rfl (WO.ar rfl rfl rfl (by (first | (unfold in64; omega) | (unfold in64; omega))) rfl (WO.p rfl rfl ?_)))
       refine WO.indexArrL (o' := 1) rfl rfl rfl (by decide) rfl rfl ?_
       refine WO.load rfl rfl (Cell.own (Pick.tail (Pick.head)) rfl) rfl (WO.ar rfl rfl rfl (by (first | (unfold in64; omega) | (unfold in64; omega))) rfl (WO.ar rfl rfl rfl (by (first | (unfold in64; omega) | (unfold in64; omega))) rfl ?_))
       refine WO.indexArrL (o' := 1) rfl rfl rfl (by decide) rfl rfl ?_
       refine WO.load rfl rfl (Cell.own (Pick.tail (Pick.tail (Pick.tail (Pick.tail (Pick.tail (Pick.head)))))) rfl) rfl (WO.p rfl rfl (WO.ar rfl rfl rfl (by (first | (unfold in64; omega) | (unfold in64; omega))) rfl (WO.p rfl rfl ?_)))
       refine WO.indexArrL (o' := 0) rfl rfl rfl (by decide) rfl rfl ?_
       refine WO.load rfl rfl (Cell.own (Pick.tail (Pick.head)) rfl) rfl (WO.ar rfl rfl rfl (by (first | (unfold in64; omega) | (unfold in64; omega))) rfl (WO.ar rfl rfl rfl (by (first | (unfold in64; omega) | (unfold in64; omega))) rfl (WO.p rfl rfl ?_)))
       refine WO.indexArrL (o' := 0) rfl rfl rfl (by decide) rfl rfl ?_
       refine WO.load rfl rfl (Cell.own Pick.head rfl) rfl (WO.ar rfl rfl rfl (by (first | (unfold in64; omega) | (unfold in64; omega))) rfl (WO.ar rfl rfl rfl (by (first | (unfold in64; omega) | (unfold in64; omega))) rfl (WO.p rfl rfl (WO.loadA rfl rfl (Cells.own (Pick.tail (Pick.tail (Pick.tail (Pick.tail (Pick.tail (Pick.head))))))) rfl rfl (WO.loadA rfl rfl (Cells.own (Pick.tail (Pick.tail (Pick.tail (Pick.tail (Pick.head)))))) rfl rfl (WO.loadA rfl rfl (Cells.own (Pick.tail (Pick.tail (Pick.tail (Pick.head))))) rfl rfl ?_))))))
       refine' WO.buildSl (cs := _) rfl rfl rfl rfl ?hf rfl rfl ?hl rfl (fun v7 => ?_)
       case hf => (conv => lhs; simp [-List.getD_eq_getElem?_getD, fillL, vcl, wrl, TTab.pl?.lget']) <;> rfl
       case hl => rfl
       refine WO.callR (r := ringV (thrC a b c) (.slice (some ⟨v7, 0, none⟩) 3 3)) rfl Try.call74 (fun L w hi => c_newRing w (nx a b c) (ny a b c) (2 * cross a b c) _ a [b, c] (RdF.of_ow (e := 74) encP_ok (by repeat (first | exact Pick.head | apply Pick.tail)) hi) ha (by omega) (by omega) (by omega) (by omega)) rfl ?_
       refine WO.storeA rfl rfl rfl rfl (Pick.tail (Pick.tail (Pick.tail (Pick.head)))) rfl rfl (WO.p rfl rfl ?_)
       refine WO.nil ?_
       refine W.ret ?_
       refine fin.ret (Res.two rfl (RV.cell rfl rfl rfl (Cells.own (by repeat (first | exact Pick.head | apply Pick.tail)))) (RV.tmp rfl)) ?_
       first | exact ThrR.no (by omega) | exact ThrR.yes (by omega))
end Go.Proofs.Ytkhplcncfogolaa
namespace Go.Proofs.Ytkhplcncfogolaa
open Go Go.TH
attribute [local irreducible] W WO pt
set_option maxRecDepth 10000
set_option maxHeartbeats 1000000
theorem ref_cross (w : World) (a b c : Int × Int) (ha : OkP a) (hb : OkP b) (hc : OkP c) : Ret Try.prog 58 [.agg #[.int .i64 a.1, .int .i64 a.2], .agg #[.int .i64 b.1, .int .i64 b.2], .agg #[.int .i64 c.1, .int .i64 c.2]].toArray w (.int .i64 (cross a b c)) := by
  refine Ret.of mixed tyTab Try.func58 rfl rfl ?_
  obtain ⟨a1, a2⟩ := id ha
  obtain ⟨b1', b2'⟩ := id hb
  obtain ⟨c1', c2'⟩ := id hc
  have m1 := mul_bd (a := b.1 - a.1) (b := c.2 - a.2) (A := 200) (B := 200) (by omega) (by omega)
  have m2 := mul_bd (a := b.2 - a.2) (b := c.1 - a.1) (A := 200) (B := 200) (by omega) (by omega)
  refine W.sreg ?_
  refine WO.boxA rfl rfl (fun b1 hb1 => ?_)
  refine WO.boxA rfl rfl (fun b2 hb2 => ?_)
  refine WO.boxA rfl rfl (fun b3 hb3 => ?_)
  refine WO.p rfl rfl ?_
  refine WO.nil ?_
  refine W.sreg ?_
  refine WO.field0 rfl rfl rfl (WO.load rfl rfl (Cell.own (Pick.tail (Pick.head)) rfl) rfl (WO.field0 rfl rfl rfl (WO.load rfl rfl (Cell.own (Pick.tail (Pick.tail (Pick.head))) rfl) rfl (WO.ar rfl rfl rfl (by (first | (unfold in64; omega) | (unfold in64; omega))) rfl (WO.fieldL rfl rfl rfl (WO.load rfl rfl (Cell.own Pick.head rfl) rfl (WO.fieldL rfl rfl rfl (WO.load rfl rfl (Cell.own (Pick.tail (Pick.tail (Pick.head))) rfl) rfl (WO.ar rfl rfl rfl (by (first | (unfold in64; omega) | (unfold in64; omega))) rfl (WO.ar rfl rfl rfl (by (first | (unfold in64; omega) | (unfold in64; omega))) rfl (WO.fieldL rfl rfl rfl ?_)))))))))))
  refine WO.load rfl rfl (Cell.own (Pick.tail (Pick.head)) rfl) rfl (WO.fieldL rfl rfl rfl (WO.load rfl rfl (Cell.own (Pick.tail (Pick.tail (Pick.head))) rfl) rfl (WO.ar rfl rfl rfl (by (first | (unfold in64; omega) | (unfold in64; omega))) rfl (WO.field0 rfl rfl rfl (WO.load rfl rfl (Cell.own Pick.head rfl) rfl (WO.field0 rfl rfl rfl (WO.load rfl rfl (Cell.own (Pick.tail (Pick.tail (Pick.head))) rfl) rfl (WO.ar rfl rfl rfl (by (first | (unfold in64; omega) | (unfold in64; omega))) rfl (WO.ar rfl rfl rfl (by (first | (unfold in64; omega) | (unfold in64; omega))) rfl (WO.ar rfl rfl rfl (by (first | (unfold in64; omega) | (unfold in64; omega))) rfl (WO.p rfl rfl ?_)))))))))))
  refine WO.nil ?_
  refine W.ret ?_
  exact fin.ret (Res.one rfl (RV.tmp rfl)) rfl
def thrV (a b c : Int × Int) : Value := if OkP a ∧ OkP b ∧ OkP c then (if cross a b c = 0 then .tuple #[cirV ⟨0, 0, 0, 0, 0⟩, .int .i64 5] else .tuple #[cirV (thrC a b c), .int .i64 0]) else .tuple #[cirV ⟨0, 0, 0, 0, 0⟩, .int .i64 3]
theorem thrV_3 {a b c : Int × Int} (h : ¬ (OkP a ∧ OkP b ∧ OkP c)) : thrV a b c = .tuple #[cirV ⟨0, 0, 0, 0, 0⟩, .int .i64 3] := by unfold thrV; rw [if_neg h]
theorem thrV_5 {a b c : Int × Int} (h : OkP a ∧ OkP b ∧ OkP c) (hx : cross a b c = 0) : thrV a b c = .tuple #[cirV ⟨0, 0, 0, 0, 0⟩, .int .i64 5] := by unfold thrV; rw [if_pos h, if_pos hx]
theorem thrV_0 {a b c : Int × Int} (h : OkP a ∧ OkP b ∧ OkP c) (hx : cross a b c ≠ 0) : thrV a b c = .tuple #[cirV (thrC a b c), .int .i64 0] := by unfold thrV; rw [if_pos h, if_neg hx]
theorem nx_abs (a b c : Int × Int) : (a.1 * a.1 + a.2 * a.2) * (b.2 - c.2) + (b.1 * b.1 + b.2 * b.2) * (c.2 - a.2) + (c.1 * c.1 + c.2 * c.2) * (a.2 - b.2) = nx a b c := by unfold nx cross; grind
theorem ny_abs (a b c : Int × Int) : (a.1 * a.1 + a.2 * a.2) * (c.1 - b.1) + (b.1 * b.1 + b.2 * b.2) * (a.1 - c.1) + (c.1 * c.1 + c.2 * c.2) * (b.1 - a.1) = ny a b c := by unfold ny cross; grind
theorem ref_Through (w : World) (a b c : Int × Int) : Ret Try.prog 33 [.agg #[.int .i64 a.1, .int .i64 a.2], .agg #[.int .i64 b.1, .int .i64 b.2], .agg #[.int .i64 c.1, .int .i64 c.2]].toArray w (thrV a b c) := by
  refine Ret.of mixed tyTab Try.func33 rfl rfl ?_
  refine W.sreg ?_
  refine WO.boxA rfl rfl (fun b1 hb1 => ?_)
  refine WO.boxA rfl rfl (fun b2 hb2 => ?_)
  refine WO.boxA rfl rfl (fun b3 hb3 => ?_)
  refine WO.alloc rfl rfl rfl (fun b4 hb4 => ?_)
  refine WO.p rfl rfl ?_
  refine WO.nil ?_
  refine W.seq ?_
  refine W.sreg ?_
  refine WO.loadA rfl rfl (Cells.own (Pick.tail (Pick.tail (Pick.tail (Pick.head))))) rfl rfl ?_
  refine WO.callR rfl Try.call57 (fun L w hi => ref_Place w a) rfl ?_
  refine WO.p rfl rfl (WO.p rfl rfl ?_)
  refine WO.guard_nbl rfl rfl (fun c1 => ?_) (fun c1 => ?_)
  · first
    | (exfalso; omega)
    | (refine WO.no rfl rfl (WO.no rfl rfl (WO.no rfl rfl (WO.p rfl rfl (WO.p rfl rfl (WO.no rfl rfl (WO.no rfl rfl (WO.no rfl rfl (WO.p rfl rfl ?_))))))))
       refine WO.nil ?_
       refine W.cond_t rfl ?_
       refine W.sreg ?_
       refine' WO.build (cs := _) rfl rfl rfl ?hf rfl ?_
       case hf => (conv => lhs; simp [-List.getD_eq_getElem?_getD, fillL, vcl, wrl, TTab.pl?.lget']) <;> rfl
       refine WO.storeA rfl rfl rfl rfl Pick.head rfl rfl (WO.p rfl rfl ?_)
       refine WO.nil ?_
       refine W.ret ?_
       refine fin.ret (Res.two rfl (RV.cell rfl rfl rfl (Cells.own (by repeat (first | exact Pick.head | apply Pick.tail)))) (RV.tmp rfl)) ?_
       first | exact (thrV_3 (fun h => by obtain ⟨h1, h2, h3⟩ := h; contradiction)).symm | exact (thrV_5 ⟨by assumption, by assumption, by assumption⟩ (by omega)).symm | exact (thrV_0 ⟨by assumption, by assumption, by assumption⟩ (by omega)).symm)
  · first
    | (exfalso; omega)
    | (refine WO.go' rfl (WO.loadA rfl rfl (Cells.own (Pick.tail (Pick.tail (Pick.head)))) rfl rfl (WO.go' rfl ?_))
       refine WO.callR rfl Try.call57 (fun L w hi => ref_Place w b) rfl ?_
       refine WO.pg rfl rfl rfl (WO.p rfl rfl (WO.p rfl rfl ?_))
       refine WO.guard_nbl rfl rfl (fun c2 => ?_) (fun c2 => ?_)
       · first
         | (exfalso; omega)
         | (refine WO.no rfl rfl (WO.no rfl rfl (WO.no rfl rfl (WO.p rfl rfl ?_)))
            refine WO.nil ?_
            refine W.cond_t rfl ?_
            refine W.sreg ?_
            refine' WO.build (cs := _) rfl rfl rfl ?hf rfl ?_
            case hf => (conv => lhs; simp [-List.getD_eq_getElem?_getD, fillL, vcl, wrl, TTab.pl?.lget']) <;> rfl
            refine WO.storeA rfl rfl rfl rfl Pick.head rfl rfl (WO.p rfl rfl ?_)
            refine WO.nil ?_
            refine W.ret ?_
            refine fin.ret (Res.two rfl (RV.cell rfl rfl rfl (Cells.own (by repeat (first | exact Pick.head | apply Pick.tail)))) (RV.tmp rfl)) ?_
            first | exact (thrV_3 (fun h => by obtain ⟨h1, h2, h3⟩ := h; contradiction)).symm | exact (thrV_5 ⟨by assumption, by assumption, by assumption⟩ (by omega)).symm | exact (thrV_0 ⟨by assumption, by assumption, by assumption⟩ (by omega)).symm)
       · first
         | (exfalso; omega)
         | (refine WO.go' rfl (WO.loadA rfl rfl (Cells.own (Pick.tail (Pick.head))) rfl rfl (WO.go' rfl ?_))
            refine WO.callR rfl Try.call57 (fun L w hi => ref_Place w c) rfl ?_
            refine WO.pg rfl rfl rfl (WO.p rfl rfl ?_)
            refine WO.nil ?_
            refine W.cond_nbl rfl (fun c3 => ?_) (fun c3 => ?_)
            · first
              | (exfalso; omega)
              | (refine W.sreg ?_
                 refine' WO.build (cs := _) rfl rfl rfl ?hf rfl ?_
                 case hf => (conv => lhs; simp [-List.getD_eq_getElem?_getD, fillL, vcl, wrl, TTab.pl?.lget']) <;> rfl
                 refine WO.storeA rfl rfl rfl rfl Pick.head rfl rfl (WO.p rfl rfl ?_)
                 refine WO.nil ?_
                 refine W.ret ?_
                 refine fin.ret (Res.two rfl (RV.cell rfl rfl rfl (Cells.own (by repeat (first | exact Pick.head | apply Pick.tail)))) (RV.tmp rfl)) ?_
                 first | exact (thrV_3 (fun h => by obtain ⟨h1, h2, h3⟩ := h; contradiction)).symm | exact (thrV_5 ⟨by assumption, by assumption, by assumption⟩ (by omega)).symm | exact (thrV_0 ⟨by assumption, by assumption, by assumption⟩ (by omega)).symm)
            · first
              | (exfalso; omega)
              | (refine W.skip ?_
                 have ha : OkP a := by assumption
                 have hb : OkP b := by assumption
                 have hc : OkP c := by assumption
                 obtain ⟨a1, a2⟩ := id ha
                 obtain ⟨b1', b2'⟩ := id hb
                 obtain ⟨c1', c2'⟩ := id hc
                 have hcx := cross_bd ha hb hc
                 refine W.sreg ?_
                 refine WO.loadA rfl rfl (Cells.own (Pick.tail (Pick.tail (Pick.tail (Pick.head))))) rfl rfl (WO.loadA rfl rfl (Cells.own (Pick.tail (Pick.tail (Pick.head)))) rfl rfl (WO.loadA rfl rfl (Cells.own (Pick.tail (Pick.head))) rfl rfl ?_))
                 refine WO.callR rfl Try.call58 (fun L w hi => ref_cross w a b c ha hb hc) rfl ?_
                 refine WO.ar rfl rfl rfl (by (first | (unfold in64; omega) | (unfold in64; omega))) rfl (WO.p rfl rfl ?_)
                 refine WO.nil ?_
                 refine W.seq ?_
                 refine W.sreg ?_
                 refine WO.p rfl rfl (WO.p rfl rfl ?_)
                 refine WO.nil ?_
                 refine W.cond_bl rfl (fun c4 => ?_) (fun c4 => ?_)
                 · first
                   | (exfalso; omega)
                   | (refine W.sreg ?_
                      refine' WO.build (cs := _) rfl rfl rfl ?hf rfl ?_
                      case hf => (conv => lhs; simp [-List.getD_eq_getElem?_getD, fillL, vcl, wrl, TTab.pl?.lget']) <;> rfl
                      refine WO.storeA rfl rfl rfl rfl Pick.head rfl rfl (WO.p rfl rfl ?_)
                      refine WO.nil ?_
                      refine W.ret ?_
                      refine fin.ret (Res.two rfl (RV.cell rfl rfl rfl (Cells.own (by repeat (first | exact Pick.head | apply Pick.tail)))) (RV.tmp rfl)) ?_
                      first | exact (thrV_3 (fun h => by obtain ⟨h1, h2, h3⟩ := h; contradiction)).symm | exact (thrV_5 ⟨by assumption, by assumption, by assumption⟩ (by omega)).symm | exact (thrV_0 ⟨by assumption, by assumption, by assumption⟩ (by omega)).symm)
                 · first
                   | (exfalso; omega)
                   | (refine W.skip ?_
                      refine W.seq ?_
                      have bx := nx_bd ha hb hc
                      have by' := ny_bd ha hb hc
                      have s1 := sq_bd (a := a.1) (A := 100) (by omega)
                      have s2 := sq_bd (a := a.2) (A := 100) (by omega)
                      have s3 := sq_bd (a := b.1) (A := 100) (by omega)
                      have s4 := sq_bd (a := b.2) (A := 100) (by omega)
                      have s5 := sq_bd (a := c.1) (A := 100) (by omega)
                      have s6 := sq_bd (a := c.2) (A := 100) (by omega)
                      have n1 := mul_bd (a := a.1 * a.1 + a.2 * a.2) (b := b.2 - c.2) (A := 20000) (B := 200) (by omega) (by omega)
                      have n2 := mul_bd (a := b.1 * b.1 + b.2 * b.2) (b := c.2 - a.2) (A := 20000) (B := 200) (by omega) (by omega)
                      have n3 := mul_bd (a := c.1 * c.1 + c.2 * c.2) (b := a.2 - b.2) (A := 20000) (B := 200) (by omega) (by omega)
                      have n4 := mul_bd (a := a.1 * a.1 + a.2 * a.2) (b := c.1 - b.1) (A := 20000) (B := 200) (by omega) (by omega)
                      have n5 := mul_bd (a := b.1 * b.1 + b.2 * b.2) (b := a.1 - c.1) (A := 20000) (B := 200) (by omega) (by omega)
                      have n6 := mul_bd (a := c.1 * c.1 + c.2 * c.2) (b := b.1 - a.1) (A := 20000) (B := 200) (by omega) (by omega)
                      refine W.drawD 35 [.r 0 [], .b 1 [], .r 2 [], .b 3 [], .r 4 [], .r 5 [], .b 6 [], .r 7 [], .b 8 [], .r 9 [], .r 10 [], .r 11 [], .b 12 [], .r 13 [], .b 14 [], .r 15 [], .r 16 [], .b 17 [], .r 18 [], .b 19 [], .r 20 [], .r 21 [], .r 22 [], .b 23 [], .r 24 [], .b 25 [], .r 26 [], .r 27 [], .b 28 [], .r 29 [], .b 30 [], .r 31 [], .r 32 [], .r 33 [], .r 34 []] [] (A0 := []) (Sub.refl _) (by kernel_rfl) ?_ ?_
                      · exact (ALok.r (ALok.b (ALok.r (ALok.b (ALok.r (ALok.r (ALok.b (ALok.r (ALok.b (ALok.r (ALok.r (ALok.r (ALok.b (ALok.r (ALok.b (ALok.r (ALok.r (ALok.b (ALok.r (ALok.b (ALok.r (ALok.r (ALok.r (ALok.b (ALok.r (ALok.b (ALok.r (ALok.r (ALok.b (ALok.r (ALok.b (ALok.r (ALok.r (ALok.r (ALok.r ALok.nil)))))))))))))))))))))))))))))))))))
                      refine' DT.r rfl rfl rfl ?hq ?_
                      case hq =>
                        refine WO.field0 rfl rfl rfl ?_
                        exact WO.nil ⟨rfl, rfl⟩
                      refine' DT.b rfl rfl rfl ?hq ?_
                      case hq =>
                        refine WO.load rfl rfl (Cell.own (Pick.tail (Pick.tail (Pick.tail (Pick.head)))) rfl) rfl ?_
                        exact WO.nil ⟨rfl, rfl⟩
                      refine' DT.r rfl rfl rfl ?hq ?_
                      case hq =>
                        refine WO.field0 rfl rfl rfl ?_
                        exact WO.nil ⟨rfl, rfl⟩
                      refine' DT.b rfl rfl rfl ?hq ?_
                      case hq =>
                        refine WO.load rfl rfl (Cell.own (Pick.tail (Pick.tail (Pick.tail (Pick.head)))) rfl) rfl ?_
                        exact WO.nil ⟨rfl, rfl⟩
                      refine' DT.r rfl rfl rfl ?hq ?_
                      case hq =>
                        refine WO.ar rfl rfl rfl (by (first | (unfold in64; omega) | (unfold in64; omega))) rfl ?_
                        exact WO.nil ⟨rfl, rfl⟩
                      refine' DT.r rfl rfl rfl ?hq ?_
                      case hq =>
                        refine WO.fieldL rfl rfl rfl ?_
                        exact WO.nil ⟨rfl, rfl⟩
                      refine' DT.b rfl rfl rfl ?hq ?_
                      case hq =>
                        refine WO.load rfl rfl (Cell.own (Pick.tail (Pick.tail (Pick.tail (Pick.head)))) rfl) rfl ?_
                        exact WO.nil ⟨rfl, rfl⟩
                      refine' DT.r rfl rfl rfl ?hq ?_
                      case hq =>
                        refine WO.fieldL rfl rfl rfl ?_
                        exact WO.nil ⟨rfl, rfl⟩
                      refine' DT.b rfl rfl rfl ?hq ?_
                      case hq =>
                        refine WO.load rfl rfl (Cell.own (Pick.tail (Pick.tail (Pick.tail (Pick.head)))) rfl) rfl ?_
                        exact WO.nil ⟨rfl, rfl⟩
                      refine' DT.r rfl rfl rfl ?hq ?_
                      case hq =>
                        refine WO.ar rfl rfl rfl (by (first | (unfold in64; omega) | (unfold in64; omega))) rfl ?_
                        exact WO.nil ⟨rfl, rfl⟩
                      refine' DT.r rfl rfl rfl ?hq ?_
                      case hq =>
                        refine WO.ar rfl rfl rfl (by (first | (unfold in64; omega) | (unfold in64; omega))) rfl ?_
                        exact WO.nil ⟨rfl, rfl⟩
                      refine' DT.r rfl rfl rfl ?hq ?_
                      case hq =>
                        refine WO.field0 rfl rfl rfl ?_
                        exact WO.nil ⟨rfl, rfl⟩
                      refine' DT.b rfl rfl rfl ?hq ?_
                      case hq =>
                        refine WO.load rfl rfl (Cell.own (Pick.tail (Pick.tail (Pick.head))) rfl) rfl ?_
                        exact WO.nil ⟨rfl, rfl⟩
                      refine' DT.r rfl rfl rfl ?hq ?_
                      case hq =>
                        refine WO.field0 rfl rfl rfl ?_
                        exact WO.nil ⟨rfl, rfl⟩
                      refine' DT.b rfl rfl rfl ?hq ?_
                      case hq =>
                        refine WO.load rfl rfl (Cell.own (Pick.tail (Pick.tail (Pick.head))) rfl) rfl ?_
                        exact WO.nil ⟨rfl, rfl⟩
                      refine' DT.r rfl rfl rfl ?hq ?_
                      case hq =>
                        refine WO.ar rfl rfl rfl (by (first | (unfold in64; omega) | (unfold in64; omega))) rfl ?_
                        exact WO.nil ⟨rfl, rfl⟩
                      refine' DT.r rfl rfl rfl ?hq ?_
                      case hq =>
                        refine WO.fieldL rfl rfl rfl ?_
                        exact WO.nil ⟨rfl, rfl⟩
                      refine' DT.b rfl rfl rfl ?hq ?_
                      case hq =>
                        refine WO.load rfl rfl (Cell.own (Pick.tail (Pick.tail (Pick.head))) rfl) rfl ?_
                        exact WO.nil ⟨rfl, rfl⟩
                      refine' DT.r rfl rfl rfl ?hq ?_
                      case hq =>
                        refine WO.fieldL rfl rfl rfl ?_
                        exact WO.nil ⟨rfl, rfl⟩
                      refine' DT.b rfl rfl rfl ?hq ?_
                      case hq =>
                        refine WO.load rfl rfl (Cell.own (Pick.tail (Pick.tail (Pick.head))) rfl) rfl ?_
                        exact WO.nil ⟨rfl, rfl⟩
                      refine' DT.r rfl rfl rfl ?hq ?_
                      case hq =>
                        refine WO.ar rfl rfl rfl (by (first | (unfold in64; omega) | (unfold in64; omega))) rfl ?_
                        exact WO.nil ⟨rfl, rfl⟩
                      refine' DT.r rfl rfl rfl ?hq ?_
                      case hq =>
                        refine WO.ar rfl rfl rfl (by (first | (unfold in64; omega) | (unfold in64; omega))) rfl ?_
                        exact WO.nil ⟨rfl, rfl⟩
                      refine' DT.r rfl rfl rfl ?hq ?_
                      case hq =>
                        refine WO.field0 rfl rfl rfl ?_
                        exact WO.nil ⟨rfl, rfl⟩
                      refine' DT.b rfl rfl rfl ?hq ?_
                      case hq =>
                        refine WO.load rfl rfl (Cell.own (Pick.tail (Pick.head)) rfl) rfl ?_
                        exact WO.nil ⟨rfl, rfl⟩
                      refine' DT.r rfl rfl rfl ?hq ?_
                      case hq =>
                        refine WO.field0 rfl rfl rfl ?_
                        exact WO.nil ⟨rfl, rfl⟩
                      refine' DT.b rfl rfl rfl ?hq ?_
                      case hq =>
                        refine WO.load rfl rfl (Cell.own (Pick.tail (Pick.head)) rfl) rfl ?_
                        exact WO.nil ⟨rfl, rfl⟩
                      refine' DT.r rfl rfl rfl ?hq ?_
                      case hq =>
                        refine WO.ar rfl rfl rfl (by (first | (unfold in64; omega) | (unfold in64; omega))) rfl ?_
                        exact WO.nil ⟨rfl, rfl⟩
                      refine' DT.r rfl rfl rfl ?hq ?_
                      case hq =>
                        refine WO.fieldL rfl rfl rfl ?_
                        exact WO.nil ⟨rfl, rfl⟩
                      refine' DT.b rfl rfl rfl ?hq ?_
                      case hq =>
                        refine WO.load rfl rfl (Cell.own (Pick.tail (Pick.head)) rfl) rfl ?_
                        exact WO.nil ⟨rfl, rfl⟩
                      refine' DT.r rfl rfl rfl ?hq ?_
                      case hq =>
                        refine WO.fieldL rfl rfl rfl ?_
                        exact WO.nil ⟨rfl, rfl⟩
                      refine' DT.b rfl rfl rfl ?hq ?_
                      case hq =>
                        refine WO.load rfl rfl (Cell.own (Pick.tail (Pick.head)) rfl) rfl ?_
                        exact WO.nil ⟨rfl, rfl⟩
                      refine' DT.r rfl rfl rfl ?hq ?_
                      case hq =>
                        refine WO.ar rfl rfl rfl (by (first | (unfold in64; omega) | (unfold in64; omega))) rfl ?_
                        exact WO.nil ⟨rfl, rfl⟩
                      refine' DT.r rfl rfl rfl ?hq ?_
                      case hq =>
                        refine WO.ar rfl rfl rfl (by (first | (unfold in64; omega) | (unfold in64; omega))) rfl ?_
                        exact WO.nil ⟨rfl, rfl⟩
                      refine' DT.r rfl rfl rfl ?hq ?_
                      case hq =>
                        refine WO.p rfl rfl ?_
                        exact WO.nil ⟨rfl, rfl⟩
                      refine' DT.r rfl rfl rfl ?hq ?_
                      case hq =>
                        refine WO.p rfl rfl ?_
                        exact WO.nil ⟨rfl, rfl⟩
                      refine DT.nil [_, _, _, _] rfl ?_
                      refine WO.p rfl rfl ?_
                      refine WO.nil ?_
                      refine W.sreg ?_
                      refine WO.p rfl rfl (WO.fieldL rfl rfl rfl (WO.load rfl rfl (Cell.own (Pick.tail (Pick.tail (Pick.head))) rfl) rfl (WO.fieldL rfl rfl rfl (WO.load rfl rfl (Cell.own (Pick.tail (Pick.head)) rfl) rfl (WO.ar rfl rfl rfl (by (first | (unfold in64; omega) | (unfold in64; omega))) rfl (WO.ar rfl rfl rfl (by (first | (unfold in64; omega) | (unfold in64; omega))) rfl (WO.p rfl rfl (WO.fieldL rfl rfl rfl (WO.load rfl rfl (Cell.own (Pick.tail (Pick.head)) rfl) rfl (WO.fieldL rfl rfl rfl (WO.load rfl rfl (Cell.own (Pick.tail (Pick.tail (Pick.tail (Pick.head)))) rfl) rfl ?_)))))))))))
                      refine WO.ar rfl rfl rfl (by (first | (unfold in64; omega) | (unfold in64; omega))) rfl (WO.ar rfl rfl rfl (by (first | (unfold in64; omega) | (unfold in64; omega))) rfl (WO.ar rfl rfl rfl (by (first | (unfold in64; omega) | (unfold in64; omega))) rfl (WO.p rfl rfl (WO.fieldL rfl rfl rfl (WO.load rfl rfl (Cell.own (Pick.tail (Pick.tail (Pick.tail (Pick.head)))) rfl) rfl (WO.fieldL rfl rfl rfl (WO.load rfl rfl (Cell.own (Pick.tail (Pick.tail (Pick.head))) rfl) rfl (WO.ar rfl rfl rfl (by (first | (unfold in64; omega) | (unfold in64; omega))) rfl (WO.ar rfl rfl rfl (by (first | (unfold in64; omega) | (unfold in64; omega))) rfl (WO.ar rfl rfl rfl (by (first | (unfold in64; omega) | (unfold in64; omega))) rfl (WO.p rfl rfl ?_)))))))))))
                      refine WO.nil ?_
                      refine W.sreg ?_
                      refine WO.p rfl rfl (WO.field0 rfl rfl rfl (WO.load rfl rfl (Cell.own (Pick.tail (Pick.head)) rfl) rfl (WO.field0 rfl rfl rfl (WO.load rfl rfl (Cell.own (Pick.tail (Pick.tail (Pick.head))) rfl) rfl (WO.ar rfl rfl rfl (by (first | (unfold in64; omega) | (unfold in64; omega))) rfl (WO.ar rfl rfl rfl (by (first | (unfold in64; omega) | (unfold in64; omega))) rfl (WO.p rfl rfl (WO.field0 rfl rfl rfl (WO.load rfl rfl (Cell.own (Pick.tail (Pick.tail (Pick.tail (Pick.head)))) rfl) rfl (WO.field0 rfl rfl rfl (WO.load rfl rfl (Cell.own (Pick.tail (Pick.head)) rfl) rfl ?_)))))))))))
                      refine WO.ar rfl rfl rfl (by (first | (unfold in64; omega) | (unfold in64; omega))) rfl (WO.ar rfl rfl rfl (by (first | (unfold in64; omega) | (unfold in64; omega))) rfl (WO.ar rfl rfl rfl (by (first | (unfold in64; omega) | (unfold in64; omega))) rfl (WO.p rfl rfl (WO.field0 rfl rfl rfl (WO.load rfl rfl (Cell.own (Pick.tail (Pick.tail (Pick.head))) rfl) rfl (WO.field0 rfl rfl rfl (WO.load rfl rfl (Cell.own (Pick.tail (Pick.tail (Pick.tail (Pick.head)))) rfl) rfl (WO.ar rfl rfl rfl (by (first | (unfold in64; omega) | (unfold in64; omega))) rfl (WO.ar rfl rfl rfl (by (first | (unfold in64; omega) | (unfold in64; omega))) rfl (WO.ar rfl rfl rfl (by (first | (unfold in64; omega) | (unfold in64; omega))) rfl (WO.p rfl rfl ?_)))))))))))
                      refine WO.nil ?_
                      refine W.sreg ?_
                      refine WO.p rfl rfl (WO.p rfl rfl (WO.p rfl rfl (WO.loadA rfl rfl (Cells.own (Pick.tail (Pick.tail (Pick.tail (Pick.head))))) rfl rfl ?_)))
                      refine WO.callR (r := cirV (thrC a b c)) rfl Try.call55 (fun L w hi => by have h := ref_circle w (nx a b c) (ny a b c) (2 * cross a b c) a ha (by omega) (by omega) (by omega) (by omega); rw [← nx_abs, ← ny_abs] at h; unfold thrC; rw [← nx_abs, ← ny_abs]; exact h) rfl ?_
                      refine WO.storeA rfl rfl rfl rfl Pick.head rfl rfl (WO.p rfl rfl ?_)
                      refine WO.nil ?_
                      refine W.ret ?_
                      refine fin.ret (Res.two rfl (RV.cell rfl rfl rfl (Cells.own (by repeat (first | exact Pick.head | apply Pick.tail)))) (RV.tmp rfl)) ?_
                      first | exact (thrV_3 (fun h => by obtain ⟨h1, h2, h3⟩ := h; contradiction)).symm | exact (thrV_5 ⟨by assumption, by assumption, by assumption⟩ (by omega)).symm | exact (thrV_0 ⟨by assumption, by assumption, by assumption⟩ (by omega)).symm))))
theorem ref_Between (w : World) (p q : Int × Int) (hp : OkP p) (hq : OkP q) : Ret Try.prog 30 [.agg #[.int .i64 p.1, .int .i64 p.2], .agg #[.int .i64 q.1, .int .i64 q.2]].toArray w (cirV (betwC p q)) := by
  refine Ret.of mixed tyTab Try.func30 rfl rfl ?_
  obtain ⟨h1, h2⟩ := id hp
  obtain ⟨h3, h4⟩ := id hq
  refine W.sreg ?_
  refine WO.boxA rfl rfl (fun b1 hb1 => ?_)
  refine WO.boxA rfl rfl (fun b2 hb2 => ?_)
  refine WO.alloc rfl rfl rfl (fun b3 hb3 => ?_)
  refine WO.nil ?_
  refine W.sreg ?_
  refine WO.field0 rfl rfl rfl (WO.load rfl rfl (Cell.own (Pick.tail (Pick.tail (Pick.head))) rfl) rfl (WO.field0 rfl rfl rfl (WO.load rfl rfl (Cell.own (Pick.tail (Pick.head)) rfl) rfl (WO.ar rfl rfl rfl (by (first | (unfold in64; omega) | (unfold in64; omega))) rfl (WO.fieldL rfl rfl rfl (WO.load rfl rfl (Cell.own (Pick.tail (Pick.tail (Pick.head))) rfl) rfl (WO.fieldL rfl rfl rfl (WO.load rfl rfl (Cell.own (Pick.tail (Pick.head)) rfl) rfl (WO.ar rfl rfl rfl (by (first | (unfold in64; omega) | (unfold in64; omega))) rfl (WO.loadA rfl rfl (Cells.own (Pick.tail (Pick.tail (Pick.head)))) rfl rfl ?_))))))))))
  refine WO.callR (r := cirV (betwC p q)) rfl Try.call55 (fun L w hi => ref_circle w (p.1 + q.1) (p.2 + q.2) 2 p hp (by omega) (by omega) (by omega) (by omega)) rfl ?_
  refine WO.storeA rfl rfl rfl rfl Pick.head rfl rfl ?_
  refine WO.nil ?_
  refine W.ret ?_
  exact fin.ret (Res.one rfl (RV.cell rfl rfl rfl (Cells.own (by repeat (first | exact Pick.head | apply Pick.tail))))) rfl
theorem ref_Less (w : World) (a b c d : Int) (ha : 0 ≤ a) (hb : 0 < b) (hc : 0 ≤ c) (hd : 0 < d) (ia : in64 a) (ib : in64 b) (ic : in64 c) (id' : in64 d) : Ret Try.prog 25 [.agg #[.int .i64 a, .int .i64 b], .agg #[.int .i64 c, .int .i64 d]].toArray w (.bool (bl (cmp a b c d < 0))) := by
  refine Ret.of mixed tyTab Try.func25 rfl rfl ?_
  refine W.sreg ?_
  refine WO.boxA rfl rfl (fun b1 hb1 => ?_)
  refine WO.boxA rfl rfl (fun b2 hb2 => ?_)
  refine WO.p rfl rfl ?_
  refine WO.nil ?_
  refine W.sreg ?_
  refine WO.field0 rfl rfl rfl (WO.load rfl rfl (Cell.own (Pick.tail (Pick.head)) rfl) rfl (WO.fieldL rfl rfl rfl (WO.load rfl rfl (Cell.own (Pick.tail (Pick.head)) rfl) rfl (WO.field0 rfl rfl rfl (WO.load rfl rfl (Cell.own Pick.head rfl) rfl (WO.fieldL rfl rfl rfl (WO.load rfl rfl (Cell.own Pick.head rfl) rfl ?_)))))))
  refine WO.callR rfl Try.call27 (fun L w hi => ref_Compare w a b c d ha hb hc hd ia ib ic id') rfl ?_
  refine WO.p rfl rfl (WO.p rfl rfl ?_)
  refine WO.nil ?_
  refine W.ret ?_
  exact fin.ret (Res.one rfl (RV.tmp rfl)) rfl
theorem ref_LessC (w : World) (a b : Cir) (ha : OkR a) (hb : OkR b) : Ret Try.prog 25 [.agg #[.int .i64 a.n, .int .i64 a.d], .agg #[.int .i64 b.n, .int .i64 b.d]].toArray w (.bool (bl (lessC a b))) := by
  have h1 := ha.n; have h2 := ha.d; have h3 := hb.n; have h4 := hb.d
  exact ref_Less w a.n a.d b.n b.d (by omega) (by omega) (by omega) (by omega) (by unfold in64; omega) (by unfold in64; omega) (by unfold in64; omega) (by unfold in64; omega)
theorem c_smaller (w : World) (a b : Cir) (o q : Value) (ho : o.oneCell' = true) (hq : q.oneCell' = true) (ha : OkR a) (hb : OkR b) : Ret Try.prog 73 [ringV a o, ringV b q].toArray w (.bool (bl (lessC a b))) := by
  refine Ret.of mixed tyTab Try.func73 rfl rfl ?_
  have h1 := ha.n
  have h2 := ha.d
  have h3 := hb.n
  have h4 := hb.d
  refine W.sreg ?_
  refine WO.boxA rfl rfl (fun b1 hb1 => ?_)
  refine WO.boxA rfl rfl (fun b2 hb2 => ?_)
  refine WO.p rfl rfl ?_
  refine WO.nil ?_
  refine W.sreg ?_
  refine WO.field0 rfl rfl rfl (WO.fieldL rfl rfl rfl (WO.field0 rfl rfl rfl (WO.load rfl rfl (Cell.own (Pick.tail (Pick.head)) rfl) rfl (WO.field0 rfl rfl rfl (WO.fieldL rfl rfl rfl (WO.fieldL rfl rfl rfl (WO.load rfl rfl (Cell.own (Pick.tail (Pick.head)) rfl) rfl (WO.field0 rfl rfl rfl (WO.fieldL rfl rfl rfl (WO.field0 rfl rfl rfl (WO.load rfl rfl (Cell.own Pick.head rfl) rfl ?_)))))))))))
  refine WO.field0 rfl rfl rfl (WO.fieldL rfl rfl rfl (WO.fieldL rfl rfl rfl (WO.load rfl rfl (Cell.own Pick.head rfl) rfl ?_)))
  refine WO.callR rfl Try.call68 (fun L w hi => c_compare w a.n a.d b.n b.d (by omega) (by omega) (by omega) (by omega) (by unfold in64; omega) (by unfold in64; omega) (by unfold in64; omega) (by unfold in64; omega)) rfl ?_
  refine WO.p rfl rfl (WO.p rfl rfl ?_)
  refine WO.nil ?_
  refine W.ret ?_
  exact fin.ret (Res.one rfl (RV.tmp rfl)) rfl
theorem nbl_0 {x : Int} (h : (!bl (x ≠ 0)) = true) : x = 0 := Decidable.not_not.1 (fun g => by rw [bl_t.2 g] at h; cases h)
theorem nbl_1 {x : Int} (h : (!bl (x ≠ 0)) = false) : x ≠ 0 := fun g => by rw [bl_f.2 (fun k => k g)] at h; cases h
theorem c_Through (w : World) (a b c : Int × Int) : Ret Try.prog 28 [.agg #[.int .i64 a.1, .int .i64 a.2], .agg #[.int .i64 b.1, .int .i64 b.2], .agg #[.int .i64 c.1, .int .i64 c.2]].toArray w (thrV a b c) := by
  refine Ret.of mixed tyTab Try.func28 rfl rfl ?_
  refine W.sreg ?_
  refine WO.boxA rfl rfl (fun b1 hb1 => ?_)
  refine WO.boxA rfl rfl (fun b2 hb2 => ?_)
  refine WO.boxA rfl rfl (fun b3 hb3 => ?_)
  refine WO.alloc rfl rfl rfl (fun b4 hb4 => ?_)
  refine WO.p rfl rfl ?_
  refine WO.nil ?_
  refine W.seq ?_
  refine W.sreg ?_
  refine WO.loadA rfl rfl (Cells.own (Pick.tail (Pick.tail (Pick.tail (Pick.head))))) rfl rfl ?_
  refine WO.callR rfl Try.call50 (fun L w hi => c_isPlace w a) rfl ?_
  refine WO.p rfl rfl (WO.p rfl rfl ?_)
  refine WO.guard_nbl rfl rfl (fun c1 => ?_) (fun c1 => ?_)
  · first
    | (exfalso; omega)
    | (refine WO.no rfl rfl (WO.no rfl rfl (WO.no rfl rfl (WO.p rfl rfl (WO.p rfl rfl (WO.no rfl rfl (WO.no rfl rfl (WO.no rfl rfl (WO.p rfl rfl ?_))))))))
       refine WO.nil ?_
       refine W.cond_t rfl ?_
       refine W.sreg ?_
       refine' WO.build (cs := _) rfl rfl rfl ?hf rfl ?_
       case hf => (conv => lhs; simp [-List.getD_eq_getElem?_getD, fillL, vcl, wrl, TTab.pl?.lget']) <;> rfl
       refine WO.storeA rfl rfl rfl rfl Pick.head rfl rfl (WO.p rfl rfl ?_)
       refine WO.nil ?_
       refine W.ret ?_
       refine fin.ret (Res.two rfl (RV.cell rfl rfl rfl (Cells.own (by repeat (first | exact Pick.head | apply Pick.tail)))) (RV.tmp rfl)) ?_
       first | exact (thrV_3 (fun h => by obtain ⟨h1, h2, h3⟩ := h; contradiction)).symm | exact (thrV_5 ⟨by assumption, by assumption, by assumption⟩ (nbl_0 (by assumption))).symm | (rw [thrV_0 ⟨by assumption, by assumption, by assumption⟩ (nbl_1 (by assumption)), ← hcx (nbl_1 (by assumption))]; rfl))
  · first
    | (exfalso; omega)
    | (refine WO.go' rfl (WO.loadA rfl rfl (Cells.own (Pick.tail (Pick.tail (Pick.head)))) rfl rfl (WO.go' rfl ?_))
       refine WO.callR rfl Try.call50 (fun L w hi => c_isPlace w b) rfl ?_
       refine WO.pg rfl rfl rfl (WO.p rfl rfl (WO.p rfl rfl ?_))
       refine WO.guard_nbl rfl rfl (fun c2 => ?_) (fun c2 => ?_)
       · first
         | (exfalso; omega)
         | (refine WO.no rfl rfl (WO.no rfl rfl (WO.no rfl rfl (WO.p rfl rfl ?_)))
            refine WO.nil ?_
            refine W.cond_t rfl ?_
            refine W.sreg ?_
            refine' WO.build (cs := _) rfl rfl rfl ?hf rfl ?_
            case hf => (conv => lhs; simp [-List.getD_eq_getElem?_getD, fillL, vcl, wrl, TTab.pl?.lget']) <;> rfl
            refine WO.storeA rfl rfl rfl rfl Pick.head rfl rfl (WO.p rfl rfl ?_)
            refine WO.nil ?_
            refine W.ret ?_
            refine fin.ret (Res.two rfl (RV.cell rfl rfl rfl (Cells.own (by repeat (first | exact Pick.head | apply Pick.tail)))) (RV.tmp rfl)) ?_
            first | exact (thrV_3 (fun h => by obtain ⟨h1, h2, h3⟩ := h; contradiction)).symm | exact (thrV_5 ⟨by assumption, by assumption, by assumption⟩ (nbl_0 (by assumption))).symm | (rw [thrV_0 ⟨by assumption, by assumption, by assumption⟩ (nbl_1 (by assumption)), ← hcx (nbl_1 (by assumption))]; rfl))
       · first
         | (exfalso; omega)
         | (refine WO.go' rfl (WO.loadA rfl rfl (Cells.own (Pick.tail (Pick.head))) rfl rfl (WO.go' rfl ?_))
            refine WO.callR rfl Try.call50 (fun L w hi => c_isPlace w c) rfl ?_
            refine WO.pg rfl rfl rfl (WO.p rfl rfl ?_)
            refine WO.nil ?_
            refine W.cond_nbl rfl (fun c3 => ?_) (fun c3 => ?_)
            · first
              | (exfalso; omega)
              | (refine W.sreg ?_
                 refine' WO.build (cs := _) rfl rfl rfl ?hf rfl ?_
                 case hf => (conv => lhs; simp [-List.getD_eq_getElem?_getD, fillL, vcl, wrl, TTab.pl?.lget']) <;> rfl
                 refine WO.storeA rfl rfl rfl rfl Pick.head rfl rfl (WO.p rfl rfl ?_)
                 refine WO.nil ?_
                 refine W.ret ?_
                 refine fin.ret (Res.two rfl (RV.cell rfl rfl rfl (Cells.own (by repeat (first | exact Pick.head | apply Pick.tail)))) (RV.tmp rfl)) ?_
                 first | exact (thrV_3 (fun h => by obtain ⟨h1, h2, h3⟩ := h; contradiction)).symm | exact (thrV_5 ⟨by assumption, by assumption, by assumption⟩ (nbl_0 (by assumption))).symm | (rw [thrV_0 ⟨by assumption, by assumption, by assumption⟩ (nbl_1 (by assumption)), ← hcx (nbl_1 (by assumption))]; rfl))
            · first
              | (exfalso; omega)
              | (refine W.skip ?_
                 refine W.seq ?_
                 refine W.drawD 12 [.b 0 [], .b 1 [], .b 2 [], .b 3 [], .b 4 [], .b 5 [], .c 6 [], .r 7 [], .r 8 [], .r 9 [], .a 10 8 (.cells #[.int .i64 0, .int .i64 0, .int .i64 0, .int .i64 0, .int .i64 0, .slice none 0 0] 66 (0, 0)), .s 11 []] [] (A0 := []) (Sub.refl _) (by kernel_rfl) ?_ ?_
                 · exact (ALok.b (ALok.b (ALok.b (ALok.b (ALok.b (ALok.b (ALok.c (ALok.r (ALok.r (ALok.r (ALok.cons rfl rfl rfl rfl rfl (ALok.s ALok.nil))))))))))))
                 refine' DT.b rfl rfl rfl ?hq ?_
                 case hq =>
                   refine WO.loadA rfl rfl (Cells.own (Pick.tail (Pick.tail (Pick.tail (Pick.head))))) rfl rfl ?_
                   exact WO.nil ⟨rfl, rfl⟩
                 refine' DT.b rfl rfl rfl ?hq ?_
                 case hq =>
                   refine WO.callR rfl Try.call51 (fun L w hi => c_newPoint w a) rfl ?_
                   exact WO.nil ⟨rfl, rfl⟩
                 refine' DT.b rfl rfl rfl ?hq ?_
                 case hq =>
                   refine WO.loadA rfl rfl (Cells.own (Pick.tail (Pick.tail (Pick.head)))) rfl rfl ?_
                   exact WO.nil ⟨rfl, rfl⟩
                 refine' DT.b rfl rfl rfl ?hq ?_
                 case hq =>
                   refine WO.callR rfl Try.call51 (fun L w hi => c_newPoint w b) rfl ?_
                   exact WO.nil ⟨rfl, rfl⟩
                 refine' DT.b rfl rfl rfl ?hq ?_
                 case hq =>
                   refine WO.loadA rfl rfl (Cells.own (Pick.tail (Pick.head))) rfl rfl ?_
                   exact WO.nil ⟨rfl, rfl⟩
                 refine' DT.b rfl rfl rfl ?hq ?_
                 case hq =>
                   refine WO.callR rfl Try.call51 (fun L w hi => c_newPoint w c) rfl ?_
                   exact WO.nil ⟨rfl, rfl⟩
                 refine DT.c [_, _, _, _] rfl rfl rfl rfl ?_
                 refine WO.callE rfl Try.call54 (fun L w hi => c_through w a b c (by assumption) (by assumption) (by assumption)) rfl ?_
                 rintro _ ⟨c', x, n, k, rfl, hcx⟩
                 refine WO.nil ⟨_, [], rfl, rfl, (Keep.b (Keep.b (Keep.b (Keep.b (Keep.b (Keep.b Keep.nil)))))), ?_⟩
                 refine' DT.r rfl rfl rfl ?hq ?_
                 case hq =>
                   refine WO.p rfl rfl ?_
                   exact WO.nil ⟨rfl, rfl⟩
                 refine' DT.r rfl rfl rfl ?hq ?_
                 case hq =>
                   refine WO.p rfl rfl ?_
                   exact WO.nil ⟨rfl, rfl⟩
                 refine' DT.r rfl rfl rfl ?hq ?_
                 case hq =>
                   refine WO.p rfl rfl ?_
                   exact WO.nil ⟨rfl, rfl⟩
                 refine DT.a (fun b5 => ?_)
                 refine DT.s [_, _, _, _, _] rfl rfl rfl ?_
                 refine WO.storeA rfl rfl rfl rfl Pick.head rfl rfl ?_
                 refine WO.nil ⟨[_], rfl, rfl, (Keep.a (Keep.r (Keep.r (Keep.r (Keep.c (Keep.b (Keep.b (Keep.b (Keep.b (Keep.b (Keep.b Keep.nil))))))))))), ?_⟩
                 refine DT.nil [_, _, _, _, _] rfl ?_
                 refine WO.p rfl rfl ?_
                 refine WO.nil ?_
                 refine W.seq ?_
                 refine W.sreg ?_
                 refine WO.p rfl rfl (WO.p rfl rfl ?_)
                 refine WO.nil ?_
                 refine W.cond rfl (fun c4 => ?_) (fun c4 => ?_)
                 · first
                   | (exfalso; omega)
                   | (refine W.sreg ?_
                      refine' WO.build (cs := _) rfl rfl rfl ?hf rfl ?_
                      case hf => (conv => lhs; simp [-List.getD_eq_getElem?_getD, fillL, vcl, wrl, TTab.pl?.lget']) <;> rfl
                      refine WO.storeA rfl rfl rfl rfl (Pick.tail (Pick.head)) rfl rfl (WO.p rfl rfl ?_)
                      refine WO.nil ?_
                      refine W.ret ?_
                      refine fin.ret (Res.two rfl (RV.cell rfl rfl rfl (Cells.own (by repeat (first | exact Pick.head | apply Pick.tail)))) (RV.tmp rfl)) ?_
                      first | exact (thrV_3 (fun h => by obtain ⟨h1, h2, h3⟩ := h; contradiction)).symm | exact (thrV_5 ⟨by assumption, by assumption, by assumption⟩ (nbl_0 (by assumption))).symm | (rw [thrV_0 ⟨by assumption, by assumption, by assumption⟩ (nbl_1 (by assumption)), ← hcx (nbl_1 (by assumption))]; rfl))
                 · first
                   | (exfalso; omega)
                   | (refine W.skip ?_
                      refine W.sreg ?_
                      refine WO.field0 rfl rfl rfl (WO.loadA rfl rfl (Cells.ownAt (n := 5) Pick.head rfl) rfl rfl (WO.storeA rfl rfl rfl rfl (Pick.tail (Pick.head)) rfl rfl (WO.p rfl rfl ?_)))
                      refine WO.nil ?_
                      refine W.ret ?_
                      refine fin.ret (Res.two rfl (RV.cell rfl rfl rfl (Cells.own (by repeat (first | exact Pick.head | apply Pick.tail)))) (RV.tmp rfl)) ?_
                      first | exact (thrV_3 (fun h => by obtain ⟨h1, h2, h3⟩ := h; contradiction)).symm | exact (thrV_5 ⟨by assumption, by assumption, by assumption⟩ (nbl_0 (by assumption))).symm | (rw [thrV_0 ⟨by assumption, by assumption, by assumption⟩ (nbl_1 (by assumption)), ← hcx (nbl_1 (by assumption))]; rfl)))))
end Go.Proofs.Ytkhplcncfogolaa
namespace Go.Proofs.Ytkhplcncfogolaa
open Go Go.TH
attribute [local irreducible] W WO pt
set_option maxRecDepth 10000
set_option maxHeartbeats 1000000
theorem OwE.cellsP {C : Cx Try.prog} {H : List HP} {e : Nat} {v : Value} {l : Pts} {i : Nat} (s : Sub H [OwE encP e 2 v l]) (hi : i < l.length) : Cells C H (elt v i 2) [.int .i64 (l.at i).1, .int .i64 (l.at i).2] := by
  cases s with
  | cons p _ => exact OwE.cells encP_ok p hi (0, 0)
theorem take_at {l : Pts} {j : Nat} (h : j < l.length) : l.take (j + 1) = l.take j ++ [l.at j] := take_succ_getD h _
theorem mem_take {l : Pts} {j : Nat} : ∀ p ∈ l.take j, p ∈ l := fun _ h => List.mem_of_mem_take h
theorem take_take {l : Pts} {i j : Nat} (h : i ≤ j) : ∀ p ∈ l.take i, p ∈ l.take j := fun p hp => by
  rw [← Nat.min_eq_left h, ← List.take_take] at hp
  exact List.mem_of_mem_take hp
/-- the next point -/
theorem Missed.at {l R : Pts} {c : Cir} {m : Int} {i : Nat} (hM : Missed c l m) (h0 : 0 ≤ m) (hS : Sm (l.take i) R c) : ∃ j : Nat, m = j ∧ j < l.length ∧ 0 < whr c (l.at j) ∧ Sm (l.take j) R c ∧ i ≤ j := by
  rcases hM with ⟨rfl, _⟩ | ⟨j, rfl, hj, hp, hh⟩
  · omega
  · rcases Nat.lt_or_ge j i with g | g
    · have : l.at j ∈ l.take i := by
        have : l.at j ∈ l.take (j + 1) := by rw [take_at hj]; simp
        exact take_take (by omega) _ this
      have := hS.hold _ this
      omega
    · exact ⟨j, rfl, hj, hp, hS.more (take_take g) hh, g⟩
theorem Missed.end {l R : Pts} {c : Cir} {m : Int} {i : Nat} (hM : Missed c l m) (h0 : ¬ 0 ≤ m) (hS : Sm (l.take i) R c) : Sm l R c := by
  rcases hM with ⟨rfl, h⟩ | ⟨j, rfl, _⟩
  · exact hS.more mem_take h
  · omega
theorem Missed.next {l R : Pts} {c : Cir} {m : Int} {i : Nat} (hM : Missed c l m) (hS : Sm (l.take i) R c) (h0 : 0 ≤ m) : (i : Int) ≤ m := by
  obtain ⟨j, rfl, _, _, _, h⟩ := hM.at h0 hS
  omega
def left (l : Pts) (m : Int) : Nat := if m < 0 then 0 else l.length + 1 - m.toNat
theorem left_lt {l : Pts} {j : Nat} {m' : Int} (hj : j < l.length) (h : 0 ≤ m' → ((j + 1 : Nat) : Int) ≤ m') : left l m' < left l (j : Int) := by
  unfold left
  rw [if_neg (show ¬ (j : Int) < 0 by omega)]
  split
  · omega
  · have := h (by omega); omega
theorem RingR.oc {c : Cir} {r : Value} (h : RingR c r) : ∃ (a : Option Addr) (n k : Nat), r = ringV c (.slice a n k) := h
theorem c_both (w : World) (v : Value) (l : Pts) (p q : Int × Int) (hR : RdF encP 2 w.heap.size w v l) (hl : OkL l) (hp : OkP p) (hq : OkP q) (hn : p ≠ q) (he : Ex l [p, q]) :
    RetE Try.prog 80 [v, .agg #[.int .i64 p.1, .int .i64 p.2], .agg #[.int .i64 q.1, .int .i64 q.2]].toArray w (fun r => ∃ c, Sm l [p, q] c ∧ RingR c r) := by
  refine RetE.of mixed tyTab Try.func80 rfl rfl ?_
  replace hR : RdF encP 2 (fnCx mixed tyTab Try.f80.ntmps w).B (fnCx mixed tyTab Try.f80.ntmps w).w0 v l := hR
  have hle := hR.sl.le
  refine W.sreg ?_
  refine WO.boxA rfl rfl (fun b1 hb1 => ?_)
  refine WO.boxA rfl rfl (fun b2 hb2 => ?_)
  refine WO.alloc rfl rfl rfl (fun b3 hb3 => ?_)
  refine WO.nil ?_
  refine W.sreg ?_
  refine WO.loadA rfl rfl (Cells.own (Pick.tail (Pick.tail (Pick.head)))) rfl rfl (WO.loadA rfl rfl (Cells.own (Pick.tail (Pick.head))) rfl rfl ?_)
  refine WO.callE rfl Try.call81 (fun L w hi => c_between w p q hp hq) rfl ?_
  rintro _ ⟨a0, n0, k0, rfl⟩
  refine WO.alloc rfl rfl rfl (fun b4 hb4 => ?_)
  refine WO.storeA rfl rfl rfl rfl Pick.head rfl rfl ?_
  refine WO.nil ?_
  refine W.seq ?_
  refine W.sreg ?_
  refine WO.loadA rfl rfl (Cells.own Pick.head) rfl rfl (WO.p rfl rfl ?_)
  refine WO.callE rfl Try.call62 (fun L w hi => c_missed w (betwC p q) _ rfl v l (hR.later hi) (Sm.betw hp hq).ok hl) rfl ?_
  rintro _ ⟨m0, rfl, hm0⟩
  refine WO.p rfl rfl ?_
  refine WO.nil ?_
  refine W.block ?_
  refine W.loop5 (fun (c : Cir) (a : Option Addr) (n : Nat) (k : Nat) (m : Int) => (∃ i, i ≤ l.length ∧ Sm (l.take i) [p, q] c) ∧ Missed c l m)
    (fun (c : Cir) (a : Option Addr) (n : Nat) (k : Nat) (m : Int) => [(8, .int .i64 m), (7, .pointer (some ⟨b4, 0, none⟩)), (6, .pointer (some ⟨b3, 0, none⟩)), (5, .pointer (some ⟨b2, 0, none⟩)), (4, .pointer (some ⟨b1, 0, none⟩)), (0, v)])
    (fun (c : Cir) (a : Option Addr) (n : Nat) (k : Nat) (m : Int) => [pt b4 (.cells #[.int .i64 c.x, .int .i64 c.y, .int .i64 c.den, .int .i64 c.n, .int .i64 c.d, .slice a n k] 66 (0, 0)), pt b3 (.cells #[.int .i64 0, .int .i64 0, .int .i64 0, .int .i64 0, .int .i64 0, .slice none 0 0] 66 (0, 0)), pt b2 (.cells #[.int .i64 q.1, .int .i64 q.2] 74 (0, 0)), pt b1 (.cells #[.int .i64 p.1, .int .i64 p.2] 74 (0, 0))])
    (fun (c : Cir) (a : Option Addr) (n : Nat) (k : Nat) (m : Int) => left l m) (betwC p q) a0 n0 k0 m0
    (by exact ⟨⟨0, by omega, Sm.betw hp hq⟩, hm0⟩) ⟨rfl, rfl, rfl, rfl, rfl, rfl, trivial⟩ (by repeat (first | exact Sub.nil | refine Sub.cons (by repeat (first | exact Pick.head | apply Pick.tail)) ?_)) ?_
  rintro c a n k m ⟨hSm, hM⟩
  refine W.seq ?_
  refine W.sreg ?_
  refine WO.p rfl rfl (WO.p rfl rfl ?_)
  refine WO.nil ?_
  refine W.cond_bl rfl (fun c1 => ?_) (fun c1 => ?_)
  · first
    | (exfalso; omega)
    | (refine W.skip ?_
       refine W.seq ?_
       refine W.block ?_
       obtain ⟨i, hi, hS⟩ := hSm
       obtain ⟨j, rfl, hj, hw, hS2, hij⟩ := hM.at (by omega) hS
       have hT := hS2.thr hp hq (at_ok hl hj) hn hw (by rw [← take_at hj]; exact he.sub mem_take)
       rw [← take_at hj] at hT
       refine W.drawD 11 [.r 0 [], .r 1 [], .r 2 [], .b 3 [], .b 4 [], .b 5 [], .c 6 [], .r 7 [], .r 8 [], .r 9 [], .s 10 []] [] (A0 := [_]) (H0 := [_, _, _]) (.cons .head (.cons .head (.cons .head (.cons .head .nil)))) (by kernel_rfl) ?_ ?_
       · exact (ALok.r (ALok.r (ALok.r (ALok.b (ALok.b (ALok.b (ALok.c (ALok.r (ALok.r (ALok.r (ALok.s ALok.nil)))))))))))
       refine' DT.r rfl rfl rfl ?hq ?_
       case hq =>
         refine WO.p rfl rfl ?_
         exact WO.nil ⟨rfl, rfl⟩
       refine' DT.r rfl rfl rfl ?hq ?_
       case hq =>
         refine WO.p rfl rfl ?_
         exact WO.nil ⟨rfl, rfl⟩
       refine' DT.r rfl rfl rfl ?hq ?_
       case hq =>
         refine' WO.indexAddr (n := _) (i := _) rfl rfl rfl ?hs ?h1 rfl ?_
         case hs => (first | exact hR.sl)
         case h1 => (first | omega | (simp; omega))
         exact WO.nil ⟨rfl, rfl⟩
       refine' DT.b rfl rfl rfl ?hq ?_
       case hq =>
         refine' WO.loadA (vs := _) rfl rfl ?hc ?hl rfl ?_
         case hc => (first | exact RdF.cells2 hR (i := j) (by omega))
         case hl => rfl
         exact WO.nil ⟨rfl, rfl⟩
       refine' DT.b rfl rfl rfl ?hq ?_
       case hq =>
         refine WO.loadA rfl rfl (Cells.own (Pick.tail (Pick.tail (Pick.head)))) rfl rfl ?_
         exact WO.nil ⟨rfl, rfl⟩
       refine' DT.b rfl rfl rfl ?hq ?_
       case hq =>
         refine WO.loadA rfl rfl (Cells.own (Pick.tail (Pick.head))) rfl rfl ?_
         exact WO.nil ⟨rfl, rfl⟩
       refine DT.c [_, _, _, _] rfl rfl rfl rfl ?_
       refine WO.callE rfl Try.call54 (fun L w hi => c_through w (l.at j) p q (at_ok hl hj) hp hq) rfl ?_
       rintro _ ⟨c', a', n', k', rfl, hcx⟩
       obtain rfl := hcx hT.1
       refine WO.nil ⟨_, [_], rfl, rfl, (Keep.b (Keep.b (Keep.b (Keep.r (Keep.r (Keep.r Keep.nil)))))), ?_⟩
       refine' DT.r rfl rfl rfl ?hq ?_
       case hq =>
         refine WO.p rfl rfl ?_
         exact WO.nil ⟨rfl, rfl⟩
       refine' DT.r rfl rfl rfl ?hq ?_
       case hq =>
         refine WO.p rfl rfl ?_
         exact WO.nil ⟨rfl, rfl⟩
       refine' DT.r rfl rfl rfl ?hq ?_
       case hq =>
         refine WO.p rfl rfl ?_
         exact WO.nil ⟨rfl, rfl⟩
       refine DT.s [_, _, _, _] rfl rfl rfl ?_
       refine WO.storeA rfl rfl rfl rfl Pick.head rfl rfl ?_
       refine WO.nil ⟨[_], rfl, rfl, (Keep.r (Keep.r (Keep.r (Keep.c (Keep.b (Keep.b (Keep.b (Keep.r (Keep.r (Keep.r Keep.nil)))))))))), ?_⟩
       refine DT.nil [_, _, _, _] rfl ?_
       refine WO.nil ?_
       refine W.region ?_
       refine WO.loadA rfl rfl (Cells.own Pick.head) rfl rfl (WO.p rfl rfl ?_)
       refine WO.callE rfl Try.call62 (fun L w hi => c_missed w (thrC (l.at j) p q) _ rfl v l (hR.later hi) hT.2.ok hl) rfl ?_
       rintro _ ⟨m', rfl, hm'⟩
       refine WO.p rfl rfl ?_
       refine WO.nil ?_
       refine' ⟨_, _, _, _, _, ?hp, ?hmu, ⟨rfl, rfl, rfl, rfl, rfl, rfl, trivial⟩, ?hS⟩
       case hS => repeat (first | exact Sub.nil | refine Sub.cons (by repeat (first | exact Pick.head | apply Pick.tail)) ?_)
       case hp => exact ⟨⟨j + 1, by omega, hT.2⟩, hm'⟩
       case hmu => exact left_lt hj (hm'.next hT.2))
  · first
    | (exfalso; omega)
    | (refine W.exit (blk_same ?_)
       refine W.sreg ?_
       refine WO.loadA rfl rfl (Cells.own Pick.head) rfl rfl (WO.storeA rfl rfl rfl rfl (Pick.tail (Pick.head)) rfl rfl ?_)
       refine WO.nil ?_
       refine W.ret ?_
       exact fin.ret (Res.one rfl (RV.cell rfl rfl rfl (Cells.own (by repeat (first | exact Pick.head | apply Pick.tail))))) ⟨c, by obtain ⟨i, hi, hS⟩ := hSm; exact hM.end (by omega) hS, _, _, _, rfl⟩)
theorem c_with (w : World) (av : Option Addr) (cv : Nat) (l : Pts) (p : Int × Int) (hcap : l.length ≤ cv) (hR : RdF encP 2 w.heap.size w (.slice av l.length cv) l) (hl : OkL l) (hp : OkP p) (he : Ex l [p]) :
    RetE Try.prog 66 [.slice av l.length cv, .agg #[.int .i64 p.1, .int .i64 p.2]].toArray w (fun r => ∃ c, Sm l [p] c ∧ RingR c r) := by
  refine RetE.of mixed tyTab Try.func66 rfl rfl ?_
  replace hR : RdF encP 2 (fnCx mixed tyTab Try.f66.ntmps w).B (fnCx mixed tyTab Try.f66.ntmps w).w0 (.slice av l.length cv) l := hR
  have hle := hR.sl.le
  refine W.sreg ?_
  refine WO.boxA rfl rfl (fun b1 hb1 => ?_)
  refine WO.alloc rfl rfl rfl (fun b2 hb2 => ?_)
  refine WO.nil ?_
  refine W.sreg ?_
  refine WO.loadA rfl rfl (Cells.own (Pick.tail (Pick.head))) rfl rfl ?_
  refine WO.callE rfl Try.call65 (fun L w hi => c_alone w p hp) rfl ?_
  rintro _ ⟨a0, n0, k0, rfl⟩
  refine WO.alloc rfl rfl rfl (fun b3 hb3 => ?_)
  refine WO.storeA rfl rfl rfl rfl Pick.head rfl rfl ?_
  refine WO.nil ?_
  refine W.seq ?_
  refine W.sreg ?_
  refine WO.loadA rfl rfl (Cells.own Pick.head) rfl rfl (WO.p rfl rfl ?_)
  refine WO.callE rfl Try.call62 (fun L w hi => c_missed w (aloneC p) _ rfl _ l (hR.later hi) (Sm.alone hp).ok hl) rfl ?_
  rintro _ ⟨m0, rfl, hm0⟩
  refine WO.p rfl rfl ?_
  refine WO.nil ?_
  refine W.block ?_
  refine W.loop5 (fun (c : Cir) (a : Option Addr) (n : Nat) (k : Nat) (m : Int) => (∃ i, i ≤ l.length ∧ Sm (l.take i) [p] c) ∧ Missed c l m)
    (fun (c : Cir) (a : Option Addr) (n : Nat) (k : Nat) (m : Int) => [(6, .int .i64 m), (5, .pointer (some ⟨b3, 0, none⟩)), (4, .pointer (some ⟨b2, 0, none⟩)), (3, .pointer (some ⟨b1, 0, none⟩)), (0, .slice av l.length cv)])
    (fun (c : Cir) (a : Option Addr) (n : Nat) (k : Nat) (m : Int) => [pt b3 (.cells #[.int .i64 c.x, .int .i64 c.y, .int .i64 c.den, .int .i64 c.n, .int .i64 c.d, .slice a n k] 66 (0, 0)), pt b2 (.cells #[.int .i64 0, .int .i64 0, .int .i64 0, .int .i64 0, .int .i64 0, .slice none 0 0] 66 (0, 0)), pt b1 (.cells #[.int .i64 p.1, .int .i64 p.2] 74 (0, 0))])
    (fun (c : Cir) (a : Option Addr) (n : Nat) (k : Nat) (m : Int) => left l m) (aloneC p) a0 n0 k0 m0
    (by exact ⟨⟨0, by omega, Sm.alone hp⟩, hm0⟩) ⟨rfl, rfl, rfl, rfl, rfl, trivial⟩ (by repeat (first | exact Sub.nil | refine Sub.cons (by repeat (first | exact Pick.head | apply Pick.tail)) ?_)) ?_
  rintro c a n k m ⟨hSm, hM⟩
  refine W.seq ?_
  refine W.sreg ?_
  refine WO.p rfl rfl (WO.p rfl rfl ?_)
  refine WO.nil ?_
  refine W.cond_bl rfl (fun c1 => ?_) (fun c1 => ?_)
  · first
    | (exfalso; omega)
    | (refine W.skip ?_
       refine W.seq ?_
       refine W.block ?_
       obtain ⟨i, hi, hS⟩ := hSm
       obtain ⟨j, rfl, hj, hw, hS2, hij⟩ := hM.at (by omega) hS
       have hX := hS2.next hw (by rw [← take_at hj]; exact he.sub mem_take)
       refine W.drawD 9 [.r 0 [], .r 1 [], .r 2 [], .r 3 [], .r 4 [], .r 5 [], .r 6 [], .b 7 [], .b 8 []] [] (A0 := [_]) (H0 := [_, _]) (.cons .head (.cons .head (.cons .head .nil))) (by kernel_rfl) ?_ ?_
       · exact (ALok.r (ALok.r (ALok.r (ALok.r (ALok.r (ALok.r (ALok.r (ALok.b (ALok.b ALok.nil)))))))))
       refine' DT.r rfl rfl rfl ?hq ?_
       case hq =>
         refine WO.p rfl rfl ?_
         exact WO.nil ⟨rfl, rfl⟩
       refine' DT.r rfl rfl rfl ?hq ?_
       case hq =>
         refine WO.p rfl rfl ?_
         exact WO.nil ⟨rfl, rfl⟩
       refine' DT.r rfl rfl rfl ?hq ?_
       case hq =>
         refine WO.p rfl rfl ?_
         exact WO.nil ⟨rfl, rfl⟩
       refine' DT.r rfl rfl rfl ?hq ?_
       case hq =>
         refine WO.slSl (lo := 0) (hi := j) (mx := j) rfl rfl bnd.no (bnd.at rfl) (bnd.at rfl) (fun _ => rfl) (by omega) (by omega) (by omega) rfl ?_
         exact WO.nil ⟨rfl, rfl⟩
       refine' DT.r rfl rfl rfl ?hq ?_
       case hq =>
         refine WO.p rfl rfl ?_
         exact WO.nil ⟨rfl, rfl⟩
       refine' DT.r rfl rfl rfl ?hq ?_
       case hq =>
         refine WO.p rfl rfl ?_
         exact WO.nil ⟨rfl, rfl⟩
       refine' DT.r rfl rfl rfl ?hq ?_
       case hq =>
         refine' WO.indexAddr (n := _) (i := _) rfl rfl rfl ?hs ?h1 rfl ?_
         case hs => (first | exact hR.sl)
         case h1 => (first | omega | (simp; omega))
         exact WO.nil ⟨rfl, rfl⟩
       refine' DT.b rfl rfl rfl ?hq ?_
       case hq =>
         refine' WO.loadA (vs := _) rfl rfl ?hc ?hl rfl ?_
         case hc => (first | exact RdF.cells2 hR (i := j) (by omega))
         case hl => rfl
         exact WO.nil ⟨rfl, rfl⟩
       refine' DT.b rfl rfl rfl ?hq ?_
       case hq =>
         refine WO.loadA rfl rfl (Cells.own (Pick.tail (Pick.head))) rfl rfl ?_
         exact WO.nil ⟨rfl, rfl⟩
       refine DT.nil [_, _, _] rfl ?_
       refine WO.callE rfl Try.call80 (fun L w hi => c_both w _ (l.take j) (l.at j) p ((hR.later hi).sub (lo := 0) (hi := j) (mx := j) (by omega) (by omega) (by omega)) (fun x hx => hl x (mem_take x hx)) (at_ok hl hj) hp (hS2.ne (by simp) hw) hX) rfl ?_
       rintro _ ⟨c', hT, a', n', k', rfl⟩
       have hG := hS2.grow hw hT
       rw [← take_at hj] at hG
       refine WO.storeA rfl rfl rfl rfl Pick.head rfl rfl ?_
       refine WO.nil ?_
       refine W.region ?_
       refine WO.loadA rfl rfl (Cells.own Pick.head) rfl rfl (WO.p rfl rfl ?_)
       refine WO.callE rfl Try.call62 (fun L w hi => c_missed w c' _ rfl _ l (hR.later hi) hG.ok hl) rfl ?_
       rintro _ ⟨m', rfl, hm'⟩
       refine WO.p rfl rfl ?_
       refine WO.nil ?_
       refine' ⟨_, _, _, _, _, ?hp, ?hmu, ⟨rfl, rfl, rfl, rfl, rfl, trivial⟩, ?hS⟩
       case hS => repeat (first | exact Sub.nil | refine Sub.cons (by repeat (first | exact Pick.head | apply Pick.tail)) ?_)
       case hp => exact ⟨⟨j + 1, by omega, hG⟩, hm'⟩
       case hmu => exact left_lt hj (hm'.next hG))
  · first
    | (exfalso; omega)
    | (refine W.exit (blk_same ?_)
       refine W.sreg ?_
       refine WO.loadA rfl rfl (Cells.own Pick.head) rfl rfl (WO.storeA rfl rfl rfl rfl (Pick.tail (Pick.head)) rfl rfl ?_)
       refine WO.nil ?_
       refine W.ret ?_
       exact fin.ret (Res.one rfl (RV.cell rfl rfl rfl (Cells.own (by repeat (first | exact Pick.head | apply Pick.tail))))) ⟨c, by obtain ⟨i, hi, hS⟩ := hSm; exact hM.end (by omega) hS, _, _, _, rfl⟩)
theorem c_grown (w : World) (v : Value) (l : Pts) (hR : RdF encP 2 w.heap.size w v l) (hl : OkL l) (h0 : 0 < l.length) (h1 : l.length ≤ 24) :
    RetE Try.prog 45 [v].toArray w (RingR (lst l)) := by
  refine RetE.of mixed tyTab Try.func45 rfl rfl ?_
  replace hR : RdF encP 2 (fnCx mixed tyTab Try.f45.ntmps w).B (fnCx mixed tyTab Try.f45.ntmps w).w0 v l := hR
  have hle := hR.sl.le
  have hne : l ≠ [] := List.length_pos_iff.1 h0
  have hp := at_ok hl h0
  have hb : Sm (l.take 1) [] (aloneC (l.at 0)) := by rw [show l.take 1 = l.take (0 + 1) from rfl, take_at h0]; exact Sm.alone1 hp
  refine W.sreg ?_
  refine WO.alloc rfl rfl rfl (fun b1 hb1 => ?_)
  refine WO.nil ?_
  refine W.sreg ?_
  refine WO.p rfl rfl ?_
  refine' WO.len (n := _) rfl rfl ?hs rfl ?_
  case hs => (first | exact hR.sl)
  refine WO.makeEN (z := (0, 0)) encP_ok rfl rfl rfl rfl rfl (by omega) (by omega) rfl (fun lb => ?_)
  refine WO.p rfl rfl ?_
  refine WO.nil ?_
  refine W.sreg ?_
  refine WO.p rfl rfl (WO.p rfl rfl ?_)
  refine WO.copyEN (m := l.length) (xs := List.replicate l.length (0, 0)) (ys := l) encP_ok rfl rfl rfl (by repeat (first | exact Pick.head | apply Pick.tail)) hR.sl (by simp) (by simp; omega) (by simp) (hR.flat encP_ok) rfl ?_
  refine WO.nil ?_
  refine W.sreg ?_
  refine WO.p rfl rfl ?_
  refine' WO.indexAddr (n := _) (i := 0) rfl rfl rfl ?hs ?h1 rfl ?_
  case hs => (first | exact isSl_lit (by omega) (fun _ => ⟨_, _, rfl⟩))
  case h1 => (first | omega | (simp; omega))
  refine' WO.loadA (vs := _) rfl rfl ?hc ?hl rfl ?_
  case hc => (first | (refine OwE.cellsP (e := 74) (i := 0) ?_ h0; repeat (first | exact Sub.nil | refine Sub.cons (by repeat (first | exact Pick.head | apply Pick.tail)) ?_)))
  case hl => rfl
  refine WO.callE rfl Try.call65 (fun L w hi => c_alone w (l.at 0) hp) rfl ?_
  rintro _ ⟨a0, n0, k0, rfl⟩
  refine WO.alloc rfl rfl rfl (fun b2 hb2 => ?_)
  refine WO.storeA rfl rfl rfl rfl Pick.head rfl rfl ?_
  refine WO.nil ?_
  refine W.seq ?_
  refine W.sreg ?_
  refine WO.loadA rfl rfl (Cells.own Pick.head) rfl rfl (WO.p rfl rfl ?_)
  refine WO.callE rfl Try.call62 (fun L w hi => c_missed w (aloneC (l.at 0)) _ rfl _ l (RdF.of_ow (e := 74) encP_ok (by repeat (first | exact Pick.head | apply Pick.tail)) hi) hb.ok hl) rfl ?_
  rintro _ ⟨m0, rfl, hm0⟩
  refine WO.p rfl rfl ?_
  refine WO.nil ?_
  refine W.block ?_
  refine W.loop5 (fun (c : Cir) (a : Option Addr) (n : Nat) (k : Nat) (m : Int) => (∃ i, i ≤ l.length ∧ Sm (l.take i) [] c) ∧ Missed c l m)
    (fun (c : Cir) (a : Option Addr) (n : Nat) (k : Nat) (m : Int) => [(5, .int .i64 m), (4, .pointer (some ⟨b2, 0, none⟩)), (3, .slice (some ⟨lb, 0, none⟩) l.length l.length), (2, .pointer (some ⟨b1, 0, none⟩))])
    (fun (c : Cir) (a : Option Addr) (n : Nat) (k : Nat) (m : Int) => [pt b2 (.cells #[.int .i64 c.x, .int .i64 c.y, .int .i64 c.den, .int .i64 c.n, .int .i64 c.d, .slice a n k] 66 (0, 0)), OwE encP 74 2 (.slice (some ⟨lb, 0, none⟩) l.length l.length) l, pt b1 (.cells #[.int .i64 0, .int .i64 0, .int .i64 0, .int .i64 0, .int .i64 0, .slice none 0 0] 66 (0, 0))])
    (fun (c : Cir) (a : Option Addr) (n : Nat) (k : Nat) (m : Int) => left l m) (aloneC (l.at 0)) a0 n0 k0 m0
    (by exact ⟨⟨1, by omega, hb⟩, hm0⟩) ⟨rfl, rfl, rfl, rfl, trivial⟩ (by repeat (first | exact Sub.nil | refine Sub.cons (by repeat (first | exact Pick.head | apply Pick.tail)) ?_)) ?_
  rintro c a n k m ⟨hSm, hM⟩
  refine W.seq ?_
  refine W.sreg ?_
  refine WO.p rfl rfl (WO.p rfl rfl ?_)
  refine WO.nil ?_
  refine W.cond_bl rfl (fun c1 => ?_) (fun c1 => ?_)
  · first
    | (exfalso; omega)
    | (refine W.skip ?_
       refine W.seq ?_
       refine W.block ?_
       obtain ⟨i, hi, hS⟩ := hSm
       obtain ⟨j, rfl, hj, hw, hS2, hij⟩ := hM.at (by omega) hS
       have hX := hS2.next hw (Ex.nil _)
       refine W.drawD 8 [.r 0 [], .r 1 [], .r 2 [], .r 3 [], .r 4 [], .r 5 [], .r 6 [], .b 7 []] [] (A0 := [_]) (H0 := [_, _]) (.cons .head (.cons .head (.cons .head .nil))) (by kernel_rfl) ?_ ?_
       · exact (ALok.r (ALok.r (ALok.r (ALok.r (ALok.r (ALok.r (ALok.r (ALok.b ALok.nil))))))))
       refine' DT.r rfl rfl rfl ?hq ?_
       case hq =>
         refine WO.p rfl rfl ?_
         exact WO.nil ⟨rfl, rfl⟩
       refine' DT.r rfl rfl rfl ?hq ?_
       case hq =>
         refine WO.p rfl rfl ?_
         exact WO.nil ⟨rfl, rfl⟩
       refine' DT.r rfl rfl rfl ?hq ?_
       case hq =>
         refine WO.p rfl rfl ?_
         exact WO.nil ⟨rfl, rfl⟩
       refine' DT.r rfl rfl rfl ?hq ?_
       case hq =>
         refine WO.slSl (lo := 0) (hi := j) (mx := j) rfl rfl bnd.no (bnd.at rfl) (bnd.at rfl) (fun _ => rfl) (by omega) (by omega) (by omega) rfl ?_
         exact WO.nil ⟨rfl, rfl⟩
       refine' DT.r rfl rfl rfl ?hq ?_
       case hq =>
         refine WO.p rfl rfl ?_
         exact WO.nil ⟨rfl, rfl⟩
       refine' DT.r rfl rfl rfl ?hq ?_
       case hq =>
         refine WO.p rfl rfl ?_
         exact WO.nil ⟨rfl, rfl⟩
       refine' DT.r rfl rfl rfl ?hq ?_
       case hq =>
         refine' WO.indexAddr (n := _) (i := _) rfl rfl rfl ?hs ?h1 rfl ?_
         case hs => (first | exact isSl_lit (by omega) (fun _ => ⟨_, _, rfl⟩))
         case h1 => (first | omega | (simp; omega))
         exact WO.nil ⟨rfl, rfl⟩
       refine' DT.b rfl rfl rfl ?hq ?_
       case hq =>
         refine' WO.loadA (vs := _) rfl rfl ?hc ?hl rfl ?_
         case hc => (first | (refine OwE.cellsP (e := 74) (i := j) ?_ hj; repeat (first | exact Sub.nil | refine Sub.cons (by repeat (first | exact Pick.head | apply Pick.tail)) ?_)))
         case hl => rfl
         exact WO.nil ⟨rfl, rfl⟩
       refine DT.nil [_, _, _] rfl ?_
       refine WO.callE rfl Try.call66 (fun L w hi => by have hh := c_with w _ j (l.take j) (l.at j) (by rw [List.length_take]; omega) (by rw [List.length_take, Nat.min_eq_left (by omega)]; exact (RdF.of_ow (e := 74) encP_ok (by repeat (first | exact Pick.head | apply Pick.tail)) hi).sub (lo := 0) (hi := j) (mx := j) (by omega) (by omega) (by omega)) (fun x hx => hl x (mem_take x hx)) (at_ok hl hj) hX; rw [List.length_take, Nat.min_eq_left (by omega)] at hh; exact hh) rfl ?_
       rintro _ ⟨c', hT, a', n', k', rfl⟩
       have hG := hS2.grow hw hT
       rw [← take_at hj] at hG
       refine WO.storeA rfl rfl rfl rfl Pick.head rfl rfl ?_
       refine WO.nil ?_
       refine W.region ?_
       refine WO.loadA rfl rfl (Cells.own Pick.head) rfl rfl (WO.p rfl rfl ?_)
       refine WO.callE rfl Try.call62 (fun L w hi => c_missed w c' _ rfl _ l (RdF.of_ow (e := 74) encP_ok (by repeat (first | exact Pick.head | apply Pick.tail)) hi) hG.ok hl) rfl ?_
       rintro _ ⟨m', rfl, hm'⟩
       refine WO.p rfl rfl ?_
       refine WO.nil ?_
       refine' ⟨_, _, _, _, _, ?hp, ?hmu, ⟨rfl, rfl, rfl, rfl, trivial⟩, ?hS⟩
       case hS => repeat (first | exact Sub.nil | refine Sub.cons (by repeat (first | exact Pick.head | apply Pick.tail)) ?_)
       case hp => exact ⟨⟨j + 1, by omega, hG⟩, hm'⟩
       case hmu => exact left_lt hj (hm'.next hG))
  · first
    | (exfalso; omega)
    | (refine W.exit (blk_same ?_)
       refine W.sreg ?_
       refine WO.loadA rfl rfl (Cells.own Pick.head) rfl rfl (WO.storeA rfl rfl rfl rfl (Pick.tail (Pick.tail (Pick.head))) rfl rfl ?_)
       refine WO.nil ?_
       refine W.ret ?_
       obtain ⟨i, hi, hS⟩ := hSm
       obtain rfl := (hM.end (by omega) hS).lst hl hne
       exact fin.ret (Res.one rfl (RV.cell rfl rfl rfl (Cells.own (by repeat (first | exact Pick.head | apply Pick.tail))))) ⟨_, _, _, rfl⟩)
theorem c_Smallest (w : World) (v : Value) (l : Pts) (hR : RdF encP 2 w.heap.size w v l) : Ret Try.prog 15 [v].toArray w (.tuple #[cirV (if chkL l = 0 then lst l else ⟨0, 0, 0, 0, 0⟩), .int .i64 (chkL l)]) := by
  refine Ret.of mixed tyTab Try.func15 rfl rfl ?_
  replace hR : RdF encP 2 (fnCx mixed tyTab Try.f15.ntmps w).B (fnCx mixed tyTab Try.f15.ntmps w).w0 v l := hR
  refine W.sreg ?_
  refine WO.alloc rfl rfl rfl (fun b1 hb1 => ?_)
  refine WO.p rfl rfl ?_
  refine WO.nil ?_
  refine W.seq ?_
  refine W.sreg ?_
  refine WO.p rfl rfl ?_
  refine WO.callR rfl Try.call34 (fun L w hi => c_CheckTrack w v l (hR.later hi)) rfl ?_
  refine WO.p rfl rfl ?_
  refine WO.nil ?_
  refine W.sreg ?_
  refine WO.p rfl rfl (WO.p rfl rfl ?_)
  refine WO.nil ?_
  refine W.cond_bl rfl (fun c1 => ?_) (fun c1 => ?_)
  · first
    | (exfalso; omega)
    | (refine W.sreg ?_
       refine' WO.build (cs := _) rfl rfl rfl ?hf rfl ?_
       case hf => (conv => lhs; simp [-List.getD_eq_getElem?_getD, fillL, vcl, wrl, TTab.pl?.lget']) <;> rfl
       refine WO.p rfl rfl (WO.storeA rfl rfl rfl rfl Pick.head rfl rfl (WO.p rfl rfl ?_))
       refine WO.nil ?_
       refine W.ret ?_
       refine fin.ret (Res.two rfl (RV.cell rfl rfl rfl (Cells.own (by repeat (first | exact Pick.head | apply Pick.tail)))) (RV.tmp rfl)) ?_
       first | (rw [if_neg (by assumption)]; done) | (have e : chkL l = 0 := (by omega); rw [if_pos e, e]; rfl))
  · first
    | (exfalso; omega)
    | (refine W.skip ?_
       refine W.sreg ?_
       refine WO.p rfl rfl ?_
       have hok := chkL0.1 (show chkL l = 0 by omega)
       refine WO.call (Post := fun r Hq => Hq = [OwE encP 74 2 r l]) rfl Try.call46 (fun L w hi => c_points w v l (hR.later hi) (by omega)) rfl ?_
       rintro pv _ rfl
       refine WO.callE rfl Try.call45 (fun L w hi => c_grown w pv l (RdF.of_ow (e := 74) encP_ok (by repeat (first | exact Pick.head | apply Pick.tail)) hi) hok.2 (by omega) (by omega)) rfl ?_
       rintro _ ⟨a, n, k, rfl⟩
       refine WO.fieldN rfl rfl rfl rfl rfl ?_
       refine WO.storeA rfl rfl rfl rfl (Pick.tail (Pick.head)) rfl rfl (WO.p rfl rfl ?_)
       refine WO.nil ?_
       refine W.ret ?_
       refine fin.ret (Res.two rfl (RV.cell rfl rfl rfl (Cells.own (by repeat (first | exact Pick.head | apply Pick.tail)))) (RV.tmp rfl)) ?_
       first | (rw [if_neg (by assumption)]; done) | (have e : chkL l = 0 := (by omega); rw [if_pos e, e]; rfl))
end Go.Proofs.Ytkhplcncfogolaa
namespace Go.Proofs.Ytkhplcncfogolaa
open Go Go.TH
attribute [local irreducible] W WO pt
set_option maxRecDepth 10000
set_option maxHeartbeats 1000000
theorem encC_ok : EncOk encC 5 := ⟨fun _ => rfl, fun x u hu => by simp [encC] at hu; rcases hu with rfl | rfl | rfl | rfl | rfl <;> rfl, by omega⟩
def lK (l : Pts) (i k : Nat) : List Cir := candI l i ++ aloneC (l.at i) :: candK l i k
def lM (l : Pts) (i k m : Nat) : List Cir := lK l i k ++ betwC (l.at i) (l.at k) :: candM l i k m
theorem lK_0 (l : Pts) (i : Nat) : candI l i ++ [aloneC (l.at i)] = lK l i 0 := rfl
theorem lM_0 (l : Pts) (i k : Nat) : lK l i k ++ [betwC (l.at i) (l.at k)] = lM l i k 0 := rfl
theorem candM_succ (l : Pts) (i k n : Nat) : candM l i k (n + 1) = candM l i k n ++ (if cross (l.at i) (l.at k) (l.at n) = 0 then [] else [thrC (l.at i) (l.at k) (l.at n)]) := by
  unfold candM; rw [List.range_succ, List.flatMap_append]; simp
theorem candK_succ (l : Pts) (i n : Nat) : candK l i (n + 1) = candK l i n ++ betwC (l.at i) (l.at n) :: candM l i n n := by
  unfold candK; rw [List.range_succ, List.flatMap_append]; simp
theorem candI_succ (l : Pts) (n : Nat) : candI l (n + 1) = candI l n ++ aloneC (l.at n) :: candK l n n := by
  unfold candI; rw [List.range_succ, List.flatMap_append]; simp
theorem lM_end (l : Pts) (i k : Nat) : lM l i k k = lK l i (k + 1) := by unfold lM lK; rw [candK_succ]; simp
theorem lK_end (l : Pts) (i : Nat) : lK l i i = candI l (i + 1) := by unfold lK; rw [candI_succ]
theorem lM_no {l : Pts} {i k m : Nat} (h : cross (l.at i) (l.at k) (l.at m) = 0) : lM l i k m = lM l i k (m + 1) := by unfold lM; rw [candM_succ, if_pos h]; simp
theorem lM_yes {l : Pts} {i k m : Nat} (h : cross (l.at i) (l.at k) (l.at m) ≠ 0) : lM l i k m ++ [thrC (l.at i) (l.at k) (l.at m)] = lM l i k (m + 1) := by unfold lM; rw [candM_succ, if_neg h]; simp
theorem candM_len (l : Pts) (i k : Nat) : ∀ n, (candM l i k n).length ≤ n
  | 0 => by simp [candM]
  | n + 1 => by
    have := candM_len l i k n
    rw [candM_succ, List.length_append]
    split <;> simp <;> omega
theorem candK_len (l : Pts) (i : Nat) : ∀ n, n ≤ 24 → (candK l i n).length ≤ n * 25
  | 0, _ => by simp [candK]
  | n + 1, h => by
    have := candK_len l i n (by omega)
    have := candM_len l i n n
    rw [candK_succ, List.length_append, List.length_cons]
    omega
theorem candI_len (l : Pts) : ∀ n, n ≤ 24 → (candI l n).length ≤ n * 601
  | 0, _ => by simp [candI]
  | n + 1, h => by
    have := candI_len l n (by omega)
    have := candK_len l n n (by omega)
    rw [candI_succ, List.length_append, List.length_cons]
    omega
theorem lK_len {l : Pts} {i k : Nat} (hi : i < 24) (hk : k ≤ i) : (lK l i k).length ≤ 20000 := by
  have := candI_len l i (by omega)
  have := candK_len l i k (by omega)
  unfold lK; rw [List.length_append, List.length_cons]; omega
theorem lM_len {l : Pts} {i k m : Nat} (hi : i < 24) (hk : k ≤ i) (hm : m ≤ k) : (lM l i k m).length ≤ 21000 := by
  have := lK_len (l := l) hi hk
  have := candM_len l i k m
  unfold lM; rw [List.length_append, List.length_cons]; omega
def thO (a b c : Int × Int) : Cir := if cross a b c = 0 then ⟨0, 0, 0, 0, 0⟩ else thrC a b c
def thE (a b c : Int × Int) : Int := if cross a b c = 0 then 5 else 0
theorem thrV_ok {a b c : Int × Int} (ha : OkP a) (hb : OkP b) (hc : OkP c) : thrV a b c = .tuple #[cirV (thO a b c), .int .i64 (thE a b c)] := by
  unfold thrV thO thE; rw [if_pos ⟨ha, hb, hc⟩]; split <;> rfl
theorem thE_0 {a b c : Int × Int} (h : thE a b c = 0) : cross a b c ≠ 0 := fun e => by unfold thE at h; rw [if_pos e] at h; cases h
theorem thE_5 {a b c : Int × Int} (h : ¬ thE a b c = 0) : cross a b c = 0 := Decidable.not_not.1 fun e => h (by unfold thE; rw [if_neg e])
theorem thO_eq {a b c : Int × Int} (h : cross a b c ≠ 0) : thO a b c = thrC a b c := by unfold thO; rw [if_neg h]
theorem ref_candidates (w : World) (v : Value) (l : Pts) (hR : RdF encP 2 w.heap.size w v l) (hl : OkL l) (h1 : l.length ≤ 24) : Ct Try.prog 67 [v].toArray w fun r w' => ∃ Hq, (Hq = [OwE encC 27 5 r (cands l)]) ∧ Inv w [] Hq w' := by
  refine Ct.of mixed tyTab Try.func67 rfl rfl ?_
  replace hR : RdF encP 2 (fnCx mixed tyTab Try.f67.ntmps w).B (fnCx mixed tyTab Try.f67.ntmps w).w0 v l := hR
  have hle := hR.sl.le
  refine W.sreg ?_
  refine WO.p rfl rfl ?_
  refine WO.nil ?_
  refine W.sreg ?_
  refine WO.p rfl rfl ?_
  refine WO.nil ?_
  refine W.seq ?_
  refine W.sreg ?_
  refine WO.p rfl rfl ?_
  refine WO.nil ?_
  refine W.block ?_
  refine W.chg (owNil (enc := encC) (e := 27) (sz := 5)) ?_
  refine W.loop2 (fun (i : Nat) (x : Value) => i ≤ l.length)
    (fun (i : Nat) (x : Value) => [(4, .int .i64 (i : Int)), (0, v), (3, x)])
    (fun (i : Nat) (x : Value) => [OwE encC 27 5 x (candI l i)])
    (fun (i : Nat) (x : Value) => l.length - i) 0 (.slice none 0 0)
    (by omega) ⟨rfl, rfl, rfl, trivial⟩ (by repeat (first | exact Sub.nil | refine Sub.cons (by repeat (first | exact Pick.head | apply Pick.tail)) ?_)) ?_
  rintro i x hi0
  refine W.seq ?_
  refine W.sreg ?_
  refine WO.p rfl rfl (WO.p rfl rfl ?_)
  refine' WO.len (n := _) rfl rfl ?hs rfl ?_
  case hs => (first | exact hR.sl)
  refine WO.p rfl rfl ?_
  refine WO.nil ?_
  refine W.cond_bl rfl (fun c1 => ?_) (fun c1 => ?_)
  · first
    | (exfalso; omega)
    | (refine W.skip ?_
       refine W.seq ?_
       refine W.block ?_
       refine W.seq ?_
       refine W.drawD 17 [.r 0 [], .r 1 [], .r 2 [], .r 3 [], .r 4 [], .b 5 [], .r 6 [], .r 7 [], .r 8 [], .r 9 [], .b 10 [], .r 11 [], .r 12 [], .r 13 [], .b 14 [], .b 15 [], .c 16 []] [] (A0 := [_]) (H0 := []) (.cons .head .nil) (by kernel_rfl) ?_ ?_
       · exact (ALok.r (ALok.r (ALok.r (ALok.r (ALok.r (ALok.b (ALok.r (ALok.r (ALok.r (ALok.r (ALok.b (ALok.r (ALok.r (ALok.r (ALok.b (ALok.b (ALok.c ALok.nil)))))))))))))))))
       refine' DT.r rfl rfl rfl ?hq ?_
       case hq =>
         refine WO.p rfl rfl ?_
         exact WO.nil ⟨rfl, rfl⟩
       refine' DT.r rfl rfl rfl ?hq ?_
       case hq =>
         refine WO.p rfl rfl ?_
         exact WO.nil ⟨rfl, rfl⟩
       refine' DT.r rfl rfl rfl ?hq ?_
       case hq =>
         refine WO.p rfl rfl ?_
         exact WO.nil ⟨rfl, rfl⟩
       refine' DT.r rfl rfl rfl ?hq ?_
       case hq =>
         refine' WO.indexAddr (n := _) (i := _) rfl rfl rfl ?hs ?h1 rfl ?_
         case hs => (first | exact hR.sl)
         case h1 => (first | omega | (simp; omega))
         exact WO.nil ⟨rfl, rfl⟩
       refine' DT.r rfl rfl rfl ?hq ?_
       case hq =>
         refine WO.field0 rfl rfl rfl ?_
         exact WO.nil ⟨rfl, rfl⟩
       refine' DT.b rfl rfl rfl ?hq ?_
       case hq =>
         refine' WO.load (v := _) rfl rfl ?hc rfl ?_
         case hc => (first | (refine hR.cellAt (i := i) ?_ (0, 0) ?_ <;> first | rfl | omega) | (refine hR.cell0 (i := i) ?_ (0, 0) ?_ <;> first | rfl | omega))
         exact WO.nil ⟨rfl, rfl⟩
       refine' DT.r rfl rfl rfl ?hq ?_
       case hq =>
         refine WO.p rfl rfl ?_
         exact WO.nil ⟨rfl, rfl⟩
       refine' DT.r rfl rfl rfl ?hq ?_
       case hq =>
         refine WO.p rfl rfl ?_
         exact WO.nil ⟨rfl, rfl⟩
       refine' DT.r rfl rfl rfl ?hq ?_
       case hq =>
         refine' WO.indexAddr (n := _) (i := _) rfl rfl rfl ?hs ?h1 rfl ?_
         case hs => (first | exact hR.sl)
         case h1 => (first | omega | (simp; omega))
         exact WO.nil ⟨rfl, rfl⟩
       refine' DT.r rfl rfl rfl ?hq ?_
       case hq =>
         refine WO.field rfl rfl rfl ?_
         exact WO.nil ⟨rfl, rfl⟩
       refine' DT.b rfl rfl rfl ?hq ?_
       case hq =>
         refine' WO.load (v := _) rfl rfl ?hc rfl ?_
         case hc => (first | (refine hR.cellAt (i := i) ?_ (0, 0) ?_ <;> first | rfl | omega) | (refine hR.cell0 (i := i) ?_ (0, 0) ?_ <;> first | rfl | omega))
         exact WO.nil ⟨rfl, rfl⟩
       refine' DT.r rfl rfl rfl ?hq ?_
       case hq =>
         refine WO.p rfl rfl ?_
         exact WO.nil ⟨rfl, rfl⟩
       refine' DT.r rfl rfl rfl ?hq ?_
       case hq =>
         refine WO.p rfl rfl ?_
         exact WO.nil ⟨rfl, rfl⟩
       refine' DT.r rfl rfl rfl ?hq ?_
       case hq =>
         refine' WO.indexAddr (n := _) (i := _) rfl rfl rfl ?hs ?h1 rfl ?_
         case hs => (first | exact hR.sl)
         case h1 => (first | omega | (simp; omega))
         exact WO.nil ⟨rfl, rfl⟩
       refine' DT.b rfl rfl rfl ?hq ?_
       case hq =>
         refine' WO.loadA (vs := _) rfl rfl ?hc ?hl rfl ?_
         case hc => (first | exact RdF.cells2 hR (i := i) (by omega))
         case hl => rfl
         exact WO.nil ⟨rfl, rfl⟩
       refine' DT.b rfl rfl rfl ?hq ?_
       case hq =>
         have hpi := at_ok hl (show i < l.length by omega)
         obtain ⟨p1, p2⟩ := id hpi
         refine WO.callR (r := cirV (aloneC (l.at i))) rfl Try.call55 (fun L w hi => ref_circle w (l.at i).1 (l.at i).2 1 (l.at i) hpi (by omega) (by omega) (by omega) (by omega)) rfl ?_
         exact WO.nil ⟨rfl, rfl⟩
       refine DT.c [_] rfl rfl rfl rfl ?_
       refine' WO.buildSl (cs := _) rfl rfl rfl rfl ?hf rfl rfl ?hl rfl (fun v1 => ?_)
       case hf => (conv => lhs; simp [-List.getD_eq_getElem?_getD, fillL, vcl, wrl, TTab.pl?.lget']) <;> rfl
       case hl => rfl
       refine WO.nil ⟨_, [_, _], rfl, rfl, (Keep.b (Keep.b (Keep.r (Keep.r (Keep.r (Keep.b (Keep.r (Keep.r (Keep.r (Keep.r (Keep.b (Keep.r (Keep.r (Keep.r (Keep.r (Keep.r Keep.nil)))))))))))))))), ?_⟩
       refine DT.nil [_, _] rfl ?_
       have hb := candI_len l i (by omega)
       refine' WO.appendE (enc := encC) (m := 1) (ys := [aloneC (l.at i)]) encC_ok rfl rfl rfl rfl rfl (by repeat (first | exact Pick.head | apply Pick.tail)) (isSl_lit (by omega) (fun _ => ⟨_, _, rfl⟩)) (by omega) rfl (OwC.cells .head) (by omega) (by omega) rfl (fun g c => ?_)
       rw [lK_0]
       refine WO.p rfl rfl ?_
       refine WO.nil ?_
       refine W.sreg ?_
       refine WO.p rfl rfl ?_
       refine WO.nil ?_
       refine W.block ?_
       refine W.loop2 (fun (k : Nat) (x : Value) => k ≤ i)
         (fun (k : Nat) (x : Value) => [(5, .int .i64 (k : Int)), (4, .int .i64 (i : Int)), (0, v), (3, x)])
         (fun (k : Nat) (x : Value) => [OwE encC 27 5 x (lK l i k)])
         (fun (k : Nat) (x : Value) => i - k) 0 _
         (by omega) ⟨rfl, rfl, rfl, rfl, trivial⟩ (by repeat (first | exact Sub.nil | refine Sub.cons (by repeat (first | exact Pick.head | apply Pick.tail)) ?_)) ?_
       rintro k x hk0
       refine W.seq ?_
       refine W.sreg ?_
       refine WO.p rfl rfl (WO.p rfl rfl (WO.p rfl rfl ?_))
       refine WO.nil ?_
       refine W.cond_bl rfl (fun c2 => ?_) (fun c2 => ?_)
       · first
         | (exfalso; omega)
         | (refine W.skip ?_
            refine W.seq ?_
            refine W.block ?_
            refine W.seq ?_
            refine W.drawD 11 [.r 0 [], .r 1 [], .r 2 [], .r 3 [], .b 4 [], .r 5 [], .r 6 [], .r 7 [], .b 8 [], .b 9 [], .c 10 []] [] (A0 := [_]) (H0 := []) (.cons .head .nil) (by kernel_rfl) ?_ ?_
            · exact (ALok.r (ALok.r (ALok.r (ALok.r (ALok.b (ALok.r (ALok.r (ALok.r (ALok.b (ALok.b (ALok.c ALok.nil)))))))))))
            refine' DT.r rfl rfl rfl ?hq ?_
            case hq =>
              refine WO.p rfl rfl ?_
              exact WO.nil ⟨rfl, rfl⟩
            refine' DT.r rfl rfl rfl ?hq ?_
            case hq =>
              refine WO.p rfl rfl ?_
              exact WO.nil ⟨rfl, rfl⟩
            refine' DT.r rfl rfl rfl ?hq ?_
            case hq =>
              refine WO.p rfl rfl ?_
              exact WO.nil ⟨rfl, rfl⟩
            refine' DT.r rfl rfl rfl ?hq ?_
            case hq =>
              refine' WO.indexAddr (n := _) (i := _) rfl rfl rfl ?hs ?h1 rfl ?_
              case hs => (first | exact hR.sl)
              case h1 => (first | omega | (simp; omega))
              exact WO.nil ⟨rfl, rfl⟩
            refine' DT.b rfl rfl rfl ?hq ?_
            case hq =>
              refine' WO.loadA (vs := _) rfl rfl ?hc ?hl rfl ?_
              case hc => (first | exact RdF.cells2 hR (i := i) (by omega))
              case hl => rfl
              exact WO.nil ⟨rfl, rfl⟩
            refine' DT.r rfl rfl rfl ?hq ?_
            case hq =>
              refine WO.p rfl rfl ?_
              exact WO.nil ⟨rfl, rfl⟩
            refine' DT.r rfl rfl rfl ?hq ?_
            case hq =>
              refine WO.p rfl rfl ?_
              exact WO.nil ⟨rfl, rfl⟩
            refine' DT.r rfl rfl rfl ?hq ?_
            case hq =>
              refine' WO.indexAddr (n := _) (i := _) rfl rfl rfl ?hs ?h1 rfl ?_
              case hs => (first | exact hR.sl)
              case h1 => (first | omega | (simp; omega))
              exact WO.nil ⟨rfl, rfl⟩
            refine' DT.b rfl rfl rfl ?hq ?_
            case hq =>
              refine' WO.loadA (vs := _) rfl rfl ?hc ?hl rfl ?_
              case hc => (first | exact RdF.cells2 hR (i := k) (by omega))
              case hl => rfl
              exact WO.nil ⟨rfl, rfl⟩
            refine' DT.b rfl rfl rfl ?hq ?_
            case hq =>
              refine WO.callR (r := cirV (betwC (l.at i) (l.at k))) rfl Try.call30 (fun L w hi => ref_Between w (l.at i) (l.at k) (at_ok hl (by omega)) (at_ok hl (by omega))) rfl ?_
              exact WO.nil ⟨rfl, rfl⟩
            refine DT.c [_] rfl rfl rfl rfl ?_
            refine' WO.buildSl (cs := _) rfl rfl rfl rfl ?hf rfl rfl ?hl rfl (fun v2 => ?_)
            case hf => (conv => lhs; simp [-List.getD_eq_getElem?_getD, fillL, vcl, wrl, TTab.pl?.lget']) <;> rfl
            case hl => rfl
            refine WO.nil ⟨_, [_, _], rfl, rfl, (Keep.b (Keep.b (Keep.r (Keep.r (Keep.r (Keep.b (Keep.r (Keep.r (Keep.r (Keep.r Keep.nil)))))))))), ?_⟩
            refine DT.nil [_, _] rfl ?_
            have hb := lK_len (l := l) (i := i) (k := k) (by omega) (by omega)
            refine' WO.appendE (enc := encC) (m := 1) (ys := [betwC (l.at i) (l.at k)]) encC_ok rfl rfl rfl rfl rfl (by repeat (first | exact Pick.head | apply Pick.tail)) (isSl_lit (by omega) (fun _ => ⟨_, _, rfl⟩)) (by omega) rfl (OwC.cells .head) (by omega) (by omega) rfl (fun g c => ?_)
            rw [lM_0]
            refine WO.p rfl rfl ?_
            refine WO.nil ?_
            refine W.sreg ?_
            refine WO.p rfl rfl ?_
            refine WO.nil ?_
            refine W.block ?_
            refine W.loop2 (fun (m : Nat) (x : Value) => m ≤ k)
              (fun (m : Nat) (x : Value) => [(6, .int .i64 (m : Int)), (5, .int .i64 (k : Int)), (4, .int .i64 (i : Int)), (0, v), (3, x)])
              (fun (m : Nat) (x : Value) => [OwE encC 27 5 x (lM l i k m)])
              (fun (m : Nat) (x : Value) => k - m) 0 _
              (by omega) ⟨rfl, rfl, rfl, rfl, rfl, trivial⟩ (by repeat (first | exact Sub.nil | refine Sub.cons (by repeat (first | exact Pick.head | apply Pick.tail)) ?_)) ?_
            rintro m x hm0
            refine W.seq ?_
            refine W.sreg ?_
            refine WO.p rfl rfl (WO.p rfl rfl (WO.p rfl rfl ?_))
            refine WO.nil ?_
            refine W.cond_bl rfl (fun c3 => ?_) (fun c3 => ?_)
            · first
              | (exfalso; omega)
              | (refine W.skip ?_
                 refine W.seq ?_
                 refine W.block ?_
                 refine W.seq ?_
                 refine W.drawD 18 [.r 0 [], .r 1 [], .r 2 [], .b 3 [], .r 4 [], .r 5 [], .r 6 [], .b 7 [], .r 8 [], .r 9 [], .r 10 [], .b 11 [], .b 12 [], .r 13 [], .r 14 [], .r 15 [], .a 16 7 (.cells #[.int .i64 0, .int .i64 0, .int .i64 0, .int .i64 0, .int .i64 0] 27 (0, 0)), .s 17 []] [] (A0 := []) (Sub.refl _) (by kernel_rfl) ?_ ?_
                 · exact (ALok.r (ALok.r (ALok.r (ALok.b (ALok.r (ALok.r (ALok.r (ALok.b (ALok.r (ALok.r (ALok.r (ALok.b (ALok.b (ALok.r (ALok.r (ALok.r (ALok.cons rfl rfl rfl rfl rfl (ALok.s ALok.nil))))))))))))))))))
                 refine' DT.r rfl rfl rfl ?hq ?_
                 case hq =>
                   refine WO.p rfl rfl ?_
                   exact WO.nil ⟨rfl, rfl⟩
                 refine' DT.r rfl rfl rfl ?hq ?_
                 case hq =>
                   refine WO.p rfl rfl ?_
                   exact WO.nil ⟨rfl, rfl⟩
                 refine' DT.r rfl rfl rfl ?hq ?_
                 case hq =>
                   refine' WO.indexAddr (n := _) (i := _) rfl rfl rfl ?hs ?h1 rfl ?_
                   case hs => (first | exact hR.sl)
                   case h1 => (first | omega | (simp; omega))
                   exact WO.nil ⟨rfl, rfl⟩
                 refine' DT.b rfl rfl rfl ?hq ?_
                 case hq =>
                   refine' WO.loadA (vs := _) rfl rfl ?hc ?hl rfl ?_
                   case hc => (first | exact RdF.cells2 hR (i := i) (by omega))
                   case hl => rfl
                   exact WO.nil ⟨rfl, rfl⟩
                 refine' DT.r rfl rfl rfl ?hq ?_
                 case hq =>
                   refine WO.p rfl rfl ?_
                   exact WO.nil ⟨rfl, rfl⟩
                 refine' DT.r rfl rfl rfl ?hq ?_
                 case hq =>
                   refine WO.p rfl rfl ?_
                   exact WO.nil ⟨rfl, rfl⟩
                 refine' DT.r rfl rfl rfl ?hq ?_
                 case hq =>
                   refine' WO.indexAddr (n := _) (i := _) rfl rfl rfl ?hs ?h1 rfl ?_
                   case hs => (first | exact hR.sl)
                   case h1 => (first | omega | (simp; omega))
                   exact WO.nil ⟨rfl, rfl⟩
                 refine' DT.b rfl rfl rfl ?hq ?_
                 case hq =>
                   refine' WO.loadA (vs := _) rfl rfl ?hc ?hl rfl ?_
                   case hc => (first | exact RdF.cells2 hR (i := k) (by omega))
                   case hl => rfl
                   exact WO.nil ⟨rfl, rfl⟩
                 refine' DT.r rfl rfl rfl ?hq ?_
                 case hq =>
                   refine WO.p rfl rfl ?_
                   exact WO.nil ⟨rfl, rfl⟩
                 refine' DT.r rfl rfl rfl ?hq ?_
                 case hq =>
                   refine WO.p rfl rfl ?_
                   exact WO.nil ⟨rfl, rfl⟩
                 refine' DT.r rfl rfl rfl ?hq ?_
                 case hq =>
                   refine' WO.indexAddr (n := _) (i := _) rfl rfl rfl ?hs ?h1 rfl ?_
                   case hs => (first | exact hR.sl)
                   case h1 => (first | omega | (simp; omega))
                   exact WO.nil ⟨rfl, rfl⟩
                 refine' DT.b rfl rfl rfl ?hq ?_
                 case hq =>
                   refine' WO.loadA (vs := _) rfl rfl ?hc ?hl rfl ?_
                   case hc => (first | exact RdF.cells2 hR (i := m) (by omega))
                   case hl => rfl
                   exact WO.nil ⟨rfl, rfl⟩
                 refine' DT.b rfl rfl rfl ?hq ?_
                 case hq =>
                   refine WO.callR (r := .tuple #[cirV (thO (l.at i) (l.at k) (l.at m)), .int .i64 (thE (l.at i) (l.at k) (l.at m))]) rfl Try.call33 (fun L w hi => by rw [← thrV_ok (at_ok hl (by omega)) (at_ok hl (by omega)) (at_ok hl (by omega))]; exact ref_Through w _ _ _) rfl ?_
                   exact WO.nil ⟨rfl, rfl⟩
                 refine' DT.r rfl rfl rfl ?hq ?_
                 case hq =>
                   refine WO.p rfl rfl ?_
                   exact WO.nil ⟨rfl, rfl⟩
                 refine' DT.r rfl rfl rfl ?hq ?_
                 case hq =>
                   refine WO.p rfl rfl ?_
                   exact WO.nil ⟨rfl, rfl⟩
                 refine' DT.r rfl rfl rfl ?hq ?_
                 case hq =>
                   refine WO.p rfl rfl ?_
                   exact WO.nil ⟨rfl, rfl⟩
                 refine DT.a (fun b3 => ?_)
                 refine DT.s [_, _] rfl rfl rfl ?_
                 refine WO.storeA rfl rfl rfl rfl Pick.head rfl rfl ?_
                 refine WO.nil ⟨[_], rfl, rfl, (Keep.a (Keep.r (Keep.r (Keep.r (Keep.b (Keep.b (Keep.r (Keep.r (Keep.r (Keep.b (Keep.r (Keep.r (Keep.r (Keep.b (Keep.r (Keep.r (Keep.r Keep.nil))))))))))))))))), ?_⟩
                 refine DT.nil [_, _] rfl ?_
                 refine WO.p rfl rfl ?_
                 refine WO.nil ?_
                 refine W.sreg ?_
                 refine WO.p rfl rfl (WO.p rfl rfl ?_)
                 refine WO.nil ?_
                 refine W.cond_bl rfl (fun c4 => ?_) (fun c4 => ?_)
                 · first
                   | (exfalso; omega)
                   | (have hx := thE_0 (by assumption)
                      rw [thO_eq hx]
                      refine W.region ?_
                      refine WO.p rfl rfl (WO.loadA rfl rfl (Cells.own Pick.head) rfl rfl ?_)
                      refine' WO.buildSl (cs := _) rfl rfl rfl rfl ?hf rfl rfl ?hl rfl (fun v4 => ?_)
                      case hf => (conv => lhs; simp [-List.getD_eq_getElem?_getD, fillL, vcl, wrl, TTab.pl?.lget']) <;> rfl
                      case hl => rfl
                      have hb := lM_len (l := l) (i := i) (k := k) (m := m) (by omega) (by omega) (by omega)
                      refine' WO.appendE (enc := encC) (m := 1) (ys := [thrC (l.at i) (l.at k) (l.at m)]) encC_ok rfl rfl rfl rfl rfl (by repeat (first | exact Pick.head | apply Pick.tail)) (isSl_lit (by omega) (fun _ => ⟨_, _, rfl⟩)) (by omega) rfl (OwC.cells .head) (by omega) (by omega) rfl (fun g c => ?_)
                      rw [lM_yes hx]
                      refine WO.p rfl rfl ?_
                      refine WO.nil ?_
                      (try rw [lM_no (thE_5 (by assumption))])
                      refine W.region ?_
                      refine WO.p rfl rfl (WO.ar rfl rfl rfl (by (first | (unfold in64; omega) | (unfold in64; omega))) rfl (WO.p rfl rfl ?_))
                      refine WO.nil ?_
                      refine' ⟨m + 1, _, ?hp, ?hmu, ⟨rfl, rfl, rfl, rfl, rfl, trivial⟩, ?hS⟩
                      case hS => repeat (first | exact Sub.nil | refine Sub.cons (by repeat (first | exact Pick.head | apply Pick.tail)) ?_)
                      case hp => omega
                      case hmu => omega)
                 · first
                   | (exfalso; omega)
                   | (refine W.skip ?_
                      (try rw [lM_no (thE_5 (by assumption))])
                      refine W.region ?_
                      refine WO.p rfl rfl (WO.ar rfl rfl rfl (by (first | (unfold in64; omega) | (unfold in64; omega))) rfl (WO.p rfl rfl ?_))
                      refine WO.nil ?_
                      refine' ⟨m + 1, _, ?hp, ?hmu, ⟨rfl, rfl, rfl, rfl, rfl, trivial⟩, ?hS⟩
                      case hS => repeat (first | exact Sub.nil | refine Sub.cons (by repeat (first | exact Pick.head | apply Pick.tail)) ?_)
                      case hp => omega
                      case hmu => omega))
            · first
              | (exfalso; omega)
              | (refine W.exit (blk_same ?_)
                 obtain rfl : k = m := by omega
                 rw [lM_end]
                 refine W.region ?_
                 refine WO.p rfl rfl (WO.ar rfl rfl rfl (by (first | (unfold in64; omega) | (unfold in64; omega))) rfl (WO.p rfl rfl ?_))
                 refine WO.nil ?_
                 refine' ⟨k + 1, _, ?hp, ?hmu, ⟨rfl, rfl, rfl, rfl, trivial⟩, ?hS⟩
                 case hS => repeat (first | exact Sub.nil | refine Sub.cons (by repeat (first | exact Pick.head | apply Pick.tail)) ?_)
                 case hp => omega
                 case hmu => omega))
       · first
         | (exfalso; omega)
         | (refine W.exit (blk_same ?_)
            obtain rfl : i = k := by omega
            rw [lK_end]
            refine W.region ?_
            refine WO.p rfl rfl (WO.ar rfl rfl rfl (by (first | (unfold in64; omega) | (unfold in64; omega))) rfl (WO.p rfl rfl ?_))
            refine WO.nil ?_
            refine' ⟨i + 1, _, ?hp, ?hmu, ⟨rfl, rfl, rfl, trivial⟩, ?hS⟩
            case hS => repeat (first | exact Sub.nil | refine Sub.cons (by repeat (first | exact Pick.head | apply Pick.tail)) ?_)
            case hp => omega
            case hmu => omega))
  · first
    | (exfalso; omega)
    | (refine W.exit (blk_same ?_)
       obtain rfl : i = l.length := by omega
       refine W.sreg ?_
       refine WO.p rfl rfl (WO.p rfl rfl ?_)
       refine WO.nil ?_
       refine W.ret ?_
       exact fin.ret (Res.one rfl (RV.tmp rfl)) rfl)
end Go.Proofs.Ytkhplcncfogolaa
namespace Go.Proofs.Ytkhplcncfogolaa
open Go Go.TH
attribute [local irreducible] W WO pt
set_option maxRecDepth 10000
set_option maxHeartbeats 1000000
def c00 : Cir := ⟨0, 0, 0, 0, 0⟩
def bo (cs : List Cir) (b : Int) : Option Cir := if b < 0 then none else some (cs.getD b.toNat c00)
theorem pick_yes {l : Pts} {cs : List Cir} {i : Nat} {b : Int} (h : PickO l (cs.take i) (bo cs b)) (hi : i < cs.length) (hk : ∀ c ∈ cs, OkC c) (hh : holdL (cs.getD i c00) l) (hl : b < 0 ∨ lessC (cs.getD i c00) (cs.getD b.toNat c00)) : PickO l (cs.take (i + 1)) (bo cs (i : Int)) := by
  have := h.snoc (fun c hc => hk c (List.mem_of_mem_take hc)) (hk _ (getD_mem hi c00))
  rw [take_succ_getD hi c00]
  have e : pickC l (bo cs b) (cs.getD i c00) = bo cs (i : Int) := by
    unfold bo
    rw [if_neg (show ¬ (i : Int) < 0 by omega), Int.toNat_natCast]
    split
    · simp only [pickC]; rw [if_pos hh]
    · simp only [pickC]; rw [if_pos ⟨hl.resolve_left (by assumption), hh⟩]
  rw [← e]; exact this
theorem pick_no {l : Pts} {cs : List Cir} {i : Nat} {b : Int} (h : PickO l (cs.take i) (bo cs b)) (hi : i < cs.length) (hk : ∀ c ∈ cs, OkC c) (hn : ¬ holdL (cs.getD i c00) l ∨ (¬ b < 0 ∧ ¬ lessC (cs.getD i c00) (cs.getD b.toNat c00))) : PickO l (cs.take (i + 1)) (bo cs b) := by
  have := h.snoc (fun c hc => hk c (List.mem_of_mem_take hc)) (hk _ (getD_mem hi c00))
  rw [take_succ_getD hi c00]
  have e : pickC l (bo cs b) (cs.getD i c00) = bo cs b := by
    unfold bo
    split
    · simp only [pickC]; rw [if_neg (hn.resolve_right (fun h => h.1 (by assumption)))]
    · simp only [pickC]; rw [if_neg (fun h => by rcases hn with g | g; exact g h.2; exact g.2 h.1)]
  rw [← e]; exact this
theorem pick_end {l : Pts} {b : Int} (hl : OkL l) (h0 : l ≠ []) (h : PickO l (cands l) (bo (cands l) b)) : 0 ≤ b ∧ (cands l).getD b.toNat c00 = lst l := by
  obtain ⟨c0, hc0, hs⟩ := sm_cand hl h0
  unfold bo at h
  split at h
  · exact absurd hs.hold (h c0 hc0)
  · exact ⟨by omega, (Pick1.sm h (cands_ok hl) hc0 hs).lst hl h0⟩
section
variable {P : Program} {C : Cx P} {H : List HP}
theorem Cells.prt {p : Addr} {vs us : List Value} {o : Nat} (h : Cells C H p vs) (hs : ∀ (j : Nat) (v : Value), us[j]? = some v → vs[o + j]? = some v) : Cells C H (prt p o) us := fun j v hv => by
  have := h (o + j) v (hs j v hv)
  rw [prt_eq, addr_add_add]; exact this
theorem OwE.cellsC {e : Nat} {v : Value} {l : List Cir} {i : Nat} (s : Sub H [OwE encC e 5 v l]) (hi : i < l.length) : Cells C H (elt v i 5) [.int .i64 (l.getD i c00).x, .int .i64 (l.getD i c00).y, .int .i64 (l.getD i c00).den, .int .i64 (l.getD i c00).n, .int .i64 (l.getD i c00).d] := by
  cases s with
  | cons p _ => exact OwE.cells encC_ok p hi c00
theorem OwE.cellsQ {e : Nat} {v : Value} {l : List Cir} {i : Nat} (s : Sub H [OwE encC e 5 v l]) (hi : i < l.length) : Cells C H (TH.prt (elt v i 5) 3) [.int .i64 (l.getD i c00).n, .int .i64 (l.getD i c00).d] :=
  Cells.prt (OwE.cellsC s hi) fun j v hv => by
    match j with
    | 0 => exact hv
    | 1 => exact hv
    | j + 2 => simp at hv
end
theorem ref_Least (w : World) (v : Value) (l : Pts) (hR : RdF encP 2 w.heap.size w v l) (hl : OkL l) (h0 : 0 < l.length) (h1 : l.length ≤ 24) : Ret Try.prog 47 [v].toArray w (cirV (lst l)) := by
  refine Ret.of mixed tyTab Try.func47 rfl rfl ?_
  replace hR : RdF encP 2 (fnCx mixed tyTab Try.f47.ntmps w).B (fnCx mixed tyTab Try.f47.ntmps w).w0 v l := hR
  have hne : l ≠ [] := List.length_pos_iff.1 h0
  have hk := cands_ok hl
  have hlen : (cands l).length ≤ 20000 := by have := candI_len l l.length h1; unfold cands; omega
  refine W.sreg ?_
  refine WO.alloc rfl rfl rfl (fun b1 hb1 => ?_)
  refine WO.nil ?_
  refine W.sreg ?_
  refine WO.p rfl rfl ?_
  refine WO.call (Post := fun r Hq => Hq = [OwE encC 27 5 r (cands l)]) rfl Try.call67 (fun L w hi => ref_candidates w v l (hR.later hi) hl h1) rfl ?_
  rintro cv _ rfl
  refine WO.fact (OwE.sl (enc := encC) (e := 27) (sz := 5) (v := cv) (xs := cands l) Pick.head) (fun hsl => ?_)
  refine WO.p rfl rfl ?_
  refine WO.nil ?_
  refine W.sreg ?_
  refine WO.p rfl rfl ?_
  refine WO.nil ?_
  refine W.seq ?_
  refine W.sreg ?_
  refine WO.p rfl rfl ?_
  refine WO.nil ?_
  refine W.block ?_
  refine W.loop2 (fun (i : Nat) (b : Int) => i ≤ (cands l).length ∧ -1 ≤ b ∧ b < i ∧ PickO l ((cands l).take i) (bo (cands l) b))
    (fun (i : Nat) (b : Int) => [(5, .int .i64 (i : Int)), (4, .int .i64 b), (3, cv), (2, .pointer (some ⟨b1, 0, none⟩)), (0, v)])
    (fun (i : Nat) (b : Int) => [pt b1 (.cells #[.int .i64 0, .int .i64 0, .int .i64 0, .int .i64 0, .int .i64 0] 27 (0, 0)), OwE encC 27 5 cv (cands l)])
    (fun (i : Nat) (b : Int) => (cands l).length - i) 0 (-1)
    (by exact ⟨by omega, by omega, by omega, fun c hc => by simp at hc⟩) ⟨rfl, rfl, rfl, rfl, rfl, trivial⟩ (by repeat (first | exact Sub.nil | refine Sub.cons (by repeat (first | exact Pick.head | apply Pick.tail)) ?_)) ?_
  rintro i b ⟨hi0, hb1', hb2', hpk⟩
  refine W.seq ?_
  refine W.sreg ?_
  refine WO.p rfl rfl (WO.p rfl rfl ?_)
  refine' WO.len (n := _) rfl rfl ?hs rfl ?_
  case hs => (first | exact hsl)
  refine WO.p rfl rfl ?_
  refine WO.nil ?_
  refine W.cond_bl rfl (fun c1 => ?_) (fun c1 => ?_)
  · first
    | (exfalso; omega)
    | (refine W.skip ?_
       refine W.seq ?_
       refine W.block ?_
       refine W.seq ?_
       refine W.drawD 21 [.r 0 [], .r 1 [], .r 2 [], .r 3 [], .r 4 [], .r 5 [], .r 6 [], .b 7 [], .r 8 [], .r 9 [], .r 10 [], .r 11 [], .b 12 [], .b 13 [], .r 14 [], .r 15 [], .r 16 [], .r 17 [], .r 18 [], .b 19 [], .r 20 []] [] (A0 := []) (Sub.refl _) (by kernel_rfl) ?_ ?_
       · exact (ALok.r (ALok.r (ALok.r (ALok.r (ALok.r (ALok.r (ALok.r (ALok.b (ALok.r (ALok.r (ALok.r (ALok.r (ALok.b (ALok.b (ALok.r (ALok.r (ALok.r (ALok.r (ALok.r (ALok.b (ALok.r ALok.nil)))))))))))))))))))))
       refine' DT.r rfl rfl rfl ?hq ?_
       case hq =>
         refine WO.p rfl rfl ?_
         exact WO.nil ⟨rfl, rfl⟩
       refine' DT.r rfl rfl rfl ?hq ?_
       case hq =>
         refine WO.p rfl rfl ?_
         exact WO.nil ⟨rfl, rfl⟩
       refine' DT.rB rfl rfl rfl ?hq (fun c2 => ?_) (fun c2 => ?_)
       case hq =>
         refine WO.p rfl rfl ?_
         exact WO.nil ⟨rfl, rfl⟩
       · first
         | (exfalso; omega)
         | (refine' DT.r rfl rfl rfl ?hq ?_
            case hq =>
              refine WO.no rfl rfl ?_
              exact WO.nil ⟨rfl, rfl⟩
            refine' DT.r rfl rfl rfl ?hq ?_
            case hq =>
              refine WO.no rfl rfl ?_
              exact WO.nil ⟨rfl, rfl⟩
            refine' DT.r rfl rfl rfl ?hq ?_
            case hq =>
              refine WO.no rfl rfl ?_
              exact WO.nil ⟨rfl, rfl⟩
            refine' DT.r rfl rfl rfl ?hq ?_
            case hq =>
              refine WO.no rfl rfl ?_
              exact WO.nil ⟨rfl, rfl⟩
            refine' DT.b rfl rfl rfl ?hq ?_
            case hq =>
              refine WO.no rfl rfl ?_
              exact WO.nil ⟨rfl, rfl⟩
            refine' DT.r rfl rfl rfl ?hq ?_
            case hq =>
              refine WO.no rfl rfl ?_
              exact WO.nil ⟨rfl, rfl⟩
            refine' DT.r rfl rfl rfl ?hq ?_
            case hq =>
              refine WO.no rfl rfl ?_
              exact WO.nil ⟨rfl, rfl⟩
            refine' DT.r rfl rfl rfl ?hq ?_
            case hq =>
              refine WO.no rfl rfl ?_
              exact WO.nil ⟨rfl, rfl⟩
            refine' DT.r rfl rfl rfl ?hq ?_
            case hq =>
              refine WO.no rfl rfl ?_
              exact WO.nil ⟨rfl, rfl⟩
            refine' DT.b rfl rfl rfl ?hq ?_
            case hq =>
              refine WO.no rfl rfl ?_
              exact WO.nil ⟨rfl, rfl⟩
            refine' DT.b rfl rfl rfl ?hq ?_
            case hq =>
              refine WO.no rfl rfl ?_
              exact WO.nil ⟨rfl, rfl⟩
            refine' DT.r rfl rfl rfl ?hq ?_
            case hq =>
              refine WO.p rfl rfl ?_
              exact WO.nil ⟨rfl, rfl⟩
            refine' DT.r rfl rfl rfl ?hq ?_
            case hq =>
              refine WO.p rfl rfl ?_
              exact WO.nil ⟨rfl, rfl⟩
            refine' DT.r rfl rfl rfl ?hq ?_
            case hq =>
              refine WO.pg rfl rfl rfl ?_
              exact WO.nil ⟨rfl, rfl⟩
            refine' DT.r rfl rfl rfl ?hq ?_
            case hq =>
              refine WO.pg rfl rfl rfl ?_
              exact WO.nil ⟨rfl, rfl⟩
            refine' DT.r rfl rfl rfl ?hq ?_
            case hq =>
              refine WO.go' rfl ?_
              refine' WO.indexAddr (n := _) (i := _) rfl rfl rfl ?hs ?h1 rfl ?_
              case hs => (first | exact hsl)
              case h1 => (first | omega | (simp; omega))
              exact WO.nil ⟨rfl, rfl⟩
            refine' DT.b rfl rfl rfl ?hq ?_
            case hq =>
              refine WO.go' rfl ?_
              refine' WO.loadA (vs := _) rfl rfl ?hc ?hl rfl ?_
              case hc => (first | (refine OwE.cellsC (e := 27) (l := cands l) (i := i) ?_ (by omega); repeat (first | exact Sub.nil | refine Sub.cons (by repeat (first | exact Pick.head | apply Pick.tail)) ?_)))
              case hl => rfl
              exact WO.nil ⟨rfl, rfl⟩
            refine' DT.r rfl rfl rfl ?hq ?_
            case hq =>
              refine WO.pg rfl rfl rfl ?_
              exact WO.nil ⟨rfl, rfl⟩
            refine DT.nil [_, _] rfl ?_
            refine WO.go' rfl ?_
            refine WO.callR rfl Try.call63 (fun L w hi => ref_All w ((cands l).getD i c00) v l (hR.later hi) (hk _ (getD_mem (by omega) c00)).ok hl) rfl ?_
            refine WO.p rfl rfl ?_
            refine WO.nil ?_
            refine W.cond_bl rfl (fun c3 => ?_) (fun c3 => ?_)
            · first
              | (exfalso; omega)
              | (refine W.region ?_
                 refine WO.p rfl rfl (WO.p rfl rfl ?_)
                 refine WO.nil ?_
                 refine W.region ?_
                 refine WO.p rfl rfl (WO.ar rfl rfl rfl (by (first | (unfold in64; omega) | (unfold in64; omega))) rfl (WO.p rfl rfl ?_))
                 refine WO.nil ?_
                 refine' ⟨i + 1, _, ?hp, ?hmu, ⟨rfl, rfl, rfl, rfl, rfl, trivial⟩, ?hS⟩
                 case hS => repeat (first | exact Sub.nil | refine Sub.cons (by repeat (first | exact Pick.head | apply Pick.tail)) ?_)
                 case hp => first | exact ⟨by omega, by omega, by omega, pick_yes hpk (by omega) hk (by assumption) (by first | (left; omega) | (right; assumption))⟩ | exact ⟨by omega, by omega, by omega, pick_no hpk (by omega) hk (by first | (left; assumption) | (right; exact ⟨by omega, by assumption⟩))⟩
                 case hmu => omega)
            · first
              | (exfalso; omega)
              | (refine W.skip ?_
                 refine W.region ?_
                 refine WO.p rfl rfl (WO.ar rfl rfl rfl (by (first | (unfold in64; omega) | (unfold in64; omega))) rfl (WO.p rfl rfl ?_))
                 refine WO.nil ?_
                 refine' ⟨i + 1, _, ?hp, ?hmu, ⟨rfl, rfl, rfl, rfl, rfl, trivial⟩, ?hS⟩
                 case hS => repeat (first | exact Sub.nil | refine Sub.cons (by repeat (first | exact Pick.head | apply Pick.tail)) ?_)
                 case hp => first | exact ⟨by omega, by omega, by omega, pick_yes hpk (by omega) hk (by assumption) (by first | (left; omega) | (right; assumption))⟩ | exact ⟨by omega, by omega, by omega, pick_no hpk (by omega) hk (by first | (left; assumption) | (right; exact ⟨by omega, by assumption⟩))⟩
                 case hmu => omega))
       · first
         | (exfalso; omega)
         | (refine' DT.r rfl rfl rfl ?hq ?_
            case hq =>
              refine WO.pg rfl rfl rfl ?_
              exact WO.nil ⟨rfl, rfl⟩
            refine' DT.r rfl rfl rfl ?hq ?_
            case hq =>
              refine WO.pg rfl rfl rfl ?_
              exact WO.nil ⟨rfl, rfl⟩
            refine' DT.r rfl rfl rfl ?hq ?_
            case hq =>
              refine WO.go' rfl ?_
              refine' WO.indexAddr (n := _) (i := _) rfl rfl rfl ?hs ?h1 rfl ?_
              case hs => (first | exact hsl)
              case h1 => (first | omega | (simp; omega))
              exact WO.nil ⟨rfl, rfl⟩
            refine' DT.r rfl rfl rfl ?hq ?_
            case hq =>
              refine WO.go' rfl (WO.field rfl rfl rfl ?_)
              exact WO.nil ⟨rfl, rfl⟩
            refine' DT.b rfl rfl rfl ?hq ?_
            case hq =>
              refine WO.go' rfl ?_
              refine' WO.loadA (vs := _) rfl rfl ?hc ?hl rfl ?_
              case hc => (first | (refine OwE.cellsQ (e := 27) (l := cands l) (i := i) ?_ (by omega); repeat (first | exact Sub.nil | refine Sub.cons (by repeat (first | exact Pick.head | apply Pick.tail)) ?_)))
              case hl => rfl
              exact WO.nil ⟨rfl, rfl⟩
            refine' DT.r rfl rfl rfl ?hq ?_
            case hq =>
              refine WO.pg rfl rfl rfl ?_
              exact WO.nil ⟨rfl, rfl⟩
            refine' DT.r rfl rfl rfl ?hq ?_
            case hq =>
              refine WO.pg rfl rfl rfl ?_
              exact WO.nil ⟨rfl, rfl⟩
            refine' DT.r rfl rfl rfl ?hq ?_
            case hq =>
              refine WO.go' rfl ?_
              refine' WO.indexAddrZ (n := _) rfl rfl rfl ?hs ?h00 ?h1 rfl ?_
              case hs => (first | exact hsl)
              case h00 => omega
              case h1 => (first | omega | (simp; omega))
              exact WO.nil ⟨rfl, rfl⟩
            refine' DT.r rfl rfl rfl ?hq ?_
            case hq =>
              refine WO.go' rfl (WO.field rfl rfl rfl ?_)
              exact WO.nil ⟨rfl, rfl⟩
            refine' DT.b rfl rfl rfl ?hq ?_
            case hq =>
              refine WO.go' rfl ?_
              refine' WO.loadA (vs := _) rfl rfl ?hc ?hl rfl ?_
              case hc => (first | (refine OwE.cellsQ (e := 27) (l := cands l) (i := b.toNat) ?_ (by omega); repeat (first | exact Sub.nil | refine Sub.cons (by repeat (first | exact Pick.head | apply Pick.tail)) ?_)))
              case hl => rfl
              exact WO.nil ⟨rfl, rfl⟩
            refine' DT.b rfl rfl rfl ?hq ?_
            case hq =>
              refine WO.go' rfl ?_
              refine WO.callR rfl Try.call25 (fun L w hi => ref_LessC w _ _ (hk _ (getD_mem (by omega) c00)).ok (hk _ (getD_mem (by omega) c00)).ok) rfl ?_
              exact WO.nil ⟨rfl, rfl⟩
            refine' DT.r rfl rfl rfl ?hq ?_
            case hq =>
              refine WO.p rfl rfl ?_
              exact WO.nil ⟨rfl, rfl⟩
            refine' DT.rB rfl rfl rfl ?hq (fun c4 => ?_) (fun c4 => ?_)
            case hq =>
              refine WO.p rfl rfl ?_
              exact WO.nil ⟨rfl, rfl⟩
            · first
              | (exfalso; omega)
              | (refine' DT.r rfl rfl rfl ?hq ?_
                 case hq =>
                   refine WO.pg rfl rfl rfl ?_
                   exact WO.nil ⟨rfl, rfl⟩
                 refine' DT.r rfl rfl rfl ?hq ?_
                 case hq =>
                   refine WO.pg rfl rfl rfl ?_
                   exact WO.nil ⟨rfl, rfl⟩
                 refine' DT.r rfl rfl rfl ?hq ?_
                 case hq =>
                   refine WO.go' rfl ?_
                   refine' WO.indexAddr (n := _) (i := _) rfl rfl rfl ?hs ?h1 rfl ?_
                   case hs => (first | exact hsl)
                   case h1 => (first | omega | (simp; omega))
                   exact WO.nil ⟨rfl, rfl⟩
                 refine' DT.b rfl rfl rfl ?hq ?_
                 case hq =>
                   refine WO.go' rfl ?_
                   refine' WO.loadA (vs := _) rfl rfl ?hc ?hl rfl ?_
                   case hc => (first | (refine OwE.cellsC (e := 27) (l := cands l) (i := i) ?_ (by omega); repeat (first | exact Sub.nil | refine Sub.cons (by repeat (first | exact Pick.head | apply Pick.tail)) ?_)))
                   case hl => rfl
                   exact WO.nil ⟨rfl, rfl⟩
                 refine' DT.r rfl rfl rfl ?hq ?_
                 case hq =>
                   refine WO.pg rfl rfl rfl ?_
                   exact WO.nil ⟨rfl, rfl⟩
                 refine DT.nil [_, _] rfl ?_
                 refine WO.go' rfl ?_
                 refine WO.callR rfl Try.call63 (fun L w hi => ref_All w ((cands l).getD i c00) v l (hR.later hi) (hk _ (getD_mem (by omega) c00)).ok hl) rfl ?_
                 refine WO.p rfl rfl ?_
                 refine WO.nil ?_
                 refine W.cond_bl rfl (fun c5 => ?_) (fun c5 => ?_)
                 · first
                   | (exfalso; omega)
                   | (refine W.region ?_
                      refine WO.p rfl rfl (WO.p rfl rfl ?_)
                      refine WO.nil ?_
                      refine W.region ?_
                      refine WO.p rfl rfl (WO.ar rfl rfl rfl (by (first | (unfold in64; omega) | (unfold in64; omega))) rfl (WO.p rfl rfl ?_))
                      refine WO.nil ?_
                      refine' ⟨i + 1, _, ?hp, ?hmu, ⟨rfl, rfl, rfl, rfl, rfl, trivial⟩, ?hS⟩
                      case hS => repeat (first | exact Sub.nil | refine Sub.cons (by repeat (first | exact Pick.head | apply Pick.tail)) ?_)
                      case hp => first | exact ⟨by omega, by omega, by omega, pick_yes hpk (by omega) hk (by assumption) (by first | (left; omega) | (right; assumption))⟩ | exact ⟨by omega, by omega, by omega, pick_no hpk (by omega) hk (by first | (left; assumption) | (right; exact ⟨by omega, by assumption⟩))⟩
                      case hmu => omega)
                 · first
                   | (exfalso; omega)
                   | (refine W.skip ?_
                      refine W.region ?_
                      refine WO.p rfl rfl (WO.ar rfl rfl rfl (by (first | (unfold in64; omega) | (unfold in64; omega))) rfl (WO.p rfl rfl ?_))
                      refine WO.nil ?_
                      refine' ⟨i + 1, _, ?hp, ?hmu, ⟨rfl, rfl, rfl, rfl, rfl, trivial⟩, ?hS⟩
                      case hS => repeat (first | exact Sub.nil | refine Sub.cons (by repeat (first | exact Pick.head | apply Pick.tail)) ?_)
                      case hp => first | exact ⟨by omega, by omega, by omega, pick_yes hpk (by omega) hk (by assumption) (by first | (left; omega) | (right; assumption))⟩ | exact ⟨by omega, by omega, by omega, pick_no hpk (by omega) hk (by first | (left; assumption) | (right; exact ⟨by omega, by assumption⟩))⟩
                      case hmu => omega))
            · first
              | (exfalso; omega)
              | (refine' DT.r rfl rfl rfl ?hq ?_
                 case hq =>
                   refine WO.no rfl rfl ?_
                   exact WO.nil ⟨rfl, rfl⟩
                 refine' DT.r rfl rfl rfl ?hq ?_
                 case hq =>
                   refine WO.no rfl rfl ?_
                   exact WO.nil ⟨rfl, rfl⟩
                 refine' DT.r rfl rfl rfl ?hq ?_
                 case hq =>
                   refine WO.no rfl rfl ?_
                   exact WO.nil ⟨rfl, rfl⟩
                 refine' DT.b rfl rfl rfl ?hq ?_
                 case hq =>
                   refine WO.no rfl rfl ?_
                   exact WO.nil ⟨rfl, rfl⟩
                 refine' DT.r rfl rfl rfl ?hq ?_
                 case hq =>
                   refine WO.no rfl rfl ?_
                   exact WO.nil ⟨rfl, rfl⟩
                 refine DT.nil [_, _] rfl ?_
                 refine WO.no rfl rfl (WO.p rfl rfl ?_)
                 refine WO.nil ?_
                 refine W.cond_f rfl ?_
                 refine W.skip ?_
                 refine W.region ?_
                 refine WO.p rfl rfl (WO.ar rfl rfl rfl (by (first | (unfold in64; omega) | (unfold in64; omega))) rfl (WO.p rfl rfl ?_))
                 refine WO.nil ?_
                 refine' ⟨i + 1, _, ?hp, ?hmu, ⟨rfl, rfl, rfl, rfl, rfl, trivial⟩, ?hS⟩
                 case hS => repeat (first | exact Sub.nil | refine Sub.cons (by repeat (first | exact Pick.head | apply Pick.tail)) ?_)
                 case hp => first | exact ⟨by omega, by omega, by omega, pick_yes hpk (by omega) hk (by assumption) (by first | (left; omega) | (right; assumption))⟩ | exact ⟨by omega, by omega, by omega, pick_no hpk (by omega) hk (by first | (left; assumption) | (right; exact ⟨by omega, by assumption⟩))⟩
                 case hmu => omega)))
  · first
    | (exfalso; omega)
    | (refine W.exit (blk_same ?_)
       obtain rfl : (cands l).length = i := by omega
       rw [List.take_length] at hpk
       obtain ⟨hb0, hbe⟩ := pick_end hl hne hpk
       refine W.sreg ?_
       refine WO.p rfl rfl (WO.p rfl rfl ?_)
       refine' WO.indexAddrZ (n := _) rfl rfl rfl ?hs ?h00 ?h1 rfl ?_
       case hs => (first | exact hsl)
       case h00 => omega
       case h1 => (first | omega | (simp; omega))
       refine' WO.loadA (vs := _) rfl rfl ?hc ?hl rfl ?_
       case hc => (first | (refine OwE.cellsC (e := 27) (l := cands l) (i := b.toNat) ?_ (by omega); repeat (first | exact Sub.nil | refine Sub.cons (by repeat (first | exact Pick.head | apply Pick.tail)) ?_)))
       case hl => rfl
       refine WO.storeA rfl rfl rfl rfl Pick.head rfl rfl ?_
       refine WO.nil ?_
       refine W.ret ?_
       refine fin.ret (Res.one rfl (RV.cell rfl rfl rfl (Cells.own (by repeat (first | exact Pick.head | apply Pick.tail))))) ?_
       rw [hbe])
end Go.Proofs.Ytkhplcncfogolaa
