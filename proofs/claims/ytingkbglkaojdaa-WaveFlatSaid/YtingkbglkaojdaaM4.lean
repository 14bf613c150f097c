/-
  What is proved here: the finder of a shortest register. Conditions: none; each contract states its own.
  What is proved here: what the finder finds is a shortest register, with its proofs. Conditions: none; each theorem states its own.
  What is proved here: shortest registers, profiles and proofs. Conditions: none; each contract states its own.
  What is proved here: the bits of a register that runs on, by the reference. Conditions: none; each contract states its own.
  What is proved here: the bits of a register that runs on. Conditions: none; each contract states its own.
  What is proved here: the bits of a register that runs on, one after another. Conditions: none; each contract states its own.
  What is proved here: the first bits of a register that runs on. Conditions: none; each contract states its own.
  What is proved here: bits as numbers, and the period of a register (no program in sight). Conditions: none; each theorem states its own.
  What is proved here: states and steps of a register. Conditions: none; each contract states its own.
  What is proved here: the period of a register. Conditions: none; each contract states its own.
-/
import Derived.Test.YtingkbglkaojdaaM3
import Derived.Test.YtingkbglkaojdaaM2
set_option linter.unusedVariables false
set_option linter.unusedSimpArgs false
namespace Go.Proofs.Ytingkbglkaojdaa
open Go Go.TH Go.TH.Wv
attribute [local irreducible] W WO pt
set_option maxRecDepth 10000
set_option maxHeartbeats 2000000
/-- what the finder knows -/
structure St where
  now : Nat
  long : Nat
  prof : List Int
  jumps : List (List Int × Nat × Int)
  old : Nat
  ago : Nat
  last : Nat
/-- the bits that are kept, with one more -/
def lastN (q : Nat) (b : Int) : Nat := if b = 1 then sh q 1 ||| 1 <<< 0 else sh q 1
/-- one bit is looked at -/
def stp (S : St) (n : Nat) (b : Int) : St :=
  if meetB (lastN S.last b) S.now S.long = true then ⟨S.now, S.long, S.prof ++ [(S.long : Int)], S.jumps, S.old, S.ago + 1, lastN S.last b⟩
  else if 2 * S.long ≤ n then ⟨S.now ^^^ sh S.old S.ago, n + 1 - S.long, S.prof ++ [((n + 1 - S.long : Nat) : Int)], S.jumps ++ [(tapsL S.now S.long, n, ((n + 1 - S.long : Nat) : Int))], S.now, 1, lastN S.last b⟩
  else ⟨S.now ^^^ sh S.old S.ago, S.long, S.prof ++ [(S.long : Int)], S.jumps, S.old, S.ago + 1, lastN S.last b⟩
/-- the first bits are looked at -/
def runS (l : List Int) : Nat → St
  | 0 => ⟨1, 0, [0], [], 1, 1, 0⟩
  | n + 1 => stp (runS l n) n (l.getD n 0)
theorem stp_ok {now long old ago q n : Nat} {prof : List Int} {J : List (List Int × Nat × Int)} {b : Int} (h : meetB (lastN q b) now long = true) : stp ⟨now, long, prof, J, old, ago, q⟩ n b = ⟨now, long, prof ++ [(long : Int)], J, old, ago + 1, lastN q b⟩ := if_pos h
theorem stp_jump {now long old ago q n : Nat} {prof : List Int} {J : List (List Int × Nat × Int)} {b : Int} (h : meetB (lastN q b) now long = false) (h2 : 2 * long ≤ n) : stp ⟨now, long, prof, J, old, ago, q⟩ n b = ⟨now ^^^ sh old ago, n + 1 - long, prof ++ [((n + 1 - long : Nat) : Int)], J ++ [(tapsL now long, n, ((n + 1 - long : Nat) : Int))], now, 1, lastN q b⟩ := by
  unfold stp
  rw [if_neg (by simp [h]), if_pos h2]
theorem stp_fix {now long old ago q n : Nat} {prof : List Int} {J : List (List Int × Nat × Int)} {b : Int} (h : meetB (lastN q b) now long = false) (h2 : ¬ 2 * long ≤ n) : stp ⟨now, long, prof, J, old, ago, q⟩ n b = ⟨now ^^^ sh old ago, long, prof ++ [(long : Int)], J, old, ago + 1, lastN q b⟩ := by
  unfold stp
  rw [if_neg (by simp [h]), if_neg h2]
/-- a proof with its bound, in cells: its taps are a slice -/
abbrev JV := (Option Addr × Nat) × (List Int × Nat × Int)
def encJ (x : JV) : List Value := [.slice x.1.1 x.2.1.length x.1.2, .int .i64 (x.2.2.1 : Int), .int .i64 x.2.2.2]
theorem encJ_ok : EncOk encJ 3 := ⟨fun _ => rfl, fun x u hu => by simp [encJ] at hu; rcases hu with rfl | rfl | rfl <;> rfl, by omega⟩
def jS (x : JV) : Value := .slice x.1.1 x.2.1.length x.1.2
def jT (x : JV) : List Int := x.2.1
/-- the taps of all proofs -/
def rowsJ (js : List JV) : HP := RowsE encI 3 1 (js.map jS) (js.map jT)
theorem nilJ {H : List HP} : ∀ h, sat H h → sat (rowsJ [] :: H) h := rowsNil
theorem snocJ {js : List JV} (x : JV) {H H1 H2 : List HP} (p : Pick (rowsJ js) H H1) (q : Pick (OwE encI 3 1 (jS x) (jT x)) H1 H2) : ∀ h, sat H h → sat (rowsJ (js ++ [x]) :: H2) h := by
  intro h hs
  have := rowsSnoc p q h hs
  unfold rowsJ
  rw [List.map_append, List.map_append]
  exact this
theorem xor2 (a b : Nat) : xorL [a, b] = a ^^^ b := by unfold xorL; simp
/-- a step of what is known of the state -/
theorem nextS {l : List Int} {i now long old q : Nat} {prof : List Int} {J : List (List Int × Nat × Int)} {a : Int} (hS : (⟨now, long, prof, J, old, a.toNat, q⟩ : St) = runS l i) : runS l (i + 1) = stp ⟨now, long, prof, J, old, a.toNat, q⟩ i (l.getD i 0) := by rw [hS]; rfl
theorem c_find (w : World) (v : Value) (l : List Int) (hR : RdF encI 1 w.heap.size w v l) (hl : l.length ≤ 128) (h01 : ∀ x ∈ l, x = 0 ∨ x = 1) : Ct Try.prog 41 [v].toArray w fun r w' => ∃ Hq, (∃ Z : Nat × Option Addr × Nat × Option Addr × Nat × List JV, (r = .pointer (some ⟨Z.1, 0, none⟩) ∧ Z.2.2.2.2.2.map (·.2) = (runS l l.length).jumps) ∧ Hq = [pt Z.1 (.cells (finC (runS l l.length).now (runS l l.length).long (.slice Z.2.1 (l.length + 1) Z.2.2.1) (.slice Z.2.2.2.1 Z.2.2.2.2.2.length Z.2.2.2.2.1)).toArray 58 (0, 0)), OwE encI 3 1 (.slice Z.2.1 (l.length + 1) Z.2.2.1) (runS l l.length).prof, OwE encJ 80 3 (.slice Z.2.2.2.1 Z.2.2.2.2.2.length Z.2.2.2.2.1) Z.2.2.2.2.2, rowsJ Z.2.2.2.2.2]) ∧ Inv w [] Hq w' := by
  refine Ct.ofI mixed tyTab Try.func41 rfl rfl ?_
  replace hR : RdF encI 1 (fnCx mixed tyTab Try.f41.ntmps w).B (fnCx mixed tyTab Try.f41.ntmps w).w0 v l := hR
  refine W.sreg ?_
  refine WO.p rfl rfl ?_
  refine WO.nil ?_
  refine W.sreg ?_
  refine' WO.build (cs := _) rfl rfl rfl ?hf rfl ?_
  case hf => (conv => lhs; simp [-List.getD_eq_getElem?_getD, fillL, vcl, wrl, TTab.pl?.lget']) <;> rfl
  refine' WO.buildSl (cs := _) rfl rfl rfl rfl ?hf rfl rfl ?hl rfl (fun v1 => ?_)
  case hf => (conv => lhs; simp [-List.getD_eq_getElem?_getD, fillL, vcl, wrl, TTab.pl?.lget']) <;> rfl
  case hl => rfl
  refine' WO.build (cs := _) rfl rfl rfl ?hf rfl ?_
  case hf => (conv => lhs; simp [-List.getD_eq_getElem?_getD, fillL, vcl, wrl, TTab.pl?.lget']) <;> rfl
  refine WO.boxA rfl rfl (fun b2 hb2 => ?_)
  refine WO.p rfl rfl ?_
  refine WO.nil ?_
  refine W.sreg ?_
  refine' WO.build (cs := _) rfl rfl rfl ?hf rfl ?_
  case hf => (conv => lhs; simp [-List.getD_eq_getElem?_getD, fillL, vcl, wrl, TTab.pl?.lget']) <;> rfl
  refine WO.alloc rfl rfl rfl (fun b3 hb3 => ?_)
  refine WO.storeA rfl rfl rfl rfl Pick.head rfl rfl (WO.p rfl rfl ?_)
  refine WO.nil ?_
  refine W.sreg ?_
  refine WO.alloc rfl rfl rfl (fun b4 hb4 => ?_)
  refine WO.nil ?_
  refine W.seq ?_
  refine W.sreg ?_
  refine WO.p rfl rfl ?_
  refine' WO.len (n := _) rfl rfl ?hs rfl ?_
  case hs => (first | exact hR.sl)
  refine WO.p rfl rfl ?_
  refine WO.nil ?_
  refine W.block ?_
  refine W.chg (owNil (enc := encJ) (e := 80) (sz := 3)) ?_
  refine W.chg nilJ ?_
  refine W.loop12 (fun (i : Nat) (now : Nat) (long : Nat) (prof : List Int) (js : List JV) (old : Nat) (last : Nat) (a : Int) (pa : Option Addr) (pc : Nat) (ja : Option Addr) (jc : Nat) => i ≤ l.length ∧ (⟨now, long, prof, js.map (·.2), old, a.toNat, last⟩ : St) = runS l i ∧ 0 < a ∧ a ≤ (i : Int) + 1 ∧ long ≤ i ∧ js.length ≤ i ∧ prof.length = i + 1)
    (fun (i : Nat) (now : Nat) (long : Nat) (prof : List Int) (js : List JV) (old : Nat) (last : Nat) (a : Int) (pa : Option Addr) (pc : Nat) (ja : Option Addr) (jc : Nat) => [(18, .int .i64 (i : Int)), (17, .int .i64 (l.length : Int)), (16, v), (6, .pointer (some ⟨b4, 0, none⟩)), (5, .int .i64 a), (4, .pointer (some ⟨b3, 0, none⟩)), (3, .pointer (some ⟨b2, 0, none⟩))])
    (fun (i : Nat) (now : Nat) (long : Nat) (prof : List Int) (js : List JV) (old : Nat) (last : Nat) (a : Int) (pa : Option Addr) (pc : Nat) (ja : Option Addr) (jc : Nat) => [pt b2 (.cells #[.int .u64 (wd now 0 : Int), .int .u64 (wd now 1 : Int), .int .u64 (wd now 2 : Int), .int .i64 (long : Int), .slice pa (i + 1) pc, .slice ja js.length jc] 58 (0, 0)), pt b3 (.cells #[.int .u64 (wd old 0 : Int), .int .u64 (wd old 1 : Int), .int .u64 (wd old 2 : Int)] 55 (0, 0)), pt b4 (.cells #[.int .u64 (wd last 0 : Int), .int .u64 (wd last 1 : Int), .int .u64 (wd last 2 : Int)] 55 (0, 0)), OwE encI 3 1 (.slice pa (i + 1) pc) prof, OwE encJ 80 3 (.slice ja js.length jc) js, rowsJ js])
    (fun (i : Nat) (now : Nat) (long : Nat) (prof : List Int) (js : List JV) (old : Nat) (last : Nat) (a : Int) (pa : Option Addr) (pc : Nat) (ja : Option Addr) (jc : Nat) => l.length - i) 0 1 0 [0] [] 1 0 1 (some ⟨v1, 0, none⟩) 1 none 0
    (by exact ⟨by omega, rfl, by omega, by omega, by omega, by simp, rfl⟩) ⟨rfl, rfl, rfl, rfl, rfl, rfl, rfl, trivial⟩ (by repeat (first | exact Sub.nil | refine Sub.cons (by repeat (first | exact Pick.head | apply Pick.tail)) ?_)) ?_
  rintro i now long prof js old last a pa pc ja jc ⟨hi0, hS, ha0, ha1, hlo, hjl, hpl⟩
  refine W.sreg ?_
  refine WO.p rfl rfl ?_
  refine WO.nil ?_
  refine W.seq ?_
  refine W.cond_bl rfl (fun c1 => ?_) (fun c1 => ?_)
  · first
    | (exfalso; omega)
    | (refine W.skip ?_
       refine W.seq ?_
       refine W.block ?_
       refine W.sreg ?_
       refine WO.p rfl rfl ?_
       refine' WO.indexAddr (n := _) (i := _) rfl rfl rfl ?hs ?h1 rfl ?_
       case hs => (first | exact hR.sl)
       case h1 => (first | omega | (simp; omega))
       refine' WO.load (v := _) rfl rfl ?hc rfl ?_
       case hc => (first | (refine hR.cell0 (i := i) ?_ 0 ?_ <;> first | rfl | omega))
       refine WO.p rfl rfl (WO.p rfl rfl ?_)
       refine WO.nil ?_
       refine W.sreg ?_
       refine WO.loadA rfl rfl (Cells.own (Pick.tail (Pick.tail (Pick.head)))) rfl rfl (WO.p rfl rfl (WO.p rfl rfl ?_))
       refine WO.nil ?_
       refine W.sreg ?_
       refine WO.p rfl rfl ?_
       refine WO.callCR (first := [polyV last]) (captured := []) (r := polyV (sh last 1)) rfl rfl Try.call60 (fun L w hi => c_shift w last 1 (by omega)) rfl ?_
       refine WO.storeA rfl rfl rfl rfl (Pick.tail (Pick.tail (Pick.head))) rfl rfl ?_
       refine WO.nil ?_
       refine W.seq ?_
       refine W.sreg ?_
       refine WO.p rfl rfl (WO.p rfl rfl ?_)
       refine WO.nil ?_
       refine W.cond_bl rfl (fun c2 => ?_) (fun c2 => ?_)
       · first
         | (exfalso; omega)
         | (refine W.region ?_
            refine WO.loadA rfl rfl (Cells.own Pick.head) rfl rfl ?_
            refine WO.callR (r := polyV (sh last 1 ||| 1 <<< 0)) rfl Try.call61 (fun L w hi => c_with w (sh last 1) 0 (by omega)) rfl ?_
            refine WO.storeA rfl rfl rfl rfl Pick.head rfl rfl ?_
            refine WO.nil ?_
            refine W.seq ?_
            refine W.block ?_
            first | (have e : lastN last (l.getD i 0) = sh last 1 ||| 1 <<< 0 := if_pos (by assumption); rw [← e]) | (have e : lastN last (l.getD i 0) = sh last 1 := if_neg (by assumption); rw [← e])
            refine W.sreg ?_
            refine WO.p rfl rfl (WO.loadA rfl rfl (Cells.own Pick.head) rfl rfl ?_)
            refine WO.callR (r := .bool (meetB (lastN last (l.getD i 0)) now long)) rfl Try.call62 (fun L w hi => c_meets w _ _ now long _ _ (RdC.own (b := b2) (by repeat (first | exact Pick.head | apply Pick.tail)) hi) (by omega)) rfl ?_
            refine WO.p rfl rfl ?_
            refine WO.nil ?_
            refine W.cond rfl (fun c3 => ?_) (fun c3 => ?_)
            · first
              | (exfalso; omega)
              | (refine W.region ?_
                 refine WO.p rfl rfl (WO.ar rfl rfl rfl (by (first | (unfold in64; omega) | (unfold in64; omega))) rfl (WO.p rfl rfl ?_))
                 refine WO.nil ?_
                 refine W.drawD 11 [.r 0 [], .r 1 [], .r 2 [], .r 3 [], .b 4 [], .r 5 [], .r 6 [], .r 7 [], .b 8 [], .c 9 [], .c 10 []] [] (A0 := [_]) (H0 := [_, _, _, _, _]) (.cons (Pick.tail (Pick.tail (Pick.tail .head))) (.cons .head (.cons .head (.cons .head (.cons .head (.cons .head .nil)))))) (by kernel_rfl) ?_ ?_
                 · exact (ALok.r (ALok.r (ALok.r (ALok.r (ALok.b (ALok.r (ALok.r (ALok.r (ALok.b (ALok.c (ALok.c ALok.nil)))))))))))
                 refine' DT.r rfl rfl rfl ?hq ?_
                 case hq =>
                   refine WO.p rfl rfl ?_
                   exact WO.nil ⟨rfl, rfl⟩
                 refine' DT.r rfl rfl rfl ?hq ?_
                 case hq =>
                   refine WO.p rfl rfl ?_
                   exact WO.nil ⟨rfl, rfl⟩
                 refine' DT.r rfl rfl rfl ?hq ?_
                 case hq =>
                   refine WO.p rfl rfl ?_
                   exact WO.nil ⟨rfl, rfl⟩
                 refine' DT.r rfl rfl rfl ?hq ?_
                 case hq =>
                   refine WO.fieldL rfl rfl rfl ?_
                   exact WO.nil ⟨rfl, rfl⟩
                 refine' DT.b rfl rfl rfl ?hq ?_
                 case hq =>
                   refine WO.load rfl rfl (Cell.own (Pick.tail (Pick.head)) rfl) rfl ?_
                   exact WO.nil ⟨rfl, rfl⟩
                 refine' DT.r rfl rfl rfl ?hq ?_
                 case hq =>
                   refine WO.p rfl rfl ?_
                   exact WO.nil ⟨rfl, rfl⟩
                 refine' DT.r rfl rfl rfl ?hq ?_
                 case hq =>
                   refine WO.p rfl rfl ?_
                   exact WO.nil ⟨rfl, rfl⟩
                 refine' DT.r rfl rfl rfl ?hq ?_
                 case hq =>
                   refine WO.fieldL rfl rfl rfl ?_
                   exact WO.nil ⟨rfl, rfl⟩
                 refine' DT.b rfl rfl rfl ?hq ?_
                 case hq =>
                   refine WO.load rfl rfl (Cell.own (Pick.tail (Pick.head)) rfl) rfl ?_
                   exact WO.nil ⟨rfl, rfl⟩
                 refine DT.c [_, _, _, _, _, _] rfl rfl rfl rfl ?_
                 refine' WO.buildSl (cs := _) rfl rfl rfl rfl ?hf rfl rfl ?hl rfl (fun v5 => ?_)
                 case hf => (conv => lhs; simp [-List.getD_eq_getElem?_getD, fillL, vcl, wrl, TTab.pl?.lget']) <;> rfl
                 case hl => rfl
                 refine WO.nil ⟨_, [_, _], rfl, rfl, (Keep.b (Keep.r (Keep.r (Keep.r (Keep.b (Keep.r (Keep.r (Keep.r (Keep.r Keep.nil))))))))), ?_⟩
                 refine DT.c [_, _, _, _, _, _, _] rfl rfl rfl rfl ?_
                 refine' WO.appendE (enc := encI) (m := 1) (xs := prof) (ys := [_]) encI_ok rfl rfl rfl rfl rfl (by repeat (first | exact Pick.head | apply Pick.tail)) (isSl_lit (by omega) (fun _ => ⟨_, _, rfl⟩)) (by omega) rfl (OwC.cells (by repeat (first | exact Pick.head | apply Pick.tail))) (by omega) (by omega) rfl (fun g c => ?_)
                 rw [hpl]
                 refine WO.nil ⟨_, [_, _], rfl, rfl, (Keep.c (Keep.b (Keep.r (Keep.r (Keep.r (Keep.b (Keep.r (Keep.r (Keep.r (Keep.r Keep.nil)))))))))), ?_⟩
                 refine DT.nil [_, _, _, _, _, _, _] rfl ?_
                 refine WO.p rfl rfl (WO.fieldL rfl rfl rfl (WO.store1 rfl rfl rfl (by first | rfl | assumption) (Pick.tail (Pick.tail (Pick.tail (Pick.head)))) rfl ?_))
                 refine WO.nil ?_
                 refine W.region ?_
                 refine WO.ar rfl rfl rfl (by (first | (unfold in64; omega) | (unfold in64; omega))) rfl (WO.p rfl rfl ?_)
                 refine WO.nil ?_
                 refine' ⟨i + 1, _, _, _, _, _, _, _, _, _, _, _, ?hp, ?hmu, ⟨rfl, rfl, rfl, rfl, rfl, rfl, rfl, trivial⟩, ?hS⟩
                 case hS => repeat (first | exact Sub.nil | refine Sub.cons (by repeat (first | exact Pick.head | apply Pick.tail)) ?_)
                 case hp => exact ⟨by omega, (by rw [nextS hS]; first | (rw [stp_ok (by assumption), show (a + 1).toNat = a.toNat + 1 by omega]; done) | (rw [stp_jump (by assumption) (by omega), List.map_append]; rfl) | (rw [stp_fix (by assumption) (by omega), show (a + 1).toNat = a.toNat + 1 by omega]; done)), by omega, by omega, by omega, (by first | omega | (rw [List.length_append]; simp only [List.length_cons, List.length_nil]; omega)), (by rw [List.length_append, hpl]; rfl)⟩
                 case hmu => omega)
            · first
              | (exfalso; omega)
              | (refine W.sreg ?_
                 refine WO.p rfl rfl (WO.p rfl rfl (WO.fieldL rfl rfl rfl (WO.load rfl rfl (Cell.own (Pick.tail (Pick.head)) rfl) rfl (WO.ar rfl rfl rfl (by (first | (unfold in64; omega) | (unfold in64; omega))) rfl (WO.p rfl rfl (WO.p rfl rfl (WO.p rfl rfl ?_)))))))
                 refine WO.nil ?_
                 refine W.cond_bl rfl (fun c4 => ?_) (fun c4 => ?_)
                 · first
                   | (exfalso; omega)
                   | (refine W.sreg ?_
                      refine WO.p rfl rfl (WO.p rfl rfl (WO.field0 rfl rfl rfl (WO.loadA rfl rfl (Cells.ownAt (n := 3) (Pick.tail (Pick.head)) rfl) rfl rfl ?_)))
                      refine WO.alloc rfl rfl rfl (fun b6 hb6 => ?_)
                      refine WO.storeA rfl rfl rfl rfl Pick.head rfl rfl ?_
                      refine WO.nil ?_
                      refine W.seq ?_
                      refine W.drawD 19 [.r 0 [], .r 1 [], .r 2 [], .r 3 [], .b 4 [], .r 5 [], .r 7 [], .r 9 [], .r 10 [], .r 11 [], .r 12 [], .r 13 [], .b 14 [], .r 15 [], .c 6 [], .r 8 [], .r 16 [], .c 17 [], .c 18 []] [] (A0 := [_]) (H0 := [_, _, _, _, _, _]) (.cons (Pick.tail (Pick.tail (Pick.tail (Pick.tail (Pick.tail .head))))) (.cons .head (.cons .head (.cons .head (.cons .head (.cons .head (.cons .head .nil))))))) (by kernel_rfl) ?_ ?_
                      · exact (ALok.r (ALok.r (ALok.r (ALok.r (ALok.b (ALok.r (ALok.r (ALok.r (ALok.r (ALok.r (ALok.r (ALok.r (ALok.b (ALok.r (ALok.c (ALok.r (ALok.r (ALok.c (ALok.c ALok.nil)))))))))))))))))))
                      refine' DT.r rfl rfl rfl ?hq ?_
                      case hq =>
                        refine WO.p rfl rfl ?_
                        exact WO.nil ⟨rfl, rfl⟩
                      refine' DT.r rfl rfl rfl ?hq ?_
                      case hq =>
                        refine WO.p rfl rfl ?_
                        exact WO.nil ⟨rfl, rfl⟩
                      refine' DT.r rfl rfl rfl ?hq ?_
                      case hq =>
                        refine WO.p rfl rfl ?_
                        exact WO.nil ⟨rfl, rfl⟩
                      refine' DT.r rfl rfl rfl ?hq ?_
                      case hq =>
                        refine WO.fieldL rfl rfl rfl ?_
                        exact WO.nil ⟨rfl, rfl⟩
                      refine' DT.b rfl rfl rfl ?hq ?_
                      case hq =>
                        refine WO.load rfl rfl (Cell.own (Pick.tail (Pick.tail (Pick.head))) rfl) rfl ?_
                        exact WO.nil ⟨rfl, rfl⟩
                      refine' DT.r rfl rfl rfl ?hq ?_
                      case hq =>
                        refine WO.p rfl rfl ?_
                        exact WO.nil ⟨rfl, rfl⟩
                      refine' DT.r rfl rfl rfl ?hq ?_
                      case hq =>
                        refine WO.p rfl rfl ?_
                        exact WO.nil ⟨rfl, rfl⟩
                      refine' DT.r rfl rfl rfl ?hq ?_
                      case hq =>
                        refine WO.p rfl rfl ?_
                        exact WO.nil ⟨rfl, rfl⟩
                      refine' DT.r rfl rfl rfl ?hq ?_
                      case hq =>
                        refine WO.ar rfl rfl rfl (by (first | (unfold in64; omega) | (unfold in64; omega))) rfl ?_
                        exact WO.nil ⟨rfl, rfl⟩
                      refine' DT.r rfl rfl rfl ?hq ?_
                      case hq =>
                        refine WO.p rfl rfl ?_
                        exact WO.nil ⟨rfl, rfl⟩
                      refine' DT.r rfl rfl rfl ?hq ?_
                      case hq =>
                        refine WO.p rfl rfl ?_
                        exact WO.nil ⟨rfl, rfl⟩
                      refine' DT.r rfl rfl rfl ?hq ?_
                      case hq =>
                        refine WO.fieldL rfl rfl rfl ?_
                        exact WO.nil ⟨rfl, rfl⟩
                      refine' DT.b rfl rfl rfl ?hq ?_
                      case hq =>
                        refine WO.load rfl rfl (Cell.own (Pick.tail (Pick.tail (Pick.head))) rfl) rfl ?_
                        exact WO.nil ⟨rfl, rfl⟩
                      refine' DT.r rfl rfl rfl ?hq ?_
                      case hq =>
                        refine WO.ar rfl rfl rfl (by (first | (unfold in64; omega) | (unfold in64; omega))) rfl ?_
                        exact WO.nil ⟨rfl, rfl⟩
                      refine DT.c [_, _, _, _, _, _, _] rfl rfl rfl rfl ?_
                      refine WO.call (Post := fun r Hq => Hq = [OwE encI 3 1 r (tapsL now long)]) rfl Try.call42 (fun L w hi => c_taps w _ now long _ _ (RdC.own (b := b2) (by repeat (first | exact Pick.head | apply Pick.tail)) hi) (by omega)) rfl ?_
                      rintro r1 _ rfl
                      refine WO.fact (OwE.form .head) ?_
                      rintro ⟨ta, tc, rfl⟩
                      refine WO.nil ⟨_, [_, _], rfl, rfl, (Keep.r (Keep.b (Keep.r (Keep.r (Keep.r (Keep.r (Keep.r (Keep.r (Keep.r (Keep.b (Keep.r (Keep.r (Keep.r (Keep.r Keep.nil)))))))))))))), ?_⟩
                      refine' DT.r rfl rfl rfl ?hq ?_
                      case hq =>
                        refine' WO.build (cs := _) rfl rfl rfl ?hf rfl ?_
                        case hf => (conv => lhs; simp [-List.getD_eq_getElem?_getD, fillL, vcl, wrl, TTab.pl?.lget']) <;> rfl
                        exact WO.nil ⟨rfl, rfl⟩
                      refine' DT.r rfl rfl rfl ?hq ?_
                      case hq =>
                        refine' WO.build (cs := _) rfl rfl rfl ?hf rfl ?_
                        case hf => (conv => lhs; simp [-List.getD_eq_getElem?_getD, fillL, vcl, wrl, TTab.pl?.lget']) <;> rfl
                        exact WO.nil ⟨rfl, rfl⟩
                      refine DT.c [_, _, _, _, _, _, _, _] rfl rfl rfl rfl ?_
                      refine' WO.buildSl (cs := _) rfl rfl rfl rfl ?hf rfl rfl ?hl rfl (fun v7 => ?_)
                      case hf => (conv => lhs; simp [-List.getD_eq_getElem?_getD, fillL, vcl, wrl, TTab.pl?.lget']) <;> rfl
                      case hl => rfl
                      refine WO.nil ⟨_, [_, _, _], rfl, rfl, (Keep.r (Keep.r (Keep.c (Keep.r (Keep.b (Keep.r (Keep.r (Keep.r (Keep.r (Keep.r (Keep.r (Keep.r (Keep.b (Keep.r (Keep.r (Keep.r (Keep.r Keep.nil))))))))))))))))), ?_⟩
                      refine DT.c [_, _, _, _, _, _, _, _, _] rfl rfl rfl rfl ?_
                      refine' WO.appendE (enc := encJ) (m := 1) (xs := js) (ys := [((ta, tc), (tapsL now long, i, (i : Int) + 1 - (long : Int)))]) encJ_ok rfl rfl rfl rfl rfl (by repeat (first | exact Pick.head | apply Pick.tail)) (isSl_lit (by omega) (fun _ => ⟨_, _, rfl⟩)) (by omega) rfl (OwC.cells (by repeat (first | exact Pick.head | apply Pick.tail))) (by omega) (by omega) rfl (fun g c => ?_)
                      refine WO.nil ⟨_, [_, _, _], rfl, rfl, (Keep.c (Keep.r (Keep.r (Keep.c (Keep.r (Keep.b (Keep.r (Keep.r (Keep.r (Keep.r (Keep.r (Keep.r (Keep.r (Keep.b (Keep.r (Keep.r (Keep.r (Keep.r Keep.nil)))))))))))))))))), ?_⟩
                      refine DT.nil [_, _, _, _, _, _, _, _, _] rfl ?_
                      refine WO.p rfl rfl (WO.fieldL rfl rfl rfl (WO.store1 rfl rfl rfl (by first | rfl | assumption) (Pick.tail (Pick.tail (Pick.tail (Pick.tail (Pick.tail (Pick.head)))))) rfl ?_))
                      refine WO.nil ?_
                      refine W.seq ?_
                      refine W.chg (snocJ ((ta, tc), (tapsL now long, i, (i : Int) + 1 - (long : Int))) (by repeat (first | exact Pick.head | apply Pick.tail)) (by repeat (first | exact Pick.head | apply Pick.tail))) ?_
                      rw [show js.length + 1 = (js ++ [(((ta, tc), (tapsL now long, i, (i : Int) + 1 - (long : Int))) : JV)]).length by simp]
                      refine W.drawD 10 [.r 0 [], .r 1 [], .r 2 [], .r 3 [], .b 4 [], .b 5 [], .r 6 [], .b 7 [], .c 8 [], .f 9 []] [] (A0 := []) (Sub.refl _) (by kernel_rfl) ?_ ?_
                      · exact (ALok.r (ALok.r (ALok.r (ALok.r (ALok.b (ALok.b (ALok.r (ALok.b (ALok.c (ALok.f ALok.nil))))))))))
                      refine' DT.r rfl rfl rfl ?hq ?_
                      case hq =>
                        refine WO.p rfl rfl ?_
                        exact WO.nil ⟨rfl, rfl⟩
                      refine' DT.r rfl rfl rfl ?hq ?_
                      case hq =>
                        refine WO.p rfl rfl ?_
                        exact WO.nil ⟨rfl, rfl⟩
                      refine' DT.r rfl rfl rfl ?hq ?_
                      case hq =>
                        refine WO.p rfl rfl ?_
                        exact WO.nil ⟨rfl, rfl⟩
                      refine' DT.r rfl rfl rfl ?hq ?_
                      case hq =>
                        refine WO.field0 rfl rfl rfl ?_
                        exact WO.nil ⟨rfl, rfl⟩
                      refine' DT.b rfl rfl rfl ?hq ?_
                      case hq =>
                        refine WO.loadA rfl rfl (Cells.ownAt (n := 3) (Pick.tail (Pick.head)) rfl) rfl rfl ?_
                        exact WO.nil ⟨rfl, rfl⟩
                      refine' DT.b rfl rfl rfl ?hq ?_
                      case hq =>
                        refine WO.loadA rfl rfl (Cells.own (Pick.tail (Pick.tail (Pick.tail (Pick.tail (Pick.tail (Pick.tail (Pick.head)))))))) rfl rfl ?_
                        exact WO.nil ⟨rfl, rfl⟩
                      refine' DT.r rfl rfl rfl ?hq ?_
                      case hq =>
                        refine WO.p rfl rfl ?_
                        exact WO.nil ⟨rfl, rfl⟩
                      refine' DT.b rfl rfl rfl ?hq ?_
                      case hq =>
                        refine WO.callR (r := polyV (sh old a.toNat)) rfl Try.call60 (fun L w hi => by have h := c_shift w old a.toNat (by omega); rw [show ((a.toNat : Nat) : Int) = a by omega] at h; exact h) rfl ?_
                        exact WO.nil ⟨rfl, rfl⟩
                      refine DT.c [_, _, _, _, _, _, _, _] rfl rfl rfl rfl ?_
                      refine' WO.buildSl (cs := _) rfl rfl rfl rfl ?hf rfl rfl ?hl rfl (fun v8 => ?_)
                      case hf => (conv => lhs; simp [-List.getD_eq_getElem?_getD, fillL, vcl, wrl, TTab.pl?.lget']) <;> rfl
                      case hl => rfl
                      refine WO.nil ⟨_, [_], rfl, rfl, (Keep.b (Keep.r (Keep.b (Keep.b (Keep.r (Keep.r (Keep.r (Keep.r Keep.nil)))))))), ?_⟩
                      refine' DT.f [_, _, _, _, _, _, _, _, _] rfl rfl rfl rfl ?hq ?_
                      case hq =>
                        refine WO.callR (r := polyV (now ^^^ sh old a.toNat)) rfl Try.call63 (fun L w hi => by rw [← xor2]; exact c_sumP w _ _ (RdF.of_ow (e := 55) polyC_ok (by repeat (first | exact Pick.head | apply Pick.tail)) hi)) rfl ?_
                        exact WO.nil ⟨rfl, rfl⟩
                      refine DT.nil [_, _, _, _, _, _, _, _, _] rfl ?_
                      refine WO.p rfl rfl (WO.field0 rfl rfl rfl (WO.storeP rfl rfl rfl rfl (Pick.tail (Pick.tail (Pick.head))) (Nat.le_of_ble_eq_true rfl) rfl ?_))
                      refine WO.nil ?_
                      refine W.sreg ?_
                      refine WO.p rfl rfl (WO.p rfl rfl (WO.ar rfl rfl rfl (by (first | (unfold in64; omega) | (unfold in64; omega))) rfl (WO.p rfl rfl (WO.p rfl rfl (WO.fieldL rfl rfl rfl (WO.load rfl rfl (Cell.own Pick.head rfl) rfl (WO.ar rfl rfl rfl (by (first | (unfold in64; omega) | (unfold in64; omega))) rfl (WO.p rfl rfl (WO.fieldL rfl rfl rfl (WO.store1 rfl rfl rfl (by first | rfl | assumption) Pick.head rfl ?_))))))))))
                      refine WO.nil ?_
                      rw [show (i : Int) + 1 - (long : Int) = ((i + 1 - long : Nat) : Int) by omega]
                      refine W.region ?_
                      refine WO.loadA rfl rfl (Cells.own (Pick.tail (Pick.tail (Pick.tail (Pick.tail (Pick.tail (Pick.head))))))) rfl rfl (WO.storeA rfl rfl rfl rfl (Pick.tail (Pick.tail (Pick.tail (Pick.tail (Pick.tail (Pick.tail (Pick.tail (Pick.head)))))))) rfl rfl (WO.p rfl rfl ?_))
                      refine WO.nil ?_
                      refine W.drawD 11 [.r 0 [], .r 1 [], .r 2 [], .r 3 [], .b 4 [], .r 5 [], .r 6 [], .r 7 [], .b 8 [], .c 9 [], .c 10 []] [] (A0 := [_]) (H0 := [_, _, _, _, _, _, _, _]) (.cons (Pick.tail (Pick.tail (Pick.tail (Pick.tail (Pick.tail (Pick.tail (Pick.tail (Pick.tail .head)))))))) (.cons .head (.cons .head (.cons .head (.cons .head (.cons .head (.cons .head (.cons .head (.cons .head .nil))))))))) (by kernel_rfl) ?_ ?_
                      · exact (ALok.r (ALok.r (ALok.r (ALok.r (ALok.b (ALok.r (ALok.r (ALok.r (ALok.b (ALok.c (ALok.c ALok.nil)))))))))))
                      refine' DT.r rfl rfl rfl ?hq ?_
                      case hq =>
                        refine WO.p rfl rfl ?_
                        exact WO.nil ⟨rfl, rfl⟩
                      refine' DT.r rfl rfl rfl ?hq ?_
                      case hq =>
                        refine WO.p rfl rfl ?_
                        exact WO.nil ⟨rfl, rfl⟩
                      refine' DT.r rfl rfl rfl ?hq ?_
                      case hq =>
                        refine WO.p rfl rfl ?_
                        exact WO.nil ⟨rfl, rfl⟩
                      refine' DT.r rfl rfl rfl ?hq ?_
                      case hq =>
                        refine WO.fieldL rfl rfl rfl ?_
                        exact WO.nil ⟨rfl, rfl⟩
                      refine' DT.b rfl rfl rfl ?hq ?_
                      case hq =>
                        refine WO.load rfl rfl (Cell.own (Pick.tail (Pick.head)) rfl) rfl ?_
                        exact WO.nil ⟨rfl, rfl⟩
                      refine' DT.r rfl rfl rfl ?hq ?_
                      case hq =>
                        refine WO.p rfl rfl ?_
                        exact WO.nil ⟨rfl, rfl⟩
                      refine' DT.r rfl rfl rfl ?hq ?_
                      case hq =>
                        refine WO.p rfl rfl ?_
                        exact WO.nil ⟨rfl, rfl⟩
                      refine' DT.r rfl rfl rfl ?hq ?_
                      case hq =>
                        refine WO.fieldL rfl rfl rfl ?_
                        exact WO.nil ⟨rfl, rfl⟩
                      refine' DT.b rfl rfl rfl ?hq ?_
                      case hq =>
                        refine WO.load rfl rfl (Cell.own (Pick.tail (Pick.head)) rfl) rfl ?_
                        exact WO.nil ⟨rfl, rfl⟩
                      refine DT.c [_, _, _, _, _, _, _, _, _] rfl rfl rfl rfl ?_
                      refine' WO.buildSl (cs := _) rfl rfl rfl rfl ?hf rfl rfl ?hl rfl (fun v9 => ?_)
                      case hf => (conv => lhs; simp [-List.getD_eq_getElem?_getD, fillL, vcl, wrl, TTab.pl?.lget']) <;> rfl
                      case hl => rfl
                      refine WO.nil ⟨_, [_, _], rfl, rfl, (Keep.b (Keep.r (Keep.r (Keep.r (Keep.b (Keep.r (Keep.r (Keep.r (Keep.r Keep.nil))))))))), ?_⟩
                      refine DT.c [_, _, _, _, _, _, _, _, _, _] rfl rfl rfl rfl ?_
                      refine' WO.appendE (enc := encI) (m := 1) (xs := prof) (ys := [_]) encI_ok rfl rfl rfl rfl rfl (by repeat (first | exact Pick.head | apply Pick.tail)) (isSl_lit (by omega) (fun _ => ⟨_, _, rfl⟩)) (by omega) rfl (OwC.cells (by repeat (first | exact Pick.head | apply Pick.tail))) (by omega) (by omega) rfl (fun g c => ?_)
                      rw [hpl]
                      refine WO.nil ⟨_, [_, _], rfl, rfl, (Keep.c (Keep.b (Keep.r (Keep.r (Keep.r (Keep.b (Keep.r (Keep.r (Keep.r (Keep.r Keep.nil)))))))))), ?_⟩
                      refine DT.nil [_, _, _, _, _, _, _, _, _, _] rfl ?_
                      refine WO.p rfl rfl (WO.fieldL rfl rfl rfl (WO.store1 rfl rfl rfl (by first | rfl | assumption) (Pick.tail (Pick.tail (Pick.tail (Pick.head)))) rfl ?_))
                      refine WO.nil ?_
                      refine W.region ?_
                      refine WO.ar rfl rfl rfl (by (first | (unfold in64; omega) | (unfold in64; omega))) rfl (WO.p rfl rfl ?_)
                      refine WO.nil ?_
                      refine' ⟨i + 1, _, _, _, _, _, _, _, _, _, _, _, ?hp, ?hmu, ⟨rfl, rfl, rfl, rfl, rfl, rfl, rfl, trivial⟩, ?hS⟩
                      case hS => repeat (first | exact Sub.nil | refine Sub.cons (by repeat (first | exact Pick.head | apply Pick.tail)) ?_)
                      case hp => exact ⟨by omega, (by rw [nextS hS]; first | (rw [stp_ok (by assumption), show (a + 1).toNat = a.toNat + 1 by omega]; done) | (rw [stp_jump (by assumption) (by omega), List.map_append]; rfl) | (rw [stp_fix (by assumption) (by omega), show (a + 1).toNat = a.toNat + 1 by omega]; done)), by omega, by omega, by omega, (by first | omega | (rw [List.length_append]; simp only [List.length_cons, List.length_nil]; omega)), (by rw [List.length_append, hpl]; rfl)⟩
                      case hmu => omega)
                 · first
                   | (exfalso; omega)
                   | (refine W.seq ?_
                      refine W.drawD 10 [.r 0 [], .r 1 [], .r 2 [], .r 3 [], .b 4 [], .b 5 [], .r 6 [], .b 7 [], .c 8 [], .f 9 []] [] (A0 := []) (Sub.refl _) (by kernel_rfl) ?_ ?_
                      · exact (ALok.r (ALok.r (ALok.r (ALok.r (ALok.b (ALok.b (ALok.r (ALok.b (ALok.c (ALok.f ALok.nil))))))))))
                      refine' DT.r rfl rfl rfl ?hq ?_
                      case hq =>
                        refine WO.p rfl rfl ?_
                        exact WO.nil ⟨rfl, rfl⟩
                      refine' DT.r rfl rfl rfl ?hq ?_
                      case hq =>
                        refine WO.p rfl rfl ?_
                        exact WO.nil ⟨rfl, rfl⟩
                      refine' DT.r rfl rfl rfl ?hq ?_
                      case hq =>
                        refine WO.p rfl rfl ?_
                        exact WO.nil ⟨rfl, rfl⟩
                      refine' DT.r rfl rfl rfl ?hq ?_
                      case hq =>
                        refine WO.field0 rfl rfl rfl ?_
                        exact WO.nil ⟨rfl, rfl⟩
                      refine' DT.b rfl rfl rfl ?hq ?_
                      case hq =>
                        refine WO.loadA rfl rfl (Cells.ownAt (n := 3) (Pick.tail (Pick.head)) rfl) rfl rfl ?_
                        exact WO.nil ⟨rfl, rfl⟩
                      refine' DT.b rfl rfl rfl ?hq ?_
                      case hq =>
                        refine WO.loadA rfl rfl (Cells.own (Pick.tail (Pick.tail (Pick.head)))) rfl rfl ?_
                        exact WO.nil ⟨rfl, rfl⟩
                      refine' DT.r rfl rfl rfl ?hq ?_
                      case hq =>
                        refine WO.p rfl rfl ?_
                        exact WO.nil ⟨rfl, rfl⟩
                      refine' DT.b rfl rfl rfl ?hq ?_
                      case hq =>
                        refine WO.callR (r := polyV (sh old a.toNat)) rfl Try.call60 (fun L w hi => by have h := c_shift w old a.toNat (by omega); rw [show ((a.toNat : Nat) : Int) = a by omega] at h; exact h) rfl ?_
                        exact WO.nil ⟨rfl, rfl⟩
                      refine DT.c [_, _, _, _, _, _] rfl rfl rfl rfl ?_
                      refine' WO.buildSl (cs := _) rfl rfl rfl rfl ?hf rfl rfl ?hl rfl (fun v10 => ?_)
                      case hf => (conv => lhs; simp [-List.getD_eq_getElem?_getD, fillL, vcl, wrl, TTab.pl?.lget']) <;> rfl
                      case hl => rfl
                      refine WO.nil ⟨_, [_], rfl, rfl, (Keep.b (Keep.r (Keep.b (Keep.b (Keep.r (Keep.r (Keep.r (Keep.r Keep.nil)))))))), ?_⟩
                      refine' DT.f [_, _, _, _, _, _, _] rfl rfl rfl rfl ?hq ?_
                      case hq =>
                        refine WO.callR (r := polyV (now ^^^ sh old a.toNat)) rfl Try.call63 (fun L w hi => by rw [← xor2]; exact c_sumP w _ _ (RdF.of_ow (e := 55) polyC_ok (by repeat (first | exact Pick.head | apply Pick.tail)) hi)) rfl ?_
                        exact WO.nil ⟨rfl, rfl⟩
                      refine DT.nil [_, _, _, _, _, _, _] rfl ?_
                      refine WO.p rfl rfl (WO.field0 rfl rfl rfl (WO.storeP rfl rfl rfl rfl (Pick.tail (Pick.tail (Pick.head))) (Nat.le_of_ble_eq_true rfl) rfl ?_))
                      refine WO.nil ?_
                      refine W.region ?_
                      refine WO.p rfl rfl (WO.ar rfl rfl rfl (by (first | (unfold in64; omega) | (unfold in64; omega))) rfl (WO.p rfl rfl ?_))
                      refine WO.nil ?_
                      refine W.drawD 11 [.r 0 [], .r 1 [], .r 2 [], .r 3 [], .b 4 [], .r 5 [], .r 6 [], .r 7 [], .b 8 [], .c 9 [], .c 10 []] [] (A0 := [_]) (H0 := [_, _, _, _, _, _]) (.cons (Pick.tail (Pick.tail (Pick.tail (Pick.tail .head)))) (.cons .head (.cons .head (.cons .head (.cons .head (.cons .head (.cons .head .nil))))))) (by kernel_rfl) ?_ ?_
                      · exact (ALok.r (ALok.r (ALok.r (ALok.r (ALok.b (ALok.r (ALok.r (ALok.r (ALok.b (ALok.c (ALok.c ALok.nil)))))))))))
                      refine' DT.r rfl rfl rfl ?hq ?_
                      case hq =>
                        refine WO.p rfl rfl ?_
                        exact WO.nil ⟨rfl, rfl⟩
                      refine' DT.r rfl rfl rfl ?hq ?_
                      case hq =>
                        refine WO.p rfl rfl ?_
                        exact WO.nil ⟨rfl, rfl⟩
                      refine' DT.r rfl rfl rfl ?hq ?_
                      case hq =>
                        refine WO.p rfl rfl ?_
                        exact WO.nil ⟨rfl, rfl⟩
                      refine' DT.r rfl rfl rfl ?hq ?_
                      case hq =>
                        refine WO.fieldL rfl rfl rfl ?_
                        exact WO.nil ⟨rfl, rfl⟩
                      refine' DT.b rfl rfl rfl ?hq ?_
                      case hq =>
                        refine WO.load rfl rfl (Cell.own Pick.head rfl) rfl ?_
                        exact WO.nil ⟨rfl, rfl⟩
                      refine' DT.r rfl rfl rfl ?hq ?_
                      case hq =>
                        refine WO.p rfl rfl ?_
                        exact WO.nil ⟨rfl, rfl⟩
                      refine' DT.r rfl rfl rfl ?hq ?_
                      case hq =>
                        refine WO.p rfl rfl ?_
                        exact WO.nil ⟨rfl, rfl⟩
                      refine' DT.r rfl rfl rfl ?hq ?_
                      case hq =>
                        refine WO.fieldL rfl rfl rfl ?_
                        exact WO.nil ⟨rfl, rfl⟩
                      refine' DT.b rfl rfl rfl ?hq ?_
                      case hq =>
                        refine WO.load rfl rfl (Cell.own Pick.head rfl) rfl ?_
                        exact WO.nil ⟨rfl, rfl⟩
                      refine DT.c [_, _, _, _, _, _, _] rfl rfl rfl rfl ?_
                      refine' WO.buildSl (cs := _) rfl rfl rfl rfl ?hf rfl rfl ?hl rfl (fun v11 => ?_)
                      case hf => (conv => lhs; simp [-List.getD_eq_getElem?_getD, fillL, vcl, wrl, TTab.pl?.lget']) <;> rfl
                      case hl => rfl
                      refine WO.nil ⟨_, [_, _], rfl, rfl, (Keep.b (Keep.r (Keep.r (Keep.r (Keep.b (Keep.r (Keep.r (Keep.r (Keep.r Keep.nil))))))))), ?_⟩
                      refine DT.c [_, _, _, _, _, _, _, _] rfl rfl rfl rfl ?_
                      refine' WO.appendE (enc := encI) (m := 1) (xs := prof) (ys := [_]) encI_ok rfl rfl rfl rfl rfl (by repeat (first | exact Pick.head | apply Pick.tail)) (isSl_lit (by omega) (fun _ => ⟨_, _, rfl⟩)) (by omega) rfl (OwC.cells (by repeat (first | exact Pick.head | apply Pick.tail))) (by omega) (by omega) rfl (fun g c => ?_)
                      rw [hpl]
                      refine WO.nil ⟨_, [_, _], rfl, rfl, (Keep.c (Keep.b (Keep.r (Keep.r (Keep.r (Keep.b (Keep.r (Keep.r (Keep.r (Keep.r Keep.nil)))))))))), ?_⟩
                      refine DT.nil [_, _, _, _, _, _, _, _] rfl ?_
                      refine WO.p rfl rfl (WO.fieldL rfl rfl rfl (WO.store1 rfl rfl rfl (by first | rfl | assumption) (Pick.tail (Pick.tail (Pick.head))) rfl ?_))
                      refine WO.nil ?_
                      refine W.region ?_
                      refine WO.ar rfl rfl rfl (by (first | (unfold in64; omega) | (unfold in64; omega))) rfl (WO.p rfl rfl ?_)
                      refine WO.nil ?_
                      refine' ⟨i + 1, _, _, _, _, _, _, _, _, _, _, _, ?hp, ?hmu, ⟨rfl, rfl, rfl, rfl, rfl, rfl, rfl, trivial⟩, ?hS⟩
                      case hS => repeat (first | exact Sub.nil | refine Sub.cons (by repeat (first | exact Pick.head | apply Pick.tail)) ?_)
                      case hp => exact ⟨by omega, (by rw [nextS hS]; first | (rw [stp_ok (by assumption), show (a + 1).toNat = a.toNat + 1 by omega]; done) | (rw [stp_jump (by assumption) (by omega), List.map_append]; rfl) | (rw [stp_fix (by assumption) (by omega), show (a + 1).toNat = a.toNat + 1 by omega]; done)), by omega, by omega, by omega, (by first | omega | (rw [List.length_append]; simp only [List.length_cons, List.length_nil]; omega)), (by rw [List.length_append, hpl]; rfl)⟩
                      case hmu => omega)))
       · first
         | (exfalso; omega)
         | (refine W.skip ?_
            refine W.seq ?_
            refine W.block ?_
            first | (have e : lastN last (l.getD i 0) = sh last 1 ||| 1 <<< 0 := if_pos (by assumption); rw [← e]) | (have e : lastN last (l.getD i 0) = sh last 1 := if_neg (by assumption); rw [← e])
            refine W.sreg ?_
            refine WO.p rfl rfl (WO.loadA rfl rfl (Cells.own Pick.head) rfl rfl ?_)
            refine WO.callR (r := .bool (meetB (lastN last (l.getD i 0)) now long)) rfl Try.call62 (fun L w hi => c_meets w _ _ now long _ _ (RdC.own (b := b2) (by repeat (first | exact Pick.head | apply Pick.tail)) hi) (by omega)) rfl ?_
            refine WO.p rfl rfl ?_
            refine WO.nil ?_
            refine W.cond rfl (fun c5 => ?_) (fun c5 => ?_)
            · first
              | (exfalso; omega)
              | (refine W.region ?_
                 refine WO.p rfl rfl (WO.ar rfl rfl rfl (by (first | (unfold in64; omega) | (unfold in64; omega))) rfl (WO.p rfl rfl ?_))
                 refine WO.nil ?_
                 refine W.drawD 11 [.r 0 [], .r 1 [], .r 2 [], .r 3 [], .b 4 [], .r 5 [], .r 6 [], .r 7 [], .b 8 [], .c 9 [], .c 10 []] [] (A0 := [_]) (H0 := [_, _, _, _, _]) (.cons (Pick.tail (Pick.tail (Pick.tail .head))) (.cons .head (.cons .head (.cons .head (.cons .head (.cons .head .nil)))))) (by kernel_rfl) ?_ ?_
                 · exact (ALok.r (ALok.r (ALok.r (ALok.r (ALok.b (ALok.r (ALok.r (ALok.r (ALok.b (ALok.c (ALok.c ALok.nil)))))))))))
                 refine' DT.r rfl rfl rfl ?hq ?_
                 case hq =>
                   refine WO.p rfl rfl ?_
                   exact WO.nil ⟨rfl, rfl⟩
                 refine' DT.r rfl rfl rfl ?hq ?_
                 case hq =>
                   refine WO.p rfl rfl ?_
                   exact WO.nil ⟨rfl, rfl⟩
                 refine' DT.r rfl rfl rfl ?hq ?_
                 case hq =>
                   refine WO.p rfl rfl ?_
                   exact WO.nil ⟨rfl, rfl⟩
                 refine' DT.r rfl rfl rfl ?hq ?_
                 case hq =>
                   refine WO.fieldL rfl rfl rfl ?_
                   exact WO.nil ⟨rfl, rfl⟩
                 refine' DT.b rfl rfl rfl ?hq ?_
                 case hq =>
                   refine WO.load rfl rfl (Cell.own (Pick.tail (Pick.head)) rfl) rfl ?_
                   exact WO.nil ⟨rfl, rfl⟩
                 refine' DT.r rfl rfl rfl ?hq ?_
                 case hq =>
                   refine WO.p rfl rfl ?_
                   exact WO.nil ⟨rfl, rfl⟩
                 refine' DT.r rfl rfl rfl ?hq ?_
                 case hq =>
                   refine WO.p rfl rfl ?_
                   exact WO.nil ⟨rfl, rfl⟩
                 refine' DT.r rfl rfl rfl ?hq ?_
                 case hq =>
                   refine WO.fieldL rfl rfl rfl ?_
                   exact WO.nil ⟨rfl, rfl⟩
                 refine' DT.b rfl rfl rfl ?hq ?_
                 case hq =>
                   refine WO.load rfl rfl (Cell.own (Pick.tail (Pick.head)) rfl) rfl ?_
                   exact WO.nil ⟨rfl, rfl⟩
                 refine DT.c [_, _, _, _, _, _] rfl rfl rfl rfl ?_
                 refine' WO.buildSl (cs := _) rfl rfl rfl rfl ?hf rfl rfl ?hl rfl (fun v12 => ?_)
                 case hf => (conv => lhs; simp [-List.getD_eq_getElem?_getD, fillL, vcl, wrl, TTab.pl?.lget']) <;> rfl
                 case hl => rfl
                 refine WO.nil ⟨_, [_, _], rfl, rfl, (Keep.b (Keep.r (Keep.r (Keep.r (Keep.b (Keep.r (Keep.r (Keep.r (Keep.r Keep.nil))))))))), ?_⟩
                 refine DT.c [_, _, _, _, _, _, _] rfl rfl rfl rfl ?_
                 refine' WO.appendE (enc := encI) (m := 1) (xs := prof) (ys := [_]) encI_ok rfl rfl rfl rfl rfl (by repeat (first | exact Pick.head | apply Pick.tail)) (isSl_lit (by omega) (fun _ => ⟨_, _, rfl⟩)) (by omega) rfl (OwC.cells (by repeat (first | exact Pick.head | apply Pick.tail))) (by omega) (by omega) rfl (fun g c => ?_)
                 rw [hpl]
                 refine WO.nil ⟨_, [_, _], rfl, rfl, (Keep.c (Keep.b (Keep.r (Keep.r (Keep.r (Keep.b (Keep.r (Keep.r (Keep.r (Keep.r Keep.nil)))))))))), ?_⟩
                 refine DT.nil [_, _, _, _, _, _, _] rfl ?_
                 refine WO.p rfl rfl (WO.fieldL rfl rfl rfl (WO.store1 rfl rfl rfl (by first | rfl | assumption) (Pick.tail (Pick.tail (Pick.tail (Pick.head)))) rfl ?_))
                 refine WO.nil ?_
                 refine W.region ?_
                 refine WO.ar rfl rfl rfl (by (first | (unfold in64; omega) | (unfold in64; omega))) rfl (WO.p rfl rfl ?_)
                 refine WO.nil ?_
                 refine' ⟨i + 1, _, _, _, _, _, _, _, _, _, _, _, ?hp, ?hmu, ⟨rfl, rfl, rfl, rfl, rfl, rfl, rfl, trivial⟩, ?hS⟩
                 case hS => repeat (first | exact Sub.nil | refine Sub.cons (by repeat (first | exact Pick.head | apply Pick.tail)) ?_)
                 case hp => exact ⟨by omega, (by rw [nextS hS]; first | (rw [stp_ok (by assumption), show (a + 1).toNat = a.toNat + 1 by omega]; done) | (rw [stp_jump (by assumption) (by omega), List.map_append]; rfl) | (rw [stp_fix (by assumption) (by omega), show (a + 1).toNat = a.toNat + 1 by omega]; done)), by omega, by omega, by omega, (by first | omega | (rw [List.length_append]; simp only [List.length_cons, List.length_nil]; omega)), (by rw [List.length_append, hpl]; rfl)⟩
                 case hmu => omega)
            · first
              | (exfalso; omega)
              | (refine W.sreg ?_
                 refine WO.p rfl rfl (WO.p rfl rfl (WO.fieldL rfl rfl rfl (WO.load rfl rfl (Cell.own (Pick.tail (Pick.head)) rfl) rfl (WO.ar rfl rfl rfl (by (first | (unfold in64; omega) | (unfold in64; omega))) rfl (WO.p rfl rfl (WO.p rfl rfl (WO.p rfl rfl ?_)))))))
                 refine WO.nil ?_
                 refine W.cond_bl rfl (fun c6 => ?_) (fun c6 => ?_)
                 · first
                   | (exfalso; omega)
                   | (refine W.sreg ?_
                      refine WO.p rfl rfl (WO.p rfl rfl (WO.field0 rfl rfl rfl (WO.loadA rfl rfl (Cells.ownAt (n := 3) (Pick.tail (Pick.head)) rfl) rfl rfl ?_)))
                      refine WO.alloc rfl rfl rfl (fun b13 hb13 => ?_)
                      refine WO.storeA rfl rfl rfl rfl Pick.head rfl rfl ?_
                      refine WO.nil ?_
                      refine W.seq ?_
                      refine W.drawD 19 [.r 0 [], .r 1 [], .r 2 [], .r 3 [], .b 4 [], .r 5 [], .r 7 [], .r 9 [], .r 10 [], .r 11 [], .r 12 [], .r 13 [], .b 14 [], .r 15 [], .c 6 [], .r 8 [], .r 16 [], .c 17 [], .c 18 []] [] (A0 := [_]) (H0 := [_, _, _, _, _, _]) (.cons (Pick.tail (Pick.tail (Pick.tail (Pick.tail (Pick.tail .head))))) (.cons .head (.cons .head (.cons .head (.cons .head (.cons .head (.cons .head .nil))))))) (by kernel_rfl) ?_ ?_
                      · exact (ALok.r (ALok.r (ALok.r (ALok.r (ALok.b (ALok.r (ALok.r (ALok.r (ALok.r (ALok.r (ALok.r (ALok.r (ALok.b (ALok.r (ALok.c (ALok.r (ALok.r (ALok.c (ALok.c ALok.nil)))))))))))))))))))
                      refine' DT.r rfl rfl rfl ?hq ?_
                      case hq =>
                        refine WO.p rfl rfl ?_
                        exact WO.nil ⟨rfl, rfl⟩
                      refine' DT.r rfl rfl rfl ?hq ?_
                      case hq =>
                        refine WO.p rfl rfl ?_
                        exact WO.nil ⟨rfl, rfl⟩
                      refine' DT.r rfl rfl rfl ?hq ?_
                      case hq =>
                        refine WO.p rfl rfl ?_
                        exact WO.nil ⟨rfl, rfl⟩
                      refine' DT.r rfl rfl rfl ?hq ?_
                      case hq =>
                        refine WO.fieldL rfl rfl rfl ?_
                        exact WO.nil ⟨rfl, rfl⟩
                      refine' DT.b rfl rfl rfl ?hq ?_
                      case hq =>
                        refine WO.load rfl rfl (Cell.own (Pick.tail (Pick.tail (Pick.head))) rfl) rfl ?_
                        exact WO.nil ⟨rfl, rfl⟩
                      refine' DT.r rfl rfl rfl ?hq ?_
                      case hq =>
                        refine WO.p rfl rfl ?_
                        exact WO.nil ⟨rfl, rfl⟩
                      refine' DT.r rfl rfl rfl ?hq ?_
                      case hq =>
                        refine WO.p rfl rfl ?_
                        exact WO.nil ⟨rfl, rfl⟩
                      refine' DT.r rfl rfl rfl ?hq ?_
                      case hq =>
                        refine WO.p rfl rfl ?_
                        exact WO.nil ⟨rfl, rfl⟩
                      refine' DT.r rfl rfl rfl ?hq ?_
                      case hq =>
                        refine WO.ar rfl rfl rfl (by (first | (unfold in64; omega) | (unfold in64; omega))) rfl ?_
                        exact WO.nil ⟨rfl, rfl⟩
                      refine' DT.r rfl rfl rfl ?hq ?_
                      case hq =>
                        refine WO.p rfl rfl ?_
                        exact WO.nil ⟨rfl, rfl⟩
                      refine' DT.r rfl rfl rfl ?hq ?_
                      case hq =>
                        refine WO.p rfl rfl ?_
                        exact WO.nil ⟨rfl, rfl⟩
                      refine' DT.r rfl rfl rfl ?hq ?_
                      case hq =>
                        refine WO.fieldL rfl rfl rfl ?_
                        exact WO.nil ⟨rfl, rfl⟩
                      refine' DT.b rfl rfl rfl ?hq ?_
                      case hq =>
                        refine WO.load rfl rfl (Cell.own (Pick.tail (Pick.tail (Pick.head))) rfl) rfl ?_
                        exact WO.nil ⟨rfl, rfl⟩
                      refine' DT.r rfl rfl rfl ?hq ?_
                      case hq =>
                        refine WO.ar rfl rfl rfl (by (first | (unfold in64; omega) | (unfold in64; omega))) rfl ?_
                        exact WO.nil ⟨rfl, rfl⟩
                      refine DT.c [_, _, _, _, _, _, _] rfl rfl rfl rfl ?_
                      refine WO.call (Post := fun r Hq => Hq = [OwE encI 3 1 r (tapsL now long)]) rfl Try.call42 (fun L w hi => c_taps w _ now long _ _ (RdC.own (b := b2) (by repeat (first | exact Pick.head | apply Pick.tail)) hi) (by omega)) rfl ?_
                      rintro r1 _ rfl
                      refine WO.fact (OwE.form .head) ?_
                      rintro ⟨ta, tc, rfl⟩
                      refine WO.nil ⟨_, [_, _], rfl, rfl, (Keep.r (Keep.b (Keep.r (Keep.r (Keep.r (Keep.r (Keep.r (Keep.r (Keep.r (Keep.b (Keep.r (Keep.r (Keep.r (Keep.r Keep.nil)))))))))))))), ?_⟩
                      refine' DT.r rfl rfl rfl ?hq ?_
                      case hq =>
                        refine' WO.build (cs := _) rfl rfl rfl ?hf rfl ?_
                        case hf => (conv => lhs; simp [-List.getD_eq_getElem?_getD, fillL, vcl, wrl, TTab.pl?.lget']) <;> rfl
                        exact WO.nil ⟨rfl, rfl⟩
                      refine' DT.r rfl rfl rfl ?hq ?_
                      case hq =>
                        refine' WO.build (cs := _) rfl rfl rfl ?hf rfl ?_
                        case hf => (conv => lhs; simp [-List.getD_eq_getElem?_getD, fillL, vcl, wrl, TTab.pl?.lget']) <;> rfl
                        exact WO.nil ⟨rfl, rfl⟩
                      refine DT.c [_, _, _, _, _, _, _, _] rfl rfl rfl rfl ?_
                      refine' WO.buildSl (cs := _) rfl rfl rfl rfl ?hf rfl rfl ?hl rfl (fun v14 => ?_)
                      case hf => (conv => lhs; simp [-List.getD_eq_getElem?_getD, fillL, vcl, wrl, TTab.pl?.lget']) <;> rfl
                      case hl => rfl
                      refine WO.nil ⟨_, [_, _, _], rfl, rfl, (Keep.r (Keep.r (Keep.c (Keep.r (Keep.b (Keep.r (Keep.r (Keep.r (Keep.r (Keep.r (Keep.r (Keep.r (Keep.b (Keep.r (Keep.r (Keep.r (Keep.r Keep.nil))))))))))))))))), ?_⟩
                      refine DT.c [_, _, _, _, _, _, _, _, _] rfl rfl rfl rfl ?_
                      refine' WO.appendE (enc := encJ) (m := 1) (xs := js) (ys := [((ta, tc), (tapsL now long, i, (i : Int) + 1 - (long : Int)))]) encJ_ok rfl rfl rfl rfl rfl (by repeat (first | exact Pick.head | apply Pick.tail)) (isSl_lit (by omega) (fun _ => ⟨_, _, rfl⟩)) (by omega) rfl (OwC.cells (by repeat (first | exact Pick.head | apply Pick.tail))) (by omega) (by omega) rfl (fun g c => ?_)
                      refine WO.nil ⟨_, [_, _, _], rfl, rfl, (Keep.c (Keep.r (Keep.r (Keep.c (Keep.r (Keep.b (Keep.r (Keep.r (Keep.r (Keep.r (Keep.r (Keep.r (Keep.r (Keep.b (Keep.r (Keep.r (Keep.r (Keep.r Keep.nil)))))))))))))))))), ?_⟩
                      refine DT.nil [_, _, _, _, _, _, _, _, _] rfl ?_
                      refine WO.p rfl rfl (WO.fieldL rfl rfl rfl (WO.store1 rfl rfl rfl (by first | rfl | assumption) (Pick.tail (Pick.tail (Pick.tail (Pick.tail (Pick.tail (Pick.head)))))) rfl ?_))
                      refine WO.nil ?_
                      refine W.seq ?_
                      refine W.chg (snocJ ((ta, tc), (tapsL now long, i, (i : Int) + 1 - (long : Int))) (by repeat (first | exact Pick.head | apply Pick.tail)) (by repeat (first | exact Pick.head | apply Pick.tail))) ?_
                      rw [show js.length + 1 = (js ++ [(((ta, tc), (tapsL now long, i, (i : Int) + 1 - (long : Int))) : JV)]).length by simp]
                      refine W.drawD 10 [.r 0 [], .r 1 [], .r 2 [], .r 3 [], .b 4 [], .b 5 [], .r 6 [], .b 7 [], .c 8 [], .f 9 []] [] (A0 := []) (Sub.refl _) (by kernel_rfl) ?_ ?_
                      · exact (ALok.r (ALok.r (ALok.r (ALok.r (ALok.b (ALok.b (ALok.r (ALok.b (ALok.c (ALok.f ALok.nil))))))))))
                      refine' DT.r rfl rfl rfl ?hq ?_
                      case hq =>
                        refine WO.p rfl rfl ?_
                        exact WO.nil ⟨rfl, rfl⟩
                      refine' DT.r rfl rfl rfl ?hq ?_
                      case hq =>
                        refine WO.p rfl rfl ?_
                        exact WO.nil ⟨rfl, rfl⟩
                      refine' DT.r rfl rfl rfl ?hq ?_
                      case hq =>
                        refine WO.p rfl rfl ?_
                        exact WO.nil ⟨rfl, rfl⟩
                      refine' DT.r rfl rfl rfl ?hq ?_
                      case hq =>
                        refine WO.field0 rfl rfl rfl ?_
                        exact WO.nil ⟨rfl, rfl⟩
                      refine' DT.b rfl rfl rfl ?hq ?_
                      case hq =>
                        refine WO.loadA rfl rfl (Cells.ownAt (n := 3) (Pick.tail (Pick.head)) rfl) rfl rfl ?_
                        exact WO.nil ⟨rfl, rfl⟩
                      refine' DT.b rfl rfl rfl ?hq ?_
                      case hq =>
                        refine WO.loadA rfl rfl (Cells.own (Pick.tail (Pick.tail (Pick.tail (Pick.tail (Pick.tail (Pick.tail (Pick.head)))))))) rfl rfl ?_
                        exact WO.nil ⟨rfl, rfl⟩
                      refine' DT.r rfl rfl rfl ?hq ?_
                      case hq =>
                        refine WO.p rfl rfl ?_
                        exact WO.nil ⟨rfl, rfl⟩
                      refine' DT.b rfl rfl rfl ?hq ?_
                      case hq =>
                        refine WO.callR (r := polyV (sh old a.toNat)) rfl Try.call60 (fun L w hi => by have h := c_shift w old a.toNat (by omega); rw [show ((a.toNat : Nat) : Int) = a by omega] at h; exact h) rfl ?_
                        exact WO.nil ⟨rfl, rfl⟩
                      refine DT.c [_, _, _, _, _, _, _, _] rfl rfl rfl rfl ?_
                      refine' WO.buildSl (cs := _) rfl rfl rfl rfl ?hf rfl rfl ?hl rfl (fun v15 => ?_)
                      case hf => (conv => lhs; simp [-List.getD_eq_getElem?_getD, fillL, vcl, wrl, TTab.pl?.lget']) <;> rfl
                      case hl => rfl
                      refine WO.nil ⟨_, [_], rfl, rfl, (Keep.b (Keep.r (Keep.b (Keep.b (Keep.r (Keep.r (Keep.r (Keep.r Keep.nil)))))))), ?_⟩
                      refine' DT.f [_, _, _, _, _, _, _, _, _] rfl rfl rfl rfl ?hq ?_
                      case hq =>
                        refine WO.callR (r := polyV (now ^^^ sh old a.toNat)) rfl Try.call63 (fun L w hi => by rw [← xor2]; exact c_sumP w _ _ (RdF.of_ow (e := 55) polyC_ok (by repeat (first | exact Pick.head | apply Pick.tail)) hi)) rfl ?_
                        exact WO.nil ⟨rfl, rfl⟩
                      refine DT.nil [_, _, _, _, _, _, _, _, _] rfl ?_
                      refine WO.p rfl rfl (WO.field0 rfl rfl rfl (WO.storeP rfl rfl rfl rfl (Pick.tail (Pick.tail (Pick.head))) (Nat.le_of_ble_eq_true rfl) rfl ?_))
                      refine WO.nil ?_
                      refine W.sreg ?_
                      refine WO.p rfl rfl (WO.p rfl rfl (WO.ar rfl rfl rfl (by (first | (unfold in64; omega) | (unfold in64; omega))) rfl (WO.p rfl rfl (WO.p rfl rfl (WO.fieldL rfl rfl rfl (WO.load rfl rfl (Cell.own Pick.head rfl) rfl (WO.ar rfl rfl rfl (by (first | (unfold in64; omega) | (unfold in64; omega))) rfl (WO.p rfl rfl (WO.fieldL rfl rfl rfl (WO.store1 rfl rfl rfl (by first | rfl | assumption) Pick.head rfl ?_))))))))))
                      refine WO.nil ?_
                      rw [show (i : Int) + 1 - (long : Int) = ((i + 1 - long : Nat) : Int) by omega]
                      refine W.region ?_
                      refine WO.loadA rfl rfl (Cells.own (Pick.tail (Pick.tail (Pick.tail (Pick.tail (Pick.tail (Pick.head))))))) rfl rfl (WO.storeA rfl rfl rfl rfl (Pick.tail (Pick.tail (Pick.tail (Pick.tail (Pick.tail (Pick.tail (Pick.tail (Pick.head)))))))) rfl rfl (WO.p rfl rfl ?_))
                      refine WO.nil ?_
                      refine W.drawD 11 [.r 0 [], .r 1 [], .r 2 [], .r 3 [], .b 4 [], .r 5 [], .r 6 [], .r 7 [], .b 8 [], .c 9 [], .c 10 []] [] (A0 := [_]) (H0 := [_, _, _, _, _, _, _, _]) (.cons (Pick.tail (Pick.tail (Pick.tail (Pick.tail (Pick.tail (Pick.tail (Pick.tail (Pick.tail .head)))))))) (.cons .head (.cons .head (.cons .head (.cons .head (.cons .head (.cons .head (.cons .head (.cons .head .nil))))))))) (by kernel_rfl) ?_ ?_
                      · exact (ALok.r (ALok.r (ALok.r (ALok.r (ALok.b (ALok.r (ALok.r (ALok.r (ALok.b (ALok.c (ALok.c ALok.nil)))))))))))
                      refine' DT.r rfl rfl rfl ?hq ?_
                      case hq =>
                        refine WO.p rfl rfl ?_
                        exact WO.nil ⟨rfl, rfl⟩
                      refine' DT.r rfl rfl rfl ?hq ?_
                      case hq =>
                        refine WO.p rfl rfl ?_
                        exact WO.nil ⟨rfl, rfl⟩
                      refine' DT.r rfl rfl rfl ?hq ?_
                      case hq =>
                        refine WO.p rfl rfl ?_
                        exact WO.nil ⟨rfl, rfl⟩
                      refine' DT.r rfl rfl rfl ?hq ?_
                      case hq =>
                        refine WO.fieldL rfl rfl rfl ?_
                        exact WO.nil ⟨rfl, rfl⟩
                      refine' DT.b rfl rfl rfl ?hq ?_
                      case hq =>
                        refine WO.load rfl rfl (Cell.own (Pick.tail (Pick.head)) rfl) rfl ?_
                        exact WO.nil ⟨rfl, rfl⟩
                      refine' DT.r rfl rfl rfl ?hq ?_
                      case hq =>
                        refine WO.p rfl rfl ?_
                        exact WO.nil ⟨rfl, rfl⟩
                      refine' DT.r rfl rfl rfl ?hq ?_
                      case hq =>
                        refine WO.p rfl rfl ?_
                        exact WO.nil ⟨rfl, rfl⟩
                      refine' DT.r rfl rfl rfl ?hq ?_
                      case hq =>
                        refine WO.fieldL rfl rfl rfl ?_
                        exact WO.nil ⟨rfl, rfl⟩
                      refine' DT.b rfl rfl rfl ?hq ?_
                      case hq =>
                        refine WO.load rfl rfl (Cell.own (Pick.tail (Pick.head)) rfl) rfl ?_
                        exact WO.nil ⟨rfl, rfl⟩
                      refine DT.c [_, _, _, _, _, _, _, _, _] rfl rfl rfl rfl ?_
                      refine' WO.buildSl (cs := _) rfl rfl rfl rfl ?hf rfl rfl ?hl rfl (fun v16 => ?_)
                      case hf => (conv => lhs; simp [-List.getD_eq_getElem?_getD, fillL, vcl, wrl, TTab.pl?.lget']) <;> rfl
                      case hl => rfl
                      refine WO.nil ⟨_, [_, _], rfl, rfl, (Keep.b (Keep.r (Keep.r (Keep.r (Keep.b (Keep.r (Keep.r (Keep.r (Keep.r Keep.nil))))))))), ?_⟩
                      refine DT.c [_, _, _, _, _, _, _, _, _, _] rfl rfl rfl rfl ?_
                      refine' WO.appendE (enc := encI) (m := 1) (xs := prof) (ys := [_]) encI_ok rfl rfl rfl rfl rfl (by repeat (first | exact Pick.head | apply Pick.tail)) (isSl_lit (by omega) (fun _ => ⟨_, _, rfl⟩)) (by omega) rfl (OwC.cells (by repeat (first | exact Pick.head | apply Pick.tail))) (by omega) (by omega) rfl (fun g c => ?_)
                      rw [hpl]
                      refine WO.nil ⟨_, [_, _], rfl, rfl, (Keep.c (Keep.b (Keep.r (Keep.r (Keep.r (Keep.b (Keep.r (Keep.r (Keep.r (Keep.r Keep.nil)))))))))), ?_⟩
                      refine DT.nil [_, _, _, _, _, _, _, _, _, _] rfl ?_
                      refine WO.p rfl rfl (WO.fieldL rfl rfl rfl (WO.store1 rfl rfl rfl (by first | rfl | assumption) (Pick.tail (Pick.tail (Pick.tail (Pick.head)))) rfl ?_))
                      refine WO.nil ?_
                      refine W.region ?_
                      refine WO.ar rfl rfl rfl (by (first | (unfold in64; omega) | (unfold in64; omega))) rfl (WO.p rfl rfl ?_)
                      refine WO.nil ?_
                      refine' ⟨i + 1, _, _, _, _, _, _, _, _, _, _, _, ?hp, ?hmu, ⟨rfl, rfl, rfl, rfl, rfl, rfl, rfl, trivial⟩, ?hS⟩
                      case hS => repeat (first | exact Sub.nil | refine Sub.cons (by repeat (first | exact Pick.head | apply Pick.tail)) ?_)
                      case hp => exact ⟨by omega, (by rw [nextS hS]; first | (rw [stp_ok (by assumption), show (a + 1).toNat = a.toNat + 1 by omega]; done) | (rw [stp_jump (by assumption) (by omega), List.map_append]; rfl) | (rw [stp_fix (by assumption) (by omega), show (a + 1).toNat = a.toNat + 1 by omega]; done)), by omega, by omega, by omega, (by first | omega | (rw [List.length_append]; simp only [List.length_cons, List.length_nil]; omega)), (by rw [List.length_append, hpl]; rfl)⟩
                      case hmu => omega)
                 · first
                   | (exfalso; omega)
                   | (refine W.seq ?_
                      refine W.drawD 10 [.r 0 [], .r 1 [], .r 2 [], .r 3 [], .b 4 [], .b 5 [], .r 6 [], .b 7 [], .c 8 [], .f 9 []] [] (A0 := []) (Sub.refl _) (by kernel_rfl) ?_ ?_
                      · exact (ALok.r (ALok.r (ALok.r (ALok.r (ALok.b (ALok.b (ALok.r (ALok.b (ALok.c (ALok.f ALok.nil))))))))))
                      refine' DT.r rfl rfl rfl ?hq ?_
                      case hq =>
                        refine WO.p rfl rfl ?_
                        exact WO.nil ⟨rfl, rfl⟩
                      refine' DT.r rfl rfl rfl ?hq ?_
                      case hq =>
                        refine WO.p rfl rfl ?_
                        exact WO.nil ⟨rfl, rfl⟩
                      refine' DT.r rfl rfl rfl ?hq ?_
                      case hq =>
                        refine WO.p rfl rfl ?_
                        exact WO.nil ⟨rfl, rfl⟩
                      refine' DT.r rfl rfl rfl ?hq ?_
                      case hq =>
                        refine WO.field0 rfl rfl rfl ?_
                        exact WO.nil ⟨rfl, rfl⟩
                      refine' DT.b rfl rfl rfl ?hq ?_
                      case hq =>
                        refine WO.loadA rfl rfl (Cells.ownAt (n := 3) (Pick.tail (Pick.head)) rfl) rfl rfl ?_
                        exact WO.nil ⟨rfl, rfl⟩
                      refine' DT.b rfl rfl rfl ?hq ?_
                      case hq =>
                        refine WO.loadA rfl rfl (Cells.own (Pick.tail (Pick.tail (Pick.head)))) rfl rfl ?_
                        exact WO.nil ⟨rfl, rfl⟩
                      refine' DT.r rfl rfl rfl ?hq ?_
                      case hq =>
                        refine WO.p rfl rfl ?_
                        exact WO.nil ⟨rfl, rfl⟩
                      refine' DT.b rfl rfl rfl ?hq ?_
                      case hq =>
                        refine WO.callR (r := polyV (sh old a.toNat)) rfl Try.call60 (fun L w hi => by have h := c_shift w old a.toNat (by omega); rw [show ((a.toNat : Nat) : Int) = a by omega] at h; exact h) rfl ?_
                        exact WO.nil ⟨rfl, rfl⟩
                      refine DT.c [_, _, _, _, _, _] rfl rfl rfl rfl ?_
                      refine' WO.buildSl (cs := _) rfl rfl rfl rfl ?hf rfl rfl ?hl rfl (fun v17 => ?_)
                      case hf => (conv => lhs; simp [-List.getD_eq_getElem?_getD, fillL, vcl, wrl, TTab.pl?.lget']) <;> rfl
                      case hl => rfl
                      refine WO.nil ⟨_, [_], rfl, rfl, (Keep.b (Keep.r (Keep.b (Keep.b (Keep.r (Keep.r (Keep.r (Keep.r Keep.nil)))))))), ?_⟩
                      refine' DT.f [_, _, _, _, _, _, _] rfl rfl rfl rfl ?hq ?_
                      case hq =>
                        refine WO.callR (r := polyV (now ^^^ sh old a.toNat)) rfl Try.call63 (fun L w hi => by rw [← xor2]; exact c_sumP w _ _ (RdF.of_ow (e := 55) polyC_ok (by repeat (first | exact Pick.head | apply Pick.tail)) hi)) rfl ?_
                        exact WO.nil ⟨rfl, rfl⟩
                      refine DT.nil [_, _, _, _, _, _, _] rfl ?_
                      refine WO.p rfl rfl (WO.field0 rfl rfl rfl (WO.storeP rfl rfl rfl rfl (Pick.tail (Pick.tail (Pick.head))) (Nat.le_of_ble_eq_true rfl) rfl ?_))
                      refine WO.nil ?_
                      refine W.region ?_
                      refine WO.p rfl rfl (WO.ar rfl rfl rfl (by (first | (unfold in64; omega) | (unfold in64; omega))) rfl (WO.p rfl rfl ?_))
                      refine WO.nil ?_
                      refine W.drawD 11 [.r 0 [], .r 1 [], .r 2 [], .r 3 [], .b 4 [], .r 5 [], .r 6 [], .r 7 [], .b 8 [], .c 9 [], .c 10 []] [] (A0 := [_]) (H0 := [_, _, _, _, _, _]) (.cons (Pick.tail (Pick.tail (Pick.tail (Pick.tail .head)))) (.cons .head (.cons .head (.cons .head (.cons .head (.cons .head (.cons .head .nil))))))) (by kernel_rfl) ?_ ?_
                      · exact (ALok.r (ALok.r (ALok.r (ALok.r (ALok.b (ALok.r (ALok.r (ALok.r (ALok.b (ALok.c (ALok.c ALok.nil)))))))))))
                      refine' DT.r rfl rfl rfl ?hq ?_
                      case hq =>
                        refine WO.p rfl rfl ?_
                        exact WO.nil ⟨rfl, rfl⟩
                      refine' DT.r rfl rfl rfl ?hq ?_
                      case hq =>
                        refine WO.p rfl rfl ?_
                        exact WO.nil ⟨rfl, rfl⟩
                      refine' DT.r rfl rfl rfl ?hq ?_
                      case hq =>
                        refine WO.p rfl rfl ?_
                        exact WO.nil ⟨rfl, rfl⟩
                      refine' DT.r rfl rfl rfl ?hq ?_
                      case hq =>
                        refine WO.fieldL rfl rfl rfl ?_
                        exact WO.nil ⟨rfl, rfl⟩
                      refine' DT.b rfl rfl rfl ?hq ?_
                      case hq =>
                        refine WO.load rfl rfl (Cell.own Pick.head rfl) rfl ?_
                        exact WO.nil ⟨rfl, rfl⟩
                      refine' DT.r rfl rfl rfl ?hq ?_
                      case hq =>
                        refine WO.p rfl rfl ?_
                        exact WO.nil ⟨rfl, rfl⟩
                      refine' DT.r rfl rfl rfl ?hq ?_
                      case hq =>
                        refine WO.p rfl rfl ?_
                        exact WO.nil ⟨rfl, rfl⟩
                      refine' DT.r rfl rfl rfl ?hq ?_
                      case hq =>
                        refine WO.fieldL rfl rfl rfl ?_
                        exact WO.nil ⟨rfl, rfl⟩
                      refine' DT.b rfl rfl rfl ?hq ?_
                      case hq =>
                        refine WO.load rfl rfl (Cell.own Pick.head rfl) rfl ?_
                        exact WO.nil ⟨rfl, rfl⟩
                      refine DT.c [_, _, _, _, _, _, _] rfl rfl rfl rfl ?_
                      refine' WO.buildSl (cs := _) rfl rfl rfl rfl ?hf rfl rfl ?hl rfl (fun v18 => ?_)
                      case hf => (conv => lhs; simp [-List.getD_eq_getElem?_getD, fillL, vcl, wrl, TTab.pl?.lget']) <;> rfl
                      case hl => rfl
                      refine WO.nil ⟨_, [_, _], rfl, rfl, (Keep.b (Keep.r (Keep.r (Keep.r (Keep.b (Keep.r (Keep.r (Keep.r (Keep.r Keep.nil))))))))), ?_⟩
                      refine DT.c [_, _, _, _, _, _, _, _] rfl rfl rfl rfl ?_
                      refine' WO.appendE (enc := encI) (m := 1) (xs := prof) (ys := [_]) encI_ok rfl rfl rfl rfl rfl (by repeat (first | exact Pick.head | apply Pick.tail)) (isSl_lit (by omega) (fun _ => ⟨_, _, rfl⟩)) (by omega) rfl (OwC.cells (by repeat (first | exact Pick.head | apply Pick.tail))) (by omega) (by omega) rfl (fun g c => ?_)
                      rw [hpl]
                      refine WO.nil ⟨_, [_, _], rfl, rfl, (Keep.c (Keep.b (Keep.r (Keep.r (Keep.r (Keep.b (Keep.r (Keep.r (Keep.r (Keep.r Keep.nil)))))))))), ?_⟩
                      refine DT.nil [_, _, _, _, _, _, _, _] rfl ?_
                      refine WO.p rfl rfl (WO.fieldL rfl rfl rfl (WO.store1 rfl rfl rfl (by first | rfl | assumption) (Pick.tail (Pick.tail (Pick.head))) rfl ?_))
                      refine WO.nil ?_
                      refine W.region ?_
                      refine WO.ar rfl rfl rfl (by (first | (unfold in64; omega) | (unfold in64; omega))) rfl (WO.p rfl rfl ?_)
                      refine WO.nil ?_
                      refine' ⟨i + 1, _, _, _, _, _, _, _, _, _, _, _, ?hp, ?hmu, ⟨rfl, rfl, rfl, rfl, rfl, rfl, rfl, trivial⟩, ?hS⟩
                      case hS => repeat (first | exact Sub.nil | refine Sub.cons (by repeat (first | exact Pick.head | apply Pick.tail)) ?_)
                      case hp => exact ⟨by omega, (by rw [nextS hS]; first | (rw [stp_ok (by assumption), show (a + 1).toNat = a.toNat + 1 by omega]; done) | (rw [stp_jump (by assumption) (by omega), List.map_append]; rfl) | (rw [stp_fix (by assumption) (by omega), show (a + 1).toNat = a.toNat + 1 by omega]; done)), by omega, by omega, by omega, (by first | omega | (rw [List.length_append]; simp only [List.length_cons, List.length_nil]; omega)), (by rw [List.length_append, hpl]; rfl)⟩
                      case hmu => omega))))
  · first
    | (exfalso; omega)
    | (refine W.exit (blk_same ?_)
       obtain rfl : i = l.length := by omega
       refine W.sreg ?_
       refine WO.p rfl rfl (WO.p rfl rfl ?_)
       refine WO.nil ?_
       refine W.ret ?_
       refine fin.ret (Res.one rfl (RV.tmp rfl)) ?_
       refine ⟨(b2, pa, pc, ja, jc, js), ⟨rfl, by rw [← hS]⟩, fun h hs => ?_⟩
       rw [← hS]
       exact Sub.sat (by repeat (first | exact Sub.nil | refine Sub.cons (by repeat (first | exact Pick.head | apply Pick.tail)) ?_)) hs)
end Go.Proofs.Ytingkbglkaojdaa
namespace Go.Proofs.Ytingkbglkaojdaa
open Go Go.TH Go.TH.Wv
set_option maxRecDepth 10000
set_option maxHeartbeats 1000000
theorem bt_tapsL {p L j : Nat} (h : j < L) : bt (tapsL p L) j = cf p (j + 1) := mapR_get 0 h
theorem tapsL_ok (p L : Nat) : OkBs (tapsL p L) := fun x hx => by
  unfold tapsL at hx
  obtain ⟨j, _, rfl⟩ := List.mem_map.1 hx
  exact cf_bit p (j + 1)
theorem pre_taps {p L i : Nat} {s : Nat → Int} : pre (bt (tapsL p L)) L s i = pre (fun j => cf p (j + 1)) L s i := sm_congr fun j hj => by rw [bt_tapsL hj]
theorem mk_taps {p L n : Nat} {s : Nat → Int} : Mk (bt (tapsL p L)) L s n ↔ Mk (fun j => cf p (j + 1)) L s n :=
  ⟨fun h i h1 h2 => by rw [← pre_taps]; exact h i h1 h2, fun h i h1 h2 => by rw [pre_taps]; exact h i h1 h2⟩
theorem mk_takeM {taps l : List Int} {k : Nat} (h : k ≤ l.length) : mk taps (l.take k) ↔ Mk (bt taps) taps.length (bt l) k := by
  rw [mk_iff, take_len h]
  exact ⟨fun g => g.congr (fun _ _ => rfl) (fun i hi => bt_take hi), fun g => g.congr (fun _ _ => rfl) (fun i hi => (bt_take hi).symm)⟩
theorem lc_up {s : Nat → Int} {n : Nat} : LC s n ≤ LC s (n + 1) := lc_le (by
  obtain ⟨c, hc⟩ := (lc_is s (n + 1)).1
  exact ⟨c, hc.le (by omega)⟩)
theorem cf_big {p j : Nat} (hp : p < 2 ^ 192) (hj : 192 ≤ j) : cf p j = 0 := by
  unfold cf
  rw [Nat.testBit_lt_two_pow (Nat.lt_of_lt_of_le hp (Nat.pow_le_pow_right (by decide) hj))]
  rfl
theorem cf_set (p j : Nat) : cf (p ||| 1 <<< 0) j = if j = 0 then 1 else cf p j := by
  unfold cf
  rw [Nat.testBit_or, one_bit]
  by_cases h : j = 0
  · subst h; simp
  · have h' : ¬ 0 = j := fun e => h e.symm
    simp [h, h']
/-- what is known of the bits that are kept -/
def Last (l : List Int) (n q : Nat) : Prop := ∀ j, cf q j = if j < n then bt l (n - 1 - j) else 0
theorem Last.next {l : List Int} {n q : Nat} (h : Last l n q) (hl : OkBs l) (hn : n ≤ 128) : Last l (n + 1) (lastN q (l.getD n 0)) := by
  have hb : l.getD n 0 = 0 ∨ l.getD n 0 = 1 := bt_ok hl n
  have h1 : ∀ j, cf (sh q 1) j = if 1 ≤ j then cf q (j - 1) else 0 := fun j => by
    rcases Nat.lt_or_ge j 192 with g | g
    · rw [cf_sh g]; rfl
    · rw [cf_big (sh_lt q 1) g, if_pos (by omega), h (j - 1), if_neg (by omega)]
  intro j
  unfold lastN
  by_cases hj : j = 0
  · subst hj
    have e0 : (if 0 < n + 1 then bt l (n + 1 - 1 - 0) else 0) = l.getD n 0 := by rw [if_pos (by omega)]; rfl
    rw [e0]
    split
    · rename_i hb1; rw [cf_set, if_pos rfl, hb1]
    · rename_i hb1; rw [h1, if_neg (by omega)]; omega
  · have e : cf (if l.getD n 0 = 1 then sh q 1 ||| 1 <<< 0 else sh q 1) j = cf q (j - 1) := by
      split
      · rw [cf_set, if_neg hj, h1, if_pos (by omega)]
      · rw [h1, if_pos (by omega)]
    rw [e, h (j - 1)]
    by_cases g : j < n + 1
    · rw [if_pos (by omega), if_pos g, show n - 1 - (j - 1) = n + 1 - 1 - j by omega]
    · rw [if_neg (by omega), if_neg g]
theorem meet_iff {l : List Int} {n q p L : Nat} (h : Last l (n + 1) q) (hL : L ≤ n) : meetB q p L = true ↔ Eq2 (fu (cf p) L (bt l) n) 0 := by
  unfold meetB
  rw [decide_eq_true_eq]
  have e : sm (L + 1) (fun j => cf (q &&& p) j) = fu (cf p) L (bt l) n := sm_congr fun j hj => by
    rw [cf_and, h j, if_pos (by omega), Int.mul_comm]
    rfl
  rw [e]
  exact Iff.rfl
theorem Bm.cf_new {now old L a n : Nat} {s : Nat → Int} (h : Bm (cf now) (cf old) L a n s) (hn : n ≤ 128) : cf (now ^^^ sh old a) = xo (cf now) (mv (cf old) a) := by
  funext j
  rw [cf_xor]
  unfold xo
  rcases Nat.lt_or_ge j 192 with g | g
  · rw [cf_sh g]
  · have e : mv (cf old) a j = 0 := by
      unfold mv
      split
      · rcases h.old with ⟨_, g2, g3⟩ | ⟨lb, g1, g2, g3, _⟩
        · rw [g3]; exact if_neg (by omega)
        · exact g1.zero _ (by omega)
      · rfl
    rw [cf_big (sh_lt old a) g, e]
/-- what is known of the finder when n bits were looked at -/
structure FI (l : List Int) (n : Nat) (S : St) : Prop where
  last : Last l n S.last
  bm : Bm (cf S.now) (cf S.old) S.long S.ago n (bt l)
  lc : LC (bt l) n = S.long
  prof : S.prof = proL l (n + 1)
  jumps : (S.jumps = [] ∧ S.long = 0) ∨ ∃ J y, S.jumps = J ++ [y] ∧ y.2.2 = (S.long : Int)
  right : ∀ x ∈ S.jumps, IsProof x.1 l x.2.1 ∧ OkBs x.1 ∧ x.2.1 < n ∧ x.2.2 = (x.2.1 : Int) + 1 - (x.1.length : Int) ∧ x.2.2 ≤ (S.long : Int) ∧ 0 < x.2.2
theorem cf_one' : cf 1 = fun j => if j = 0 then (1 : Int) else 0 := funext cf_one
theorem FI.start (l : List Int) : FI l 0 (runS l 0) := by
  refine ⟨fun j => by rw [if_neg (by omega)]; exact cf_big (Nat.two_pow_pos 192) (j := 192) (Nat.le_refl _) ▸ (by unfold cf; simp [runS]), ?_, ?_, ?_, .inl ⟨rfl, rfl⟩, fun x hx => by cases hx⟩
  · show Bm (cf 1) (cf 1) 0 1 0 (bt l)
    rw [cf_one']; exact Bm.start _
  · have := lc_len (bt l) 0
    show LC (bt l) 0 = 0
    omega
  · have := lc_len (bt l) 0
    show [0] = [(LC (bt l) 0 : Int)]
    rw [show LC (bt l) 0 = 0 by omega]; rfl
theorem solP {c : Nat → Int} {L n : Nat} {s : Nat → Int} (h : MkP c L s n) (h0 : c 0 = 1) : Sol L s n := ⟨_, (mkP_iff h0).1 h⟩
theorem FI.next {l : List Int} {n : Nat} {S : St} (h : FI l n S) (hl : OkBs l) (hn : n < l.length) (h128 : l.length ≤ 128) : FI l (n + 1) (stp S n (l.getD n 0)) := by
  obtain ⟨now, long, prof, J, old, ago, q⟩ := S
  obtain ⟨hlast, hbm, hlc, hprof, hj, hr⟩ := h
  dsimp only at hlast hbm hlc hprof hj hr
  have hlast' := hlast.next hl (by omega)
  have hL := hbm.le
  have hlow := lc_up (s := bt l) (n := n)
  have hm := meet_iff (p := now) hlast' hL
  cases hb : meetB (lastN q (l.getD n 0)) now long with
  | true =>
    rw [stp_ok hb]
    have hbm' := hbm.ok (hm.1 hb)
    have hlc' : LC (bt l) (n + 1) = long := by
      have := lc_le (solP hbm'.mkp hbm'.pol.one)
      omega
    refine ⟨hlast', hbm', hlc', ?_, hj, fun x hx => ?_⟩
    · show prof ++ [(long : Int)] = _; rw [proL_succ, hlc', hprof]
    · obtain ⟨h1, h2, h3, h4⟩ := hr x hx; exact ⟨h1, h2, Nat.lt_succ_of_lt h3, h4⟩
  | false =>
    have hw : ¬ Eq2 (fu (cf now) long (bt l) n) 0 := fun g => by rw [hm.2 g] at hb; cases hb
    have hw2 : ¬ Eq2 (pre (fun j => cf now (j + 1)) long (bt l) n) (bt l n) := fun g => hw ((fu_right hbm.pol.one).2 g)
    have hmk := (mkP_iff hbm.pol.one).1 hbm.mkp
    have hge : n + 1 ≤ long + LC (bt l) (n + 1) := by
      obtain ⟨c, hc⟩ := (lc_is (bt l) (n + 1)).1
      exact massey hmk hL hw2 hc
    have hnew := Bm.cf_new hbm (by omega)
    by_cases h2 : 2 * long ≤ n
    · rw [stp_jump hb h2]
      obtain ⟨hp, hmp⟩ := hbm.fix (L' := n + 1 - long) hw (by omega) (by omega)
      have hlc' : LC (bt l) (n + 1) = n + 1 - long := by
        have := lc_le (solP hmp hp.one)
        omega
      refine ⟨hlast', ?_, hlc', ?_, .inr ⟨J, _, rfl, rfl⟩, fun x hx => ?_⟩
      · show Bm (cf (now ^^^ sh old ago)) (cf now) (n + 1 - long) 1 (n + 1) (bt l)
        rw [hnew]
        refine ⟨hp, by omega, hmp, by omega, .inr ⟨long, hbm.pol, by omega, by omega, by omega, ?_, ?_⟩⟩
        · rw [show n + 1 - 1 = n by omega]; exact hbm.mkp
        · rw [show n + 1 - 1 = n by omega]; exact hw
      · show prof ++ [((n + 1 - long : Nat) : Int)] = _; rw [proL_succ, hlc', hprof]
      · rcases List.mem_append.1 hx with g | g
        · obtain ⟨h1, h2', h3, h4, h5, h6⟩ := hr x g
          exact ⟨h1, h2', Nat.lt_succ_of_lt h3, h4, by show x.2.2 ≤ ((n + 1 - long : Nat) : Int); omega, h6⟩
        · rw [List.mem_singleton] at g
          subst g
          refine ⟨⟨by show (tapsL now long).length ≤ n; rw [tapsL_len]; exact hL, ?_, ?_⟩, tapsL_ok _ _, Nat.lt_succ_self n, ?_, Int.le_refl _, ?_⟩
          · rw [mk_takeM (show n ≤ l.length by omega)]
            show Mk (bt (tapsL now long)) (tapsL now long).length (bt l) n
            rw [tapsL_len, mk_taps]; exact hmk
          · rw [mk_takeM (show n + 1 ≤ l.length by omega)]
            show ¬ Mk (bt (tapsL now long)) (tapsL now long).length (bt l) (n + 1)
            rw [tapsL_len, mk_taps]
            exact fun g => hw2 (g n hL (by omega))
          · show ((n + 1 - long : Nat) : Int) = (n : Int) + 1 - ((tapsL now long).length : Int)
            rw [tapsL_len]; omega
          · show 0 < ((n + 1 - long : Nat) : Int); omega
    · rw [stp_fix hb h2]
      obtain ⟨hp, hmp⟩ := hbm.fix (L' := long) hw (by omega) (by omega)
      have hlc' : LC (bt l) (n + 1) = long := by
        have := lc_le (solP hmp hp.one)
        omega
      refine ⟨hlast', ?_, hlc', ?_, hj, fun x hx => ?_⟩
      · show Bm (cf (now ^^^ sh old ago)) (cf old) long (ago + 1) (n + 1) (bt l)
        rw [hnew]
        refine ⟨hp, by omega, hmp, by omega, ?_⟩
        rcases hbm.old with ⟨g1, _, _⟩ | ⟨lb, g1, g2, g3, g4, g5, g6⟩
        · omega
        · refine .inr ⟨lb, g1, by omega, ?_, ?_, ?_, ?_⟩
          · omega
          · omega
          · rw [show n + 1 - (ago + 1) = n - ago by omega]; exact g5
          · rw [show n + 1 - (ago + 1) = n - ago by omega]; exact g6
      · show prof ++ [(long : Int)] = _; rw [proL_succ, hlc', hprof]
      · obtain ⟨h1, h2', h3, h4⟩ := hr x hx; exact ⟨h1, h2', Nat.lt_succ_of_lt h3, h4⟩
theorem FI.all {l : List Int} (hl : OkBs l) (h128 : l.length ≤ 128) : ∀ n, n ≤ l.length → FI l n (runS l n)
  | 0, _ => FI.start l
  | n + 1, h => (FI.all hl h128 n (by omega)).next hl (by omega) h128
/-- the taps that are returned, the profile, and the proofs -/
def shortL (l : List Int) : List Int := tapsL (runS l l.length).now (runS l l.length).long
theorem short_len {l : List Int} (h : chkB l = 0) : (shortL l).length = LC (bt l) l.length := by
  have h1 := chkB0.1 h
  unfold shortL
  rw [tapsL_len, (FI.all h1.2 h1.1 _ (Nat.le_refl _)).lc]
theorem short_ok (l : List Int) : OkBs (shortL l) := tapsL_ok _ _
theorem short_mk {l : List Int} (h : chkB l = 0) : mk (shortL l) l := by
  have h1 := chkB0.1 h
  have hf := (FI.all h1.2 h1.1 _ (Nat.le_refl _)).bm
  rw [mk_iff]
  unfold shortL
  rw [tapsL_len, mk_taps]
  exact (mkP_iff hf.pol.one).1 hf.mkp
theorem short_chk {l : List Int} (h : chkB l = 0) : chkB (shortL l) = 0 := by
  have h1 := chkB0.1 h
  have := lc_len (bt l) l.length
  exact chkB0.2 ⟨by rw [short_len h]; omega, short_ok l⟩
theorem short_reg {l : List Int} (h : chkB l = 0) : regE l (shortL l) = 0 := regE0.2 ⟨h, short_chk h, short_mk h⟩
def profM (l : List Int) : List Int := (runS l l.length).prof
theorem profM_eq {l : List Int} (h : chkB l = 0) : profM l = proL l (l.length + 1) := by
  have h1 := chkB0.1 h
  exact (FI.all h1.2 h1.1 _ (Nat.le_refl _)).prof
end Go.Proofs.Ytingkbglkaojdaa
namespace Go.Proofs.Ytingkbglkaojdaa
open Go Go.TH Go.TH.Wv
attribute [local irreducible] W WO pt
set_option maxRecDepth 10000
set_option maxHeartbeats 1000000
/-- what find returns -/
def FindP (l : List Int) (r : Value) (Hq : List HP) : Prop := ∃ (fb : Nat) (pa : Option Addr) (pc : Nat) (ja : Option Addr) (jc : Nat) (js : List JV), r = .pointer (some ⟨fb, 0, none⟩) ∧ js.map (·.2) = (runS l l.length).jumps ∧
  Hq = [pt fb (.cells #[.int .u64 (wd (runS l l.length).now 0 : Int), .int .u64 (wd (runS l l.length).now 1 : Int), .int .u64 (wd (runS l l.length).now 2 : Int), .int .i64 ((runS l l.length).long : Int), .slice pa (l.length + 1) pc, .slice ja js.length jc] 58 (0, 0)), OwE encI 3 1 (.slice pa (l.length + 1) pc) (runS l l.length).prof, OwE encJ 80 3 (.slice ja js.length jc) js, rowsJ js]
theorem c_findP (w : World) (v : Value) (l : List Int) (hR : RdF encI 1 w.heap.size w v l) (h : chkB l = 0) : Ct Try.prog 41 [v].toArray w fun r w' => ∃ Hq, FindP l r Hq ∧ Inv w [] Hq w' := by
  obtain ⟨h1, h2⟩ := chkB0.1 h
  refine (c_find w v l hR h1 h2).mono fun r w' ⟨Hq, ⟨⟨fb, pa, pc, ja, jc, js⟩, ⟨e1, e2⟩, e3⟩, hi⟩ => ⟨Hq, ⟨fb, pa, pc, ja, jc, js, e1, e2, e3⟩, hi⟩
theorem c_Shortest (w : World) (v : Value) (l : List Int) (hR : RdF encI 1 w.heap.size w v l) : Ct Try.prog 18 [v].toArray w fun r w' => ∃ Hq, (∃ x : Value, r = .tuple #[x, .int .i64 (chkB l)] ∧ Hq = [OwE encI 3 1 x (if chkB l = 0 then shortL l else [])]) ∧ Inv w [] Hq w' := by
  refine Ct.ofI mixed tyTab Try.func18 rfl rfl ?_
  replace hR : RdF encI 1 (fnCx mixed tyTab Try.f18.ntmps w).B (fnCx mixed tyTab Try.f18.ntmps w).w0 v l := hR
  refine W.sreg ?_
  refine WO.p rfl rfl (WO.p rfl rfl ?_)
  refine WO.nil ?_
  refine W.seq ?_
  refine W.sreg ?_
  refine WO.p rfl rfl ?_
  refine WO.callR rfl Try.call33 (fun L w hi => c_CheckBits w _ l (hR.later hi)) rfl ?_
  refine WO.p rfl rfl ?_
  refine WO.nil ?_
  refine W.sreg ?_
  refine WO.p rfl rfl (WO.p rfl rfl ?_)
  refine WO.nil ?_
  refine W.cond_bl rfl (fun c1 => ?_) (fun c1 => ?_)
  · first
    | (exfalso; omega)
    | (refine W.sreg ?_
       refine WO.p rfl rfl (WO.p rfl rfl (WO.p rfl rfl ?_))
       refine WO.nil ?_
       refine W.ret ?_
       refine fin.ret (Res.two rfl (RV.tmp rfl) (RV.tmp rfl)) ?_
       first | (have q := hok; refine ⟨r1, by rw [hok], fun h hs => ?_⟩; rw [if_pos hok]; exact Sub.sat (.cons .head .nil) hs) | (refine ⟨.slice none 0 0, rfl, ?_⟩; rw [if_neg (by assumption)]; exact owNil (enc := encI) (e := 3) (sz := 1)))
  · first
    | (exfalso; omega)
    | (refine W.skip ?_
       refine W.sreg ?_
       refine WO.p rfl rfl ?_
       have hok : chkB l = 0 := by omega
       have hlc := short_len hok
       have hlen := lc_len (bt l) l.length
       have h128 := (chkB0.1 hok).1
       unfold shortL at hlc
       rw [tapsL_len] at hlc
       refine WO.call (Post := FindP l) rfl Try.call41 (fun L w hi => c_findP w v l (hR.later hi) hok) rfl ?_
       rintro _ _ ⟨fb, pa, pc, ja, jc, js, rfl, hjs, rfl⟩
       refine WO.call (Post := fun r Hq => Hq = [OwE encI 3 1 r (shortL l)]) rfl Try.call42 (fun L w hi => c_taps w _ _ (runS l l.length).long _ _ (RdC.own (b := fb) (by repeat (first | exact Pick.head | apply Pick.tail)) hi) (by omega)) rfl ?_
       rintro r1 _ rfl
       refine WO.p rfl rfl (WO.p rfl rfl ?_)
       refine WO.nil ?_
       refine W.ret ?_
       refine fin.ret (Res.two rfl (RV.tmp rfl) (RV.tmp rfl)) ?_
       first | (have q := hok; refine ⟨r1, by rw [hok], fun h hs => ?_⟩; rw [if_pos hok]; exact Sub.sat (.cons .head .nil) hs) | (refine ⟨.slice none 0 0, rfl, ?_⟩; rw [if_neg (by assumption)]; exact owNil (enc := encI) (e := 3) (sz := 1)))
theorem c_Profile (w : World) (v : Value) (l : List Int) (hR : RdF encI 1 w.heap.size w v l) : Ct Try.prog 16 [v].toArray w fun r w' => ∃ Hq, (∃ x : Value, r = .tuple #[x, .int .i64 (chkB l)] ∧ Hq = [OwE encI 3 1 x (if chkB l = 0 then profM l else [])]) ∧ Inv w [] Hq w' := by
  refine Ct.ofI mixed tyTab Try.func16 rfl rfl ?_
  replace hR : RdF encI 1 (fnCx mixed tyTab Try.f16.ntmps w).B (fnCx mixed tyTab Try.f16.ntmps w).w0 v l := hR
  refine W.sreg ?_
  refine WO.p rfl rfl (WO.p rfl rfl ?_)
  refine WO.nil ?_
  refine W.seq ?_
  refine W.sreg ?_
  refine WO.p rfl rfl ?_
  refine WO.callR rfl Try.call33 (fun L w hi => c_CheckBits w _ l (hR.later hi)) rfl ?_
  refine WO.p rfl rfl ?_
  refine WO.nil ?_
  refine W.sreg ?_
  refine WO.p rfl rfl (WO.p rfl rfl ?_)
  refine WO.nil ?_
  refine W.cond_bl rfl (fun c1 => ?_) (fun c1 => ?_)
  · first
    | (exfalso; omega)
    | (refine W.sreg ?_
       refine WO.p rfl rfl (WO.p rfl rfl (WO.p rfl rfl ?_))
       refine WO.nil ?_
       refine W.ret ?_
       refine fin.ret (Res.two rfl (RV.tmp rfl) (RV.tmp rfl)) ?_
       first | (have q := hok; refine ⟨.slice pa (l.length + 1) pc, by rw [hok], fun h hs => ?_⟩; rw [if_pos hok]; exact Sub.sat (.cons (by repeat (first | exact Pick.head | apply Pick.tail)) .nil) hs) | (refine ⟨.slice none 0 0, rfl, ?_⟩; rw [if_neg (by assumption)]; exact owNil (enc := encI) (e := 3) (sz := 1)))
  · first
    | (exfalso; omega)
    | (refine W.skip ?_
       refine W.sreg ?_
       refine WO.p rfl rfl ?_
       have hok : chkB l = 0 := by omega
       refine WO.call (Post := FindP l) rfl Try.call41 (fun L w hi => c_findP w v l (hR.later hi) hok) rfl ?_
       rintro _ _ ⟨fb, pa, pc, ja, jc, js, rfl, hjs, rfl⟩
       refine WO.p rfl rfl (WO.fieldL rfl rfl rfl (WO.load rfl rfl (Cell.own Pick.head rfl) rfl (WO.p rfl rfl (WO.p rfl rfl ?_))))
       refine WO.nil ?_
       refine W.ret ?_
       refine fin.ret (Res.two rfl (RV.tmp rfl) (RV.tmp rfl)) ?_
       first | (have q := hok; refine ⟨.slice pa (l.length + 1) pc, by rw [hok], fun h hs => ?_⟩; rw [if_pos hok]; exact Sub.sat (.cons (by repeat (first | exact Pick.head | apply Pick.tail)) .nil) hs) | (refine ⟨.slice none 0 0, rfl, ?_⟩; rw [if_neg (by assumption)]; exact owNil (enc := encI) (e := 3) (sz := 1)))
/-- a proof with its bound, as a value -/
def jumpV (x : JV) : Value := .agg #[.slice x.1.1 x.2.1.length x.1.2, .int .i64 (x.2.2.1 : Int), .int .i64 x.2.2.2]
theorem c_less (w : World) (x y : JV) : Ret Try.prog 58 [jumpV x, jumpV y].toArray w (.bool (bl (y.2.2.2 < x.2.2.2 ∨ (x.2.2.2 = y.2.2.2 ∧ (y.2.2.1 : Int) < (x.2.2.1 : Int))))) := by
  refine Ret.of mixed tyTab Try.func58 rfl rfl ?_
  refine W.sreg ?_
  refine WO.boxA rfl rfl (fun b1 hb1 => ?_)
  refine WO.boxA rfl rfl (fun b2 hb2 => ?_)
  refine WO.p rfl rfl ?_
  refine WO.nil ?_
  refine W.sreg ?_
  refine WO.fieldL rfl rfl rfl (WO.load rfl rfl (Cell.own (Pick.tail (Pick.head)) rfl) rfl (WO.fieldL rfl rfl rfl (WO.load rfl rfl (Cell.own Pick.head rfl) rfl (WO.p rfl rfl (WO.p rfl rfl ?_)))))
  refine WO.guard_bl rfl rfl (fun c1 => ?_) (fun c1 => ?_)
  · first
    | (exfalso; omega)
    | (refine WO.no rfl rfl (WO.no rfl rfl (WO.no rfl rfl (WO.no rfl rfl (WO.no rfl rfl (WO.no rfl rfl (WO.no rfl rfl (WO.no rfl rfl (WO.no rfl rfl (WO.no rfl rfl (WO.no rfl rfl (WO.no rfl rfl ?_)))))))))))
       refine WO.no rfl rfl (WO.no rfl rfl (WO.p rfl rfl (WO.p rfl rfl ?_)))
       refine WO.nil ?_
       refine W.ret ?_
       refine fin.ret (Res.one rfl (RV.tmp rfl)) (congrArg Value.bool ?_)
       first | (simp only [bl_eq]; simp [*]; done) | (rw [bl_eq, bl_eq]; simp [*]))
  · first
    | (exfalso; omega)
    | (refine WO.go' rfl (WO.fieldL rfl rfl rfl (WO.go' rfl (WO.load rfl rfl (Cell.own (Pick.tail (Pick.head)) rfl) rfl (WO.go' rfl (WO.fieldL rfl rfl rfl (WO.go' rfl (WO.load rfl rfl (Cell.own Pick.head rfl) rfl (WO.pg rfl rfl rfl (WO.pg rfl rfl rfl ?_)))))))))
       refine WO.guard_bl rfl rfl (fun c2 => ?_) (fun c2 => ?_)
       · first
         | (exfalso; omega)
         | (refine WO.go' rfl (WO.field0 rfl rfl rfl (WO.go' rfl (WO.fieldL rfl rfl rfl (WO.go' rfl (WO.load rfl rfl (Cell.own (Pick.tail (Pick.head)) rfl) rfl (WO.go' rfl (WO.field0 rfl rfl rfl (WO.go' rfl (WO.fieldL rfl rfl rfl (WO.go' rfl (WO.load rfl rfl (Cell.own Pick.head rfl) rfl ?_)))))))))))
            refine WO.pg rfl rfl rfl (WO.pg rfl rfl rfl (WO.p rfl rfl (WO.p rfl rfl ?_)))
            refine WO.nil ?_
            refine W.ret ?_
            refine fin.ret (Res.one rfl (RV.tmp rfl)) (congrArg Value.bool ?_)
            first | (simp only [bl_eq]; simp [*]; done) | (rw [bl_eq, bl_eq]; simp [*]))
       · first
         | (exfalso; omega)
         | (refine WO.no rfl rfl (WO.no rfl rfl (WO.no rfl rfl (WO.no rfl rfl (WO.no rfl rfl (WO.no rfl rfl (WO.no rfl rfl (WO.pg rfl rfl rfl (WO.p rfl rfl (WO.p rfl rfl ?_)))))))))
            refine WO.nil ?_
            refine W.ret ?_
            refine fin.ret (Res.one rfl (RV.tmp rfl)) (congrArg Value.bool ?_)
            first | (simp only [bl_eq]; simp [*]; done) | (rw [bl_eq, bl_eq]; simp [*])))
def zJ : JV := ((none, 0), ([], 0, 0))
theorem OwE.cellsJ {C : Cx Try.prog} {H : List HP} {B : Nat} {w : World} {v : Value} {js : List JV} {i : Nat} (h : RdF encJ 3 C.B C.w0 v js) (hi : i < js.length) : Cells C H (elt v i 3) [.slice (js.getD i zJ).1.1 (js.getD i zJ).2.1.length (js.getD i zJ).1.2, .int .i64 ((js.getD i zJ).2.2.1 : Int), .int .i64 (js.getD i zJ).2.2.2] := h.cells hi zJ
theorem c_first (w : World) (v : Value) (js : List JV) (hR : RdF encJ 3 w.heap.size w v js) (h0 : 0 < js.length) : RetE Try.prog 57 [v, .func (.func 58) #[] #[]].toArray w (fun r => ∃ i, i < js.length ∧ r = jumpV (js.getD i zJ) ∧ ∀ y ∈ js, y.2.2.2 ≤ (js.getD i zJ).2.2.2) := by
  refine RetE.of mixed tyTab Try.func57 rfl rfl ?_
  replace hR : RdF encJ 3 (fnCx mixed tyTab Try.f57.ntmps w).B (fnCx mixed tyTab Try.f57.ntmps w).w0 v js := hR
  have hle := hR.sl.le
  refine W.sreg ?_
  refine WO.alloc rfl rfl rfl (fun b1 hb1 => ?_)
  refine WO.nil ?_
  refine W.sreg ?_
  refine WO.p rfl rfl ?_
  refine' WO.indexAddr (n := _) (i := 0) rfl rfl rfl ?hs ?h1 rfl ?_
  case hs => (first | exact hR.sl)
  case h1 => (first | omega | (simp; omega))
  refine' WO.loadA (vs := _) rfl rfl ?hc ?hl rfl ?_
  case hc => (first | exact OwE.cellsJ (i := 0) (B := 0) (w := w) hR h0)
  case hl => rfl
  refine WO.alloc rfl rfl rfl (fun b2 hb2 => ?_)
  refine WO.storeA rfl rfl rfl rfl Pick.head rfl rfl ?_
  refine WO.nil ?_
  refine W.seq ?_
  refine W.sreg ?_
  refine WO.p rfl rfl ?_
  refine' WO.len (n := _) rfl rfl ?hs rfl ?_
  case hs => (first | exact hR.sl)
  refine WO.p rfl rfl ?_
  refine WO.nil ?_
  refine W.block ?_
  refine W.loop2 (fun (i : Nat) (m : Nat) => i ≤ js.length ∧ m < js.length ∧ ∀ j, j < i → (js.getD j zJ).2.2.2 ≤ (js.getD m zJ).2.2.2)
    (fun (i : Nat) (m : Nat) => [(13, .int .i64 (i : Int)), (12, .int .i64 (js.length : Int)), (11, v), (5, .pointer (some ⟨b2, 0, none⟩)), (4, .pointer (some ⟨b1, 0, none⟩)), (1, .func (.func 58) #[] #[])])
    (fun (i : Nat) (m : Nat) => [pt b1 (.cells #[.slice none 0 0, .int .i64 0, .int .i64 0] 80 (0, 0)), pt b2 (.cells #[.slice (js.getD m zJ).1.1 (js.getD m zJ).2.1.length (js.getD m zJ).1.2, .int .i64 ((js.getD m zJ).2.2.1 : Int), .int .i64 (js.getD m zJ).2.2.2] 80 (0, 0))])
    (fun (i : Nat) (m : Nat) => js.length - i) 0 0
    (by exact ⟨by omega, h0, fun j hj => by omega⟩) ⟨rfl, rfl, rfl, rfl, rfl, rfl, trivial⟩ (by repeat (first | exact Sub.nil | refine Sub.cons (by repeat (first | exact Pick.head | apply Pick.tail)) ?_)) ?_
  rintro i m ⟨hi0, hm, hall⟩
  refine W.sreg ?_
  refine WO.p rfl rfl ?_
  refine WO.nil ?_
  refine W.seq ?_
  refine W.cond_bl rfl (fun c1 => ?_) (fun c1 => ?_)
  · first
    | (exfalso; omega)
    | (refine W.skip ?_
       refine W.seq ?_
       refine W.block ?_
       refine W.sreg ?_
       refine' WO.indexAddr (n := _) (i := _) rfl rfl rfl ?hs ?h1 rfl ?_
       case hs => (first | exact hR.sl)
       case h1 => (first | omega | (simp; omega))
       refine' WO.loadA (vs := _) rfl rfl ?hc ?hl rfl ?_
       case hc => (first | exact OwE.cellsJ (i := i) (B := 0) (w := w) hR (by omega))
       case hl => rfl
       refine WO.alloc rfl rfl rfl (fun b3 hb3 => ?_)
       refine WO.storeA rfl rfl rfl rfl Pick.head rfl rfl ?_
       refine WO.nil ?_
       refine W.sreg ?_
       refine WO.p rfl rfl (WO.loadA rfl rfl (Cells.own Pick.head) rfl rfl (WO.loadA rfl rfl (Cells.own (Pick.tail (Pick.tail (Pick.head)))) rfl rfl ?_))
       refine WO.callCR (first := []) (captured := []) (r := .bool (bl ((js.getD m zJ).2.2.2 < (js.getD i zJ).2.2.2 ∨ ((js.getD i zJ).2.2.2 = (js.getD m zJ).2.2.2 ∧ ((js.getD m zJ).2.2.1 : Int) < ((js.getD i zJ).2.2.1 : Int))))) rfl rfl Try.call58 (fun L w hi => c_less w (js.getD i zJ) (js.getD m zJ)) rfl ?_
       refine WO.nil ?_
       refine W.cond_bl rfl (fun c2 => ?_) (fun c2 => ?_)
       · first
         | (exfalso; omega)
         | (refine W.region ?_
            refine WO.loadA rfl rfl (Cells.own Pick.head) rfl rfl (WO.storeA rfl rfl rfl rfl (Pick.tail (Pick.tail (Pick.head))) rfl rfl ?_)
            refine WO.nil ?_
            refine W.region ?_
            refine WO.ar rfl rfl rfl (by (first | (unfold in64; omega))) rfl (WO.p rfl rfl ?_)
            refine WO.nil ?_
            refine' ⟨i + 1, _, ?hp, ?hmu, ⟨rfl, rfl, rfl, rfl, rfl, rfl, trivial⟩, ?hS⟩
            case hS => repeat (first | exact Sub.nil | refine Sub.cons (by repeat (first | exact Pick.head | apply Pick.tail)) ?_)
            case hp => exact ⟨by omega, by omega, fun j hj => by rcases Nat.lt_or_ge j i with g | g; (have := hall j g; omega); (obtain rfl : j = i := by omega); omega⟩
            case hmu => omega)
       · first
         | (exfalso; omega)
         | (refine W.skip ?_
            refine W.region ?_
            refine WO.ar rfl rfl rfl (by (first | (unfold in64; omega))) rfl (WO.p rfl rfl ?_)
            refine WO.nil ?_
            refine' ⟨i + 1, _, ?hp, ?hmu, ⟨rfl, rfl, rfl, rfl, rfl, rfl, trivial⟩, ?hS⟩
            case hS => repeat (first | exact Sub.nil | refine Sub.cons (by repeat (first | exact Pick.head | apply Pick.tail)) ?_)
            case hp => exact ⟨by omega, by omega, fun j hj => by rcases Nat.lt_or_ge j i with g | g; (have := hall j g; omega); (obtain rfl : j = i := by omega); omega⟩
            case hmu => omega))
  · first
    | (exfalso; omega)
    | (refine W.exit (blk_same ?_)
       refine W.sreg ?_
       refine WO.loadA rfl rfl (Cells.own (Pick.tail (Pick.head))) rfl rfl (WO.storeA rfl rfl rfl rfl Pick.head rfl rfl ?_)
       refine WO.nil ?_
       refine W.ret ?_
       refine fin.ret (Res.one rfl (RV.cell rfl rfl rfl (Cells.own (by repeat (first | exact Pick.head | apply Pick.tail))))) ⟨m, hm, rfl, fun y hy => ?_⟩
       obtain ⟨j, hj, rfl⟩ := List.getElem_of_mem hy
       have := hall j (by omega)
       rwa [show js.getD j zJ = js[j] by simp [hj]] at this)
/-- what Proof returns -/
def ProofS (l taps : List Int) (n e : Int) : Prop := (chkB l ≠ 0 ∧ e = chkB l ∧ taps = [] ∧ n = 0) ∨ (chkB l = 0 ∧ LC (bt l) l.length = 0 ∧ e = 5 ∧ taps = [] ∧ n = 0) ∨
  (chkB l = 0 ∧ e = 0 ∧ ∃ k : Nat, n = (k : Int) ∧ IsProof taps l k ∧ OkBs taps ∧ k < l.length ∧ (k : Int) + 1 - (taps.length : Int) = (LC (bt l) l.length : Int) ∧ 0 < LC (bt l) l.length)
theorem ProofS.of {l : List Int} {js : List JV} {i : Nat} (h : chkB l = 0) (hjs : js.map (·.2) = (runS l l.length).jumps) (hi : i < js.length) (hm : ∀ y ∈ js, y.2.2.2 ≤ (js.getD i zJ).2.2.2) : ProofS l (js.getD i zJ).2.1 ((js.getD i zJ).2.2.1 : Int) 0 := by
  have h1 := chkB0.1 h
  have hf := FI.all h1.2 h1.1 _ (Nat.le_refl _)
  have hx : (js.getD i zJ).2 ∈ (runS l l.length).jumps := by rw [← hjs]; exact List.mem_map.2 ⟨_, getD_mem hi zJ, rfl⟩
  obtain ⟨r1, r2, r3, r4, r5, r6⟩ := hf.right _ hx
  have hlast : ∃ y ∈ js, y.2.2.2 = ((runS l l.length).long : Int) := by
    rcases hf.jumps with ⟨g, _⟩ | ⟨J, y, g1, g2⟩
    · rw [g] at hx; cases hx
    · have hy : y ∈ js.map (·.2) := by rw [hjs, g1]; simp
      obtain ⟨z, hz, rfl⟩ := List.mem_map.1 hy
      exact ⟨z, hz, g2⟩
  obtain ⟨y, hy, hb⟩ := hlast
  have hle := hm y hy
  have hlc := hf.lc
  exact .inr (.inr ⟨h, rfl, _, rfl, r1, r2, r3, by omega, by omega⟩)
theorem ProofS.none {l : List Int} {js : List JV} (h : chkB l = 0) (hjs : js.map (·.2) = (runS l l.length).jumps) (h0 : (js.length : Int) = 0) : ProofS l [] 0 5 := by
  have h1 := chkB0.1 h
  have hf := FI.all h1.2 h1.1 _ (Nat.le_refl _)
  obtain rfl : js = [] := List.length_eq_zero_iff.1 (by omega)
  refine .inr (.inl ⟨h, ?_, rfl, rfl, rfl⟩)
  rw [hf.lc]
  rcases hf.jumps with ⟨_, g⟩ | ⟨J, y, g1, _⟩
  · exact g
  · rw [g1] at hjs; simp at hjs
theorem jT_row {js : List JV} {i : Nat} (hi : i < js.length) {H H' : List HP} (p : Pick (rowsJ js) H H') : ∀ h, sat H h → sat [OwE encI 3 1 (.slice (js.getD i zJ).1.1 (js.getD i zJ).2.1.length (js.getD i zJ).1.2) (js.getD i zJ).2.1] h := by
  intro h hs
  have h1 := Pick.rowIn (enc := encI) (e := 3) (sz := 1) p (i := i) (by rw [List.length_map]; exact hi) h hs
  have e1 : (js.map jS).getD i undef = jS (js.getD i zJ) := by simp [hi]
  have e2 : (js.map jT).getD i [] = jT (js.getD i zJ) := by simp [hi]
  rw [e1, e2] at h1
  exact Sub.sat (.cons .head .nil) h1
theorem slJ {C : Cx Try.prog} {H : List HP} {v : Value} {js : List JV} (s : Sub H [OwE encJ 80 3 v js]) : ∀ (L : List HP) w, Inv C.w0 C.M (L ++ H) w → IsSl v js.length := by
  cases s with
  | cons g _ => exact OwE.sl g
theorem c_Proof (w : World) (v : Value) (l : List Int) (hR : RdF encI 1 w.heap.size w v l) : Ct Try.prog 38 [v].toArray w fun r w' => ∃ Hq, (∃ Z : Option Addr × Nat × List Int × Int × Int, (r = .tuple #[.agg #[.slice Z.1 Z.2.2.1.length Z.2.1, .int .i64 Z.2.2.2.1], .int .i64 Z.2.2.2.2] ∧ ProofS l Z.2.2.1 Z.2.2.2.1 Z.2.2.2.2) ∧ Hq = [OwE encI 3 1 (.slice Z.1 Z.2.2.1.length Z.2.1) Z.2.2.1]) ∧ Inv w [] Hq w' := by
  refine Ct.ofI mixed tyTab Try.func38 rfl rfl ?_
  replace hR : RdF encI 1 (fnCx mixed tyTab Try.f38.ntmps w).B (fnCx mixed tyTab Try.f38.ntmps w).w0 v l := hR
  refine W.sreg ?_
  refine WO.alloc rfl rfl rfl (fun b1 hb1 => ?_)
  refine WO.p rfl rfl ?_
  refine WO.nil ?_
  refine W.seq ?_
  refine W.sreg ?_
  refine WO.p rfl rfl ?_
  refine WO.callR rfl Try.call33 (fun L w hi => c_CheckBits w _ l (hR.later hi)) rfl ?_
  refine WO.p rfl rfl ?_
  refine WO.nil ?_
  refine W.sreg ?_
  refine WO.p rfl rfl (WO.p rfl rfl ?_)
  refine WO.nil ?_
  refine W.cond_bl rfl (fun c1 => ?_) (fun c1 => ?_)
  · first
    | (exfalso; omega)
    | (refine W.sreg ?_
       refine' WO.build (cs := _) rfl rfl rfl ?hf rfl ?_
       case hf => (conv => lhs; simp [-List.getD_eq_getElem?_getD, fillL, vcl, wrl, TTab.pl?.lget']) <;> rfl
       refine WO.p rfl rfl (WO.storeA rfl rfl rfl rfl Pick.head rfl rfl (WO.p rfl rfl ?_))
       refine WO.nil ?_
       refine W.ret ?_
       refine fin.ret (Res.two rfl (RV.cell rfl rfl rfl (Cells.own (by repeat (first | exact Pick.head | apply Pick.tail)))) (RV.tmp rfl)) ?_
       first | (have q := hmax; refine ⟨((js.getD i zJ).1.1, (js.getD i zJ).1.2, (js.getD i zJ).2.1, ((js.getD i zJ).2.2.1 : Int), 0), ⟨rfl, ProofS.of hok hjs hi hmax⟩, ?_⟩; exact jT_row hi (by repeat (first | exact Pick.head | apply Pick.tail))) | (have q := hjs; refine ⟨(none, 0, [], 0, 5), ⟨rfl, ProofS.none hok hjs (by assumption)⟩, ?_⟩; exact fun h hs => Sub.sat (.cons .head .nil) (owNil (enc := encI) (e := 3) (sz := 1) h hs)) | (refine ⟨(none, 0, [], 0, chkB l), ⟨rfl, .inl ⟨by assumption, rfl, rfl, rfl⟩⟩, ?_⟩; exact fun h hs => Sub.sat (.cons .head .nil) (owNil (enc := encI) (e := 3) (sz := 1) h hs)))
  · first
    | (exfalso; omega)
    | (refine W.skip ?_
       refine W.sreg ?_
       refine WO.p rfl rfl ?_
       have hok : chkB l = 0 := by omega
       refine WO.call (Post := FindP l) rfl Try.call41 (fun L w hi => c_findP w v l (hR.later hi) hok) rfl ?_
       rintro _ _ ⟨fb, pa, pc, ja, jc, js, rfl, hjs, rfl⟩
       refine WO.p rfl rfl ?_
       refine WO.nil ?_
       refine W.seq ?_
       refine W.fact (slJ (v := .slice ja js.length jc) (js := js) (by repeat (first | exact Sub.nil | refine Sub.cons (by repeat (first | exact Pick.head | apply Pick.tail)) ?_))) ?_
       intro hsl
       refine W.sreg ?_
       refine WO.p rfl rfl (WO.p rfl rfl (WO.fieldL rfl rfl rfl (WO.load rfl rfl (Cell.own Pick.head rfl) rfl ?_)))
       refine' WO.len (n := _) rfl rfl ?hs rfl ?_
       case hs => (first | exact hsl)
       refine WO.p rfl rfl ?_
       refine WO.nil ?_
       refine W.cond_bl rfl (fun c2 => ?_) (fun c2 => ?_)
       · first
         | (exfalso; omega)
         | (refine W.sreg ?_
            refine' WO.build (cs := _) rfl rfl rfl ?hf rfl ?_
            case hf => (conv => lhs; simp [-List.getD_eq_getElem?_getD, fillL, vcl, wrl, TTab.pl?.lget']) <;> rfl
            refine WO.storeA rfl rfl rfl rfl (Pick.tail (Pick.tail (Pick.tail (Pick.tail (Pick.head))))) rfl rfl (WO.p rfl rfl ?_)
            refine WO.nil ?_
            refine W.ret ?_
            refine fin.ret (Res.two rfl (RV.cell rfl rfl rfl (Cells.own (by repeat (first | exact Pick.head | apply Pick.tail)))) (RV.tmp rfl)) ?_
            first | (have q := hmax; refine ⟨((js.getD i zJ).1.1, (js.getD i zJ).1.2, (js.getD i zJ).2.1, ((js.getD i zJ).2.2.1 : Int), 0), ⟨rfl, ProofS.of hok hjs hi hmax⟩, ?_⟩; exact jT_row hi (by repeat (first | exact Pick.head | apply Pick.tail))) | (have q := hjs; refine ⟨(none, 0, [], 0, 5), ⟨rfl, ProofS.none hok hjs (by assumption)⟩, ?_⟩; exact fun h hs => Sub.sat (.cons .head .nil) (owNil (enc := encI) (e := 3) (sz := 1) h hs)) | (refine ⟨(none, 0, [], 0, chkB l), ⟨rfl, .inl ⟨by assumption, rfl, rfl, rfl⟩⟩, ?_⟩; exact fun h hs => Sub.sat (.cons .head .nil) (owNil (enc := encI) (e := 3) (sz := 1) h hs)))
       · first
         | (exfalso; omega)
         | (refine W.skip ?_
            refine W.sreg ?_
            refine WO.p rfl rfl (WO.p rfl rfl (WO.fieldL rfl rfl rfl (WO.load rfl rfl (Cell.own Pick.head rfl) rfl ?_)))
            refine WO.callE rfl Try.call57 (fun L w hi => c_first w _ js (RdF.of_ow (e := 80) encJ_ok (by repeat (first | exact Pick.head | apply Pick.tail)) hi) (by omega)) rfl ?_
            rintro _ ⟨i, hi, rfl, hmax⟩
            refine WO.alloc rfl rfl rfl (fun b2 hb2 => ?_)
            refine WO.storeA rfl rfl rfl rfl Pick.head rfl rfl ?_
            refine WO.nil ?_
            refine W.sreg ?_
            refine WO.field0 rfl rfl rfl (WO.loadA rfl rfl (Cells.ownAt (n := 2) Pick.head rfl) rfl rfl (WO.storeA rfl rfl rfl rfl (Pick.tail (Pick.tail (Pick.tail (Pick.tail (Pick.tail (Pick.head)))))) rfl rfl (WO.p rfl rfl ?_)))
            refine WO.nil ?_
            refine W.ret ?_
            refine fin.ret (Res.two rfl (RV.cell rfl rfl rfl (Cells.own (by repeat (first | exact Pick.head | apply Pick.tail)))) (RV.tmp rfl)) ?_
            first | (have q := hmax; refine ⟨((js.getD i zJ).1.1, (js.getD i zJ).1.2, (js.getD i zJ).2.1, ((js.getD i zJ).2.2.1 : Int), 0), ⟨rfl, ProofS.of hok hjs hi hmax⟩, ?_⟩; exact jT_row hi (by repeat (first | exact Pick.head | apply Pick.tail))) | (have q := hjs; refine ⟨(none, 0, [], 0, 5), ⟨rfl, ProofS.none hok hjs (by assumption)⟩, ?_⟩; exact fun h hs => Sub.sat (.cons .head .nil) (owNil (enc := encI) (e := 3) (sz := 1) h hs)) | (refine ⟨(none, 0, [], 0, chkB l), ⟨rfl, .inl ⟨by assumption, rfl, rfl, rfl⟩⟩, ?_⟩; exact fun h hs => Sub.sat (.cons .head .nil) (owNil (enc := encI) (e := 3) (sz := 1) h hs))))
end Go.Proofs.Ytingkbglkaojdaa
namespace Go.Proofs.Ytingkbglkaojdaa
open Go Go.TH Go.TH.Wv
attribute [local irreducible] W WO pt
set_option maxRecDepth 10000
set_option maxHeartbeats 1000000
theorem flat_encI : ∀ (xs : List Int), xs.flatMap encI = xs.map fun x => Value.int .i64 x
  | [] => rfl
  | x :: r => by rw [List.flatMap_cons, flat_encI r]; rfl
/-- the first part of one's own slice -/
theorem OwE.firsts {e n m c : Nat} {a : Option Addr} {xs : List Int} {H H' : List HP} (p : Pick (OwE encI e 1 (.slice a n c) xs) H H') (hm : m ≤ xs.length) : ∀ h, sat H h → sat (OwE encI e 1 (.slice (if c = 0 then a else ofs a (0 * 1)) (m - 0) (c - 0)) (xs.take m) :: H') h := fun h hs => by
  obtain ⟨h1, h2, s, ⟨q1, q2⟩, r⟩ := p.sat hs
  refine ⟨h1, h2, s, ⟨?_, ?_⟩, r⟩
  · rw [encI_ok.flat_len]
  · have hl : (xs.take m).length = m := by rw [List.length_take]; omega
    rcases q2 with ⟨e1, e2⟩ | ⟨g, cap, cur, e1, g1, g2, g3, g4, g5⟩
    · injection e1 with e1 e3 e4
      subst e1; subst e3; subst e4
      have : m = 0 := by omega
      subst this
      exact .inl ⟨rfl, hl⟩
    · injection e1 with e1 e3 e4
      subst e1; subst e4
      refine .inr ⟨g, c, cur, ?_, by omega, g2, g3, ?_, g5⟩
      · rw [hl]
        split <;> simp [ofs, Addr.add_lit]
      · rw [hl, Nat.mul_one]
        have e5 : (xs.take m).flatMap encI = (xs.flatMap encI).take m := by
          rw [flat_encI, flat_encI, List.map_take]
        rw [e5, ← g4, List.take_take]
        congr 1
        omega
/-- a start that runs on -/
def ext (taps start : List Int) : Nat → List Int
  | 0 => start
  | n + 1 => ext taps start n ++ [nx (ext taps start n) taps]
theorem ext_len (taps start : List Int) : ∀ n, (ext taps start n).length = start.length + n
  | 0 => rfl
  | n + 1 => by unfold ext; rw [List.length_append, ext_len taps start n]; simp; omega
theorem nx_01 (l taps : List Int) : nx l taps = 0 ∨ nx l taps = 1 := by unfold nx; omega
theorem ext_ok {taps start : List Int} (h : OkBs start) : ∀ n, OkBs (ext taps start n)
  | 0 => h
  | n + 1 => fun x hx => by
    unfold ext at hx
    rcases List.mem_append.1 hx with g | g
    · exact ext_ok h n x g
    · rw [List.mem_singleton] at g; subst g; exact nx_01 _ _
theorem ext_get {taps start : List Int} {n i : Nat} (hi : i < start.length + n) : ∀ m, n ≤ m → bt (ext taps start m) i = bt (ext taps start n) i
  | 0, h => by obtain rfl : n = 0 := (by omega); rfl
  | m + 1, h => by
    rcases Nat.lt_or_ge m n with g | g
    · obtain rfl : n = m + 1 := (by omega); rfl
    · rw [← ext_get hi m g]
      unfold bt
      rw [ext, List.getD_eq_getElem?_getD, List.getElem?_append_left (by rw [ext_len]; omega), ← List.getD_eq_getElem?_getD]
/-- the first bits of a register that runs on -/
def runL (taps start : List Int) (n : Nat) : List Int := (ext taps start (n - start.length)).take n
def runE (taps start : List Int) (many : Int) : Int := if chkS taps start ≠ 0 then chkS taps start else if many < 0 then 2 else if 4096 < many then 6 else 0
theorem runE_a {taps start : List Int} {many : Int} (h : chkS taps start ≠ 0) : runE taps start many = chkS taps start := if_pos h
theorem runE_b {taps start : List Int} {many : Int} (h : chkS taps start = 0) (h2 : many < 0) : runE taps start many = 2 := by unfold runE; rw [if_neg (by omega), if_pos h2]
theorem runE_c {taps start : List Int} {many : Int} (h : chkS taps start = 0) (h2 : 4096 < many) : runE taps start many = 6 := by unfold runE; rw [if_neg (by omega), if_neg (by omega), if_pos h2]
theorem runE_0 {taps start : List Int} {many : Int} : runE taps start many = 0 ↔ chkS taps start = 0 ∧ 0 ≤ many ∧ many ≤ 4096 := by
  unfold runE
  split
  · omega
  · split
    · omega
    · split <;> omega
theorem ext_more {taps start : List Int} {n : Nat} : ext taps start (n + 1) = ext taps start n ++ [nx (ext taps start n) taps] := rfl
theorem nilX : ∀ h, sat ([] : List HP) h → sat [OwE encI 3 1 (.slice none 0 0) []] h := fun h hs => owNil (enc := encI) (e := 3) (sz := 1) h hs
theorem ref_Run (w : World) (v u : Value) (taps start : List Int) (many : Int) (hR : RdF encI 1 w.heap.size w v taps) (hU : RdF encI 1 w.heap.size w u start) : Ct Try.prog 32 [v, u, .int .i64 many].toArray w fun r w' => ∃ Hq, (∃ x : Value, r = .tuple #[x, .int .i64 (runE taps start many)] ∧ Hq = [OwE encI 3 1 x (if runE taps start many = 0 then runL taps start many.toNat else [])]) ∧ Inv w [] Hq w' := by
  refine Ct.ofI mixed tyTab Try.func32 rfl rfl ?_
  replace hR : RdF encI 1 (fnCx mixed tyTab Try.f32.ntmps w).B (fnCx mixed tyTab Try.f32.ntmps w).w0 v taps := hR
  replace hU : RdF encI 1 (fnCx mixed tyTab Try.f32.ntmps w).B (fnCx mixed tyTab Try.f32.ntmps w).w0 u start := hU
  refine W.sreg ?_
  refine WO.p rfl rfl (WO.p rfl rfl ?_)
  refine WO.nil ?_
  refine W.seq ?_
  refine W.sreg ?_
  refine WO.p rfl rfl (WO.p rfl rfl ?_)
  refine WO.callR rfl Try.call48 (fun L w hi => ref_started w v u taps start (hR.later hi) (hU.later hi)) rfl ?_
  refine WO.p rfl rfl ?_
  refine WO.nil ?_
  refine W.cond_bl rfl (fun c1 => ?_) (fun c1 => ?_)
  · first
    | (exfalso; omega)
    | (refine W.sreg ?_
       refine WO.p rfl rfl (WO.p rfl rfl ?_)
       refine WO.callR rfl Try.call48 (fun L w hi => ref_started w v u taps start (hR.later hi) (hU.later hi)) rfl ?_
       refine WO.p rfl rfl (WO.p rfl rfl ?_)
       refine WO.nil ?_
       refine W.ret ?_
       refine fin.ret (Res.two rfl (RV.tmp rfl) (RV.tmp rfl)) ?_
       first | (have q := hn1; have h0 : runE taps start many = 0 := runE_0.2 ⟨(by omega), (by omega), (by omega)⟩; refine ⟨_, by rw [h0], fun h hs => ?_⟩; rw [if_pos h0]; unfold runL; rw [show many.toNat - start.length = n by omega]; exact Sub.sat (.cons .head .nil) hs) | (have h0 := runE_a (many := many) (by assumption : chkS taps start ≠ 0); refine ⟨.slice none 0 0, by rw [h0], fun h hs => ?_⟩; rw [h0, if_neg (by assumption)]; exact Sub.sat (.cons .head .nil) (owNil (enc := encI) (e := 3) (sz := 1) h hs)) | (have h0 := runE_b (show chkS taps start = 0 by omega) (by assumption : many < 0); refine ⟨.slice none 0 0, by rw [h0], fun h hs => ?_⟩; rw [h0, if_neg (by decide)]; exact Sub.sat (.cons .head .nil) (owNil (enc := encI) (e := 3) (sz := 1) h hs)) | (have h0 := runE_c (show chkS taps start = 0 by omega) (by assumption : 4096 < many); refine ⟨.slice none 0 0, by rw [h0], fun h hs => ?_⟩; rw [h0, if_neg (by decide)]; exact Sub.sat (.cons .head .nil) (owNil (enc := encI) (e := 3) (sz := 1) h hs)))
  · first
    | (exfalso; omega)
    | (refine W.skip ?_
       refine W.seq ?_
       refine W.sreg ?_
       refine WO.p rfl rfl (WO.p rfl rfl ?_)
       refine WO.nil ?_
       refine W.cond_bl rfl (fun c2 => ?_) (fun c2 => ?_)
       · first
         | (exfalso; omega)
         | (refine W.sreg ?_
            refine WO.p rfl rfl (WO.p rfl rfl ?_)
            refine WO.nil ?_
            refine W.ret ?_
            refine fin.ret (Res.two rfl (RV.tmp rfl) (RV.tmp rfl)) ?_
            first | (have q := hn1; have h0 : runE taps start many = 0 := runE_0.2 ⟨(by omega), (by omega), (by omega)⟩; refine ⟨_, by rw [h0], fun h hs => ?_⟩; rw [if_pos h0]; unfold runL; rw [show many.toNat - start.length = n by omega]; exact Sub.sat (.cons .head .nil) hs) | (have h0 := runE_a (many := many) (by assumption : chkS taps start ≠ 0); refine ⟨.slice none 0 0, by rw [h0], fun h hs => ?_⟩; rw [h0, if_neg (by assumption)]; exact Sub.sat (.cons .head .nil) (owNil (enc := encI) (e := 3) (sz := 1) h hs)) | (have h0 := runE_b (show chkS taps start = 0 by omega) (by assumption : many < 0); refine ⟨.slice none 0 0, by rw [h0], fun h hs => ?_⟩; rw [h0, if_neg (by decide)]; exact Sub.sat (.cons .head .nil) (owNil (enc := encI) (e := 3) (sz := 1) h hs)) | (have h0 := runE_c (show chkS taps start = 0 by omega) (by assumption : 4096 < many); refine ⟨.slice none 0 0, by rw [h0], fun h hs => ?_⟩; rw [h0, if_neg (by decide)]; exact Sub.sat (.cons .head .nil) (owNil (enc := encI) (e := 3) (sz := 1) h hs)))
       · first
         | (exfalso; omega)
         | (refine W.skip ?_
            refine W.seq ?_
            refine W.sreg ?_
            refine WO.p rfl rfl (WO.p rfl rfl ?_)
            refine WO.nil ?_
            refine W.cond_bl rfl (fun c3 => ?_) (fun c3 => ?_)
            · first
              | (exfalso; omega)
              | (refine W.sreg ?_
                 refine WO.p rfl rfl (WO.p rfl rfl ?_)
                 refine WO.nil ?_
                 refine W.ret ?_
                 refine fin.ret (Res.two rfl (RV.tmp rfl) (RV.tmp rfl)) ?_
                 first | (have q := hn1; have h0 : runE taps start many = 0 := runE_0.2 ⟨(by omega), (by omega), (by omega)⟩; refine ⟨_, by rw [h0], fun h hs => ?_⟩; rw [if_pos h0]; unfold runL; rw [show many.toNat - start.length = n by omega]; exact Sub.sat (.cons .head .nil) hs) | (have h0 := runE_a (many := many) (by assumption : chkS taps start ≠ 0); refine ⟨.slice none 0 0, by rw [h0], fun h hs => ?_⟩; rw [h0, if_neg (by assumption)]; exact Sub.sat (.cons .head .nil) (owNil (enc := encI) (e := 3) (sz := 1) h hs)) | (have h0 := runE_b (show chkS taps start = 0 by omega) (by assumption : many < 0); refine ⟨.slice none 0 0, by rw [h0], fun h hs => ?_⟩; rw [h0, if_neg (by decide)]; exact Sub.sat (.cons .head .nil) (owNil (enc := encI) (e := 3) (sz := 1) h hs)) | (have h0 := runE_c (show chkS taps start = 0 by omega) (by assumption : 4096 < many); refine ⟨.slice none 0 0, by rw [h0], fun h hs => ?_⟩; rw [h0, if_neg (by decide)]; exact Sub.sat (.cons .head .nil) (owNil (enc := encI) (e := 3) (sz := 1) h hs)))
            · first
              | (exfalso; omega)
              | (refine W.skip ?_
                 have hok := chkS0.1 (show chkS taps start = 0 by omega)
                 have h1 := chkB0.1 hok.1.1
                 have h2 := chkB0.1 hok.1.2
                 have hm : ((many.toNat : Nat) : Int) = many := by omega
                 refine W.sreg ?_
                 refine WO.buildSl0 rfl rfl (fun b0 => ?_)
                 refine WO.p rfl rfl ?_
                 refine WO.appendEZ (enc := encI) (m := start.length) (xs := []) (ys := start) encI_ok rfl rfl rfl rfl rfl (by repeat (first | exact Pick.head | apply Pick.tail)) hU.sl rfl (hU.flat encI_ok) (by simp only [List.length_nil]; omega) (by simp only [List.length_nil]; omega) rfl (fun v1 => ?_)
                 refine WO.p rfl rfl ?_
                 refine WO.nil ?_
                 refine W.seq ?_
                 refine W.block ?_
                 refine W.loop2 (fun (n : Nat) (x : Value) => n ≤ 4096 ∧ (0 < n → ((start.length + n : Nat) : Int) ≤ many))
                   (fun (n : Nat) (x : Value) => [(8, x), (0, v), (2, .int .i64 many)])
                   (fun (n : Nat) (x : Value) => [OwE encI 3 1 x (ext taps start n)])
                   (fun (n : Nat) (x : Value) => 4096 - n) 0 _
                   (by exact ⟨by omega, by omega⟩) ⟨rfl, rfl, rfl, trivial⟩ (by repeat (first | exact Sub.nil | refine Sub.cons (by repeat (first | exact Pick.head | apply Pick.tail)) ?_)) ?_
                 rintro n x ⟨hn0, hn1⟩
                 have hln := ext_len taps start n
                 refine W.fact (OwE.sl (enc := encI) (e := 3) (sz := 1) (v := x) (xs := ext taps start n) (by repeat (first | exact Pick.head | apply Pick.tail))) ?_
                 intro hsl
                 refine W.seq ?_
                 refine W.sreg ?_
                 refine WO.p rfl rfl ?_
                 refine' WO.len (n := _) rfl rfl ?hs rfl ?_
                 case hs => (first | exact hsl)
                 refine WO.p rfl rfl (WO.p rfl rfl ?_)
                 refine WO.nil ?_
                 refine W.cond_bl rfl (fun c4 => ?_) (fun c4 => ?_)
                 · first
                   | (exfalso; omega)
                   | (refine W.skip ?_
                      refine W.block ?_
                      refine W.region ?_
                      refine WO.p rfl rfl (WO.p rfl rfl (WO.p rfl rfl ?_))
                      refine WO.callR (r := .int .i64 (nx (ext taps start n) taps)) rfl Try.call51 (fun L w hi => ref_next w _ _ (ext taps start n) taps (RdF.of_ow (e := 3) encI_ok (by repeat (first | exact Pick.head | apply Pick.tail)) hi) (hR.later hi) (by rw [hln]; omega) (ext_ok h2.2 n) h1.2) rfl ?_
                      refine' WO.buildSl (cs := _) rfl rfl rfl rfl ?hf rfl rfl ?hl rfl (fun v1 => ?_)
                      case hf => (conv => lhs; simp [-List.getD_eq_getElem?_getD, fillL, vcl, wrl, TTab.pl?.lget']) <;> rfl
                      case hl => rfl
                      refine' WO.appendE (enc := encI) (m := 1) (xs := ext taps start n) (ys := [nx (ext taps start n) taps]) encI_ok rfl rfl rfl rfl rfl (by repeat (first | exact Pick.head | apply Pick.tail)) (isSl_lit (by omega) (fun _ => ⟨_, _, rfl⟩)) (by omega) rfl (OwC.cells (by repeat (first | exact Pick.head | apply Pick.tail))) (by rw [hln]; omega) (by rw [hln]; omega) rfl (fun g c => ?_)
                      rw [← ext_more]
                      refine WO.p rfl rfl ?_
                      refine WO.nil ?_
                      refine' ⟨n + 1, _, ?hp, ?hmu, ⟨rfl, rfl, rfl, trivial⟩, ?hS⟩
                      case hS => repeat (first | exact Sub.nil | refine Sub.cons (by repeat (first | exact Pick.head | apply Pick.tail)) ?_)
                      case hp => exact ⟨by omega, by omega⟩
                      case hmu => omega)
                 · first
                   | (exfalso; omega)
                   | (refine W.exit (blk_same ?_)
                      refine W.fact (p := HasCap x (ext taps start n).length) (fun L w hi => HasCap.of_ow (enc := encI) (e := 3) (sz := 1) (by repeat (first | exact Pick.head | apply Pick.tail)) hi) ?_
                      rintro ⟨xa, xc, rfl, hxc⟩
                      refine W.sreg ?_
                      refine WO.p rfl rfl (WO.p rfl rfl ?_)
                      refine WO.slSl (lo := 0) (hi := many.toNat) (mx := xc) rfl rfl bnd.no (bnd.atZ rfl hm.symm) bnd.no (by simp) (by omega) (by omega) (by omega) rfl ?_
                      refine WO.chg (OwE.firsts (m := many.toNat) (by repeat (first | exact Pick.head | apply Pick.tail)) (by omega)) ?_
                      refine WO.p rfl rfl (WO.p rfl rfl ?_)
                      refine WO.nil ?_
                      refine W.ret ?_
                      refine fin.ret (Res.two rfl (RV.tmp rfl) (RV.tmp rfl)) ?_
                      first | (have q := hn1; have h0 : runE taps start many = 0 := runE_0.2 ⟨(by omega), (by omega), (by omega)⟩; refine ⟨_, by rw [h0], fun h hs => ?_⟩; rw [if_pos h0]; unfold runL; rw [show many.toNat - start.length = n by omega]; exact Sub.sat (.cons .head .nil) hs) | (have h0 := runE_a (many := many) (by assumption : chkS taps start ≠ 0); refine ⟨.slice none 0 0, by rw [h0], fun h hs => ?_⟩; rw [h0, if_neg (by assumption)]; exact Sub.sat (.cons .head .nil) (owNil (enc := encI) (e := 3) (sz := 1) h hs)) | (have h0 := runE_b (show chkS taps start = 0 by omega) (by assumption : many < 0); refine ⟨.slice none 0 0, by rw [h0], fun h hs => ?_⟩; rw [h0, if_neg (by decide)]; exact Sub.sat (.cons .head .nil) (owNil (enc := encI) (e := 3) (sz := 1) h hs)) | (have h0 := runE_c (show chkS taps start = 0 by omega) (by assumption : 4096 < many); refine ⟨.slice none 0 0, by rw [h0], fun h hs => ?_⟩; rw [h0, if_neg (by decide)]; exact Sub.sat (.cons .head .nil) (owNil (enc := encI) (e := 3) (sz := 1) h hs))))))
end Go.Proofs.Ytingkbglkaojdaa
namespace Go.Proofs.Ytingkbglkaojdaa
open Go Go.TH Go.TH.Wv
attribute [local irreducible] W WO pt
set_option maxRecDepth 10000
set_option maxHeartbeats 1000000
theorem Iter.ofI {f : FuncId} {fn : Func} {c : Code} {vs : List Value} {w : World} {M : List Nat} {B : Nat} {Hit : List HP} {A A' : List HP} (hm : Try.prog.follows .mixedOrders = true) (tt : TTab Try.prog) (hB : B ≤ w.heap.size) (hM : ∀ b ∈ M, B ≤ b)
    (hf : Try.prog.funcs[f]? = some fn) (hb : fn.body = some c) (ha : Nat.ble vs.length fn.ntmps = true) (hi : TH.Inv w M (Hit ++ A) w)
    (h : W (itCx hm tt fn.ntmps w M B hB hM) c (fin (itCx hm tt fn.ntmps w M B hB hM) fn (fun _ H => ∀ h, sat H h → sat (Hit ++ [sat A']) h)) (enumE 0 vs) (Hit ++ [sat A])) : Ct Try.prog f vs.toArray w fun _ w' => TH.Inv w M (Hit ++ A') w' := by
  have h1 : TH.Inv w M (Hit ++ [sat A]) w := Inv.chg (L := Hit) (H := A ++ []) (by simpa using hi) sat_one
  refine (Ct.of_W (M := M) (Hp := Hit ++ [sat A]) (itCx hm tt fn.ntmps w M B hB hM) rfl rfl rfl hf hb rfl (by simpa [itCx] using Nat.ble_eq.mp ha) (fun t v hv => by
    have := lk_enumE vs 0 t v hv
    simpa using this.2) h h1).mono ?_
  rintro v w' ⟨Hq, s, hi'⟩
  have h2 : TH.Inv w M (Hit ++ (A' ++ [])) w' := Inv.chg (L := Hit) (Inv.chg (L := []) hi' s) sat_many
  simpa using h2
theorem run_copy_zero (w : World) (T e : TypeId) (ty : TypeId) (hu : Try.prog.underlying T = some (.slice e)) (sz : Nat) (hs : (Try.prog.info? e).map (·.size) = some sz) (a b : Option Addr) (c d : Nat) :
    (Builtin.copy_ #[T, T] ty #[.slice a 0 c, .slice b 0 d]).run Try.prog w = .ok (goInt 0) w := by
  have hl : ∀ (x : Addr), (loadCells x 0).run Try.prog w = .ok #[] w := fun x => by simpa using run_loadCells_list (P := Try.prog) w x [] (by simp)
  cases hq : Try.prog.info? e with
  | none => simp [hq] at hs
  | some i =>
    cases a <;> cases b <;> simp [Builtin.copy_, run_underlying hu, Builtin.lenOf, Builtin.firstCells, sizeOf, typeInfo, hq, hl, storeCells, goInt]
section
variable {C : Cx Try.prog} {E : Env} {H : List HP}
variable {ops : Array Oper} {K : KP} {rest : List Oper} {d : Nat} {ty : TypeId} {pos : String} {af : Array Edge} {x y : Operand} {T : TypeId}
/-- a copy of a whole list, that may be empty -/
theorem WO.copyIZ {e by' : Nat} {v u : Value} {xs ys : List Int} {H' : List HP} (hT : C.tt.sl? T = some (e, 1, by')) (hx : ev E x = some v) (hy : ev E y = some u) (p : Pick (OwE encI e 1 v xs) H H') (hS : IsSl u xs.length)
    (hl : ys.length = xs.length) (hc : Cells C H (base u) (ys.flatMap encI)) (hN : Nat.blt d C.N = true)
    (h : WO C ops rest K ((d, .int .i64 (xs.length : Int)) :: E) (OwE encI e 1 v ys :: H')) : WO C ops (⟨some d, .call ⟨.builtin .copy, #[x, y], #[T, T]⟩, ty, pos, af, none⟩ :: rest) K E H := by
  rcases Nat.eq_zero_or_pos xs.length with h0 | h0
  · obtain rfl : xs = [] := List.eq_nil_of_length_eq_zero h0
    obtain rfl : ys = [] := List.eq_nil_of_length_eq_zero (by simpa using hl)
    refine WO.step rfl rfl hN (XO.run (by simp) fun L a w hf hi => ?_)
    obtain ⟨_, a0, c0, rfl, _⟩ := hS
    have hi' := hi.pickL p
    obtain ⟨a1, c1, rfl⟩ := OwE.form (C := C) p L w hi
    have hr := run_copy_zero w T e ty (SlT.of hT).u 1 (by simpa [szv] using (SlT.of hT).size) a1 a0 c1 c0
    refine ⟨_, w, _, .inl ?_, h, hi'⟩
    simp only [execOp, resolve, hf.eval hx, hf.eval hy]
    simp [hf.eval hx, hf.eval hy, Deferred.ofValue, invoke, builtin, hr, goInt]
  · exact WO.copyE encI_ok hT hx hy p hS h0 hl hc hN h
end
theorem c_newRegister (w : World) (v u : Value) (taps start : List Int) (hR : RdF encI 1 w.heap.size w v taps) (hU : RdF encI 1 w.heap.size w u start) (hl : start.length ≤ 1000) : Ct Try.prog 52 [v, u].toArray w fun r w' => ∃ Hq, (∃ X : Nat × Nat, r = .pointer (some ⟨X.1, 0, none⟩) ∧ Hq = [pt X.1 (.cells #[v, .slice (some ⟨X.2, 0, none⟩) start.length start.length] 90 (0, 0)), OwE encI 3 1 (.slice (some ⟨X.2, 0, none⟩) start.length start.length) start]) ∧ Inv w [] Hq w' := by
  obtain ⟨hle, va, vc, hve, _⟩ := id hR.sl
  subst hve
  refine Ct.ofI mixed tyTab Try.func52 rfl rfl ?_
  replace hR : RdF encI 1 (fnCx mixed tyTab Try.f52.ntmps w).B (fnCx mixed tyTab Try.f52.ntmps w).w0 (.slice va taps.length vc) taps := hR
  replace hU : RdF encI 1 (fnCx mixed tyTab Try.f52.ntmps w).B (fnCx mixed tyTab Try.f52.ntmps w).w0 u start := hU
  refine W.sreg ?_
  refine WO.p rfl rfl ?_
  refine WO.nil ?_
  refine W.sreg ?_
  refine WO.p rfl rfl (WO.p rfl rfl ?_)
  refine' WO.len (n := _) rfl rfl ?hs rfl ?_
  case hs => (first | exact hU.sl)
  refine WO.makeI rfl rfl rfl rfl (by omega) (by omega) rfl (fun nb => ?_)
  refine' WO.build (cs := _) rfl rfl rfl ?hf rfl ?_
  case hf => (conv => lhs; simp [-List.getD_eq_getElem?_getD, fillL, vcl, wrl, TTab.pl?.lget']) <;> rfl
  refine WO.boxA rfl rfl (fun b1 hb1 => ?_)
  refine WO.p rfl rfl ?_
  refine WO.nil ?_
  refine W.sreg ?_
  refine WO.p rfl rfl (WO.p rfl rfl (WO.fieldL rfl rfl rfl (WO.load rfl rfl (Cell.own Pick.head rfl) rfl (WO.p rfl rfl ?_))))
  refine WO.copyIZ (xs := List.replicate start.length 0) (ys := start) rfl rfl rfl (by repeat (first | exact Pick.head | apply Pick.tail)) (by rw [List.length_replicate]; exact hU.sl) (by rw [List.length_replicate]) (hU.flat encI_ok) rfl ?_
  refine WO.nil ?_
  refine W.sreg ?_
  refine WO.p rfl rfl (WO.p rfl rfl ?_)
  refine WO.nil ?_
  refine W.ret ?_
  refine fin.ret (Res.one rfl (RV.tmp rfl)) ⟨(b1, nb), rfl, fun h hs => ?_⟩
  exact Sub.sat (by repeat (first | exact Sub.nil | refine Sub.cons (by repeat (first | exact Pick.head | apply Pick.tail)) ?_)) hs
theorem c_bits (w : World) (p : Addr) : Ct Try.prog 53 [.pointer (some p)].toArray w fun r w' => ∃ Hq, (∃ b : Nat, r = .func (.func 66) #[] #[.pointer (some ⟨b, 0, none⟩)] ∧ Hq = [pt b (.cells #[.pointer (some p)] 74 (0, 0))]) ∧ Inv w [] Hq w' := by
  refine Ct.ofI mixed tyTab Try.func53 rfl rfl ?_
  refine W.sreg ?_
  refine WO.box1 rfl (by first | rfl | assumption) rfl (fun b1 hb1 => ?_)
  refine WO.p rfl rfl ?_
  refine WO.nil ?_
  refine W.sreg ?_
  refine WO.p rfl rfl (WO.p rfl rfl ?_)
  refine WO.nil ?_
  refine W.ret ?_
  exact fin.ret (Res.one rfl (RV.tmp rfl)) ⟨b1, rfl, fun h hs => hs⟩
end Go.Proofs.Ytingkbglkaojdaa
namespace Go.Proofs.Ytingkbglkaojdaa
open Go Go.TH Go.TH.Wv
attribute [local irreducible] W WO pt
set_option maxRecDepth 10000
set_option maxHeartbeats 1000000
/-- the bit that comes at k, and the bits before the next one -/
def rb (taps start : List Int) (k : Nat) : Int := bt (ext taps start (k + 1)) k
def winL (taps start : List Int) (k : Nat) : List Int := (ext taps start k).drop k
theorem win_len (taps start : List Int) (k : Nat) : (winL taps start k).length = start.length := by unfold winL; rw [List.length_drop, ext_len]; omega
theorem win_get (taps start : List Int) (k i : Nat) : bt (winL taps start k) i = bt (ext taps start k) (k + i) := by
  unfold bt winL
  simp only [List.getD_eq_getElem?_getD, List.getElem?_drop]
theorem win_ok {taps start : List Int} (h : OkBs start) (k : Nat) : OkBs (winL taps start k) := fun x hx => ext_ok h k x (List.mem_of_mem_drop hx)
theorem rb_win {taps start : List Int} {k : Nat} (h : 0 < start.length) : (winL taps start k).getD 0 0 = rb taps start k := by
  show bt _ 0 = _
  rw [win_get]
  unfold rb
  exact (ext_get (by omega) (k + 1) (by omega)).symm
theorem nx_win {taps start : List Int} (h : start.length = taps.length) (k : Nat) : sm taps.length (fun j => bt taps j * bt (winL taps start k) (taps.length - 1 - j)) % 2 = nx (ext taps start k) taps := by
  unfold nx pre
  refine congrArg (· % 2) (sm_congr fun j hj => ?_)
  rw [win_get, ext_len, show k + (taps.length - 1 - j) = start.length + k - 1 - j by omega]
theorem rb_nil {taps start : List Int} {k : Nat} (h : start.length = 0) : nx (ext taps start k) taps = rb taps start k := by
  unfold rb bt
  rw [ext_more, List.getD_eq_getElem?_getD, List.getElem?_append_right (by rw [ext_len]; omega), ext_len, h]
  simp
theorem win_next (taps start : List Int) (k : Nat) : ((winL taps start k).flatMap encI ++ [Value.int .i64 (nx (ext taps start k) taps)]).drop 1 = (winL taps start (k + 1)).flatMap encI := by
  have h1 : (ext taps start k ++ [nx (ext taps start k) taps]).drop k = (ext taps start k).drop k ++ [nx (ext taps start k) taps] := List.drop_append_of_le_length (by rw [ext_len]; omega)
  have e : (winL taps start k ++ [nx (ext taps start k) taps]).drop 1 = winL taps start (k + 1) := by
    unfold winL
    rw [ext_more, ← h1, List.drop_drop]
  rw [← e, flat_encI, flat_encI, List.map_drop, List.map_append]
  rfl
theorem runL_map (taps start : List Int) (n : Nat) : runL taps start n = (List.range n).map (rb taps start) := by
  have hlen : (runL taps start n).length = n := by unfold runL; rw [List.length_take, ext_len]; omega
  refine ext_getD 0 (by rw [hlen]; simp) fun i hi => ?_
  rw [hlen] at hi
  rw [mapR_get 0 hi]
  show bt _ i = _
  unfold runL
  rw [bt_take hi]
  unfold rb
  rcases Nat.le_total (n - start.length) (i + 1) with g | g
  · exact (ext_get (by omega) _ g).symm
  · exact ext_get (by omega) _ g
/-- the value is a number, and nothing more -/
def gI (x : Int) (v : Value) : HP := fun _ => v = .int .i64 x
theorem gI_in {x y : Int} (h : y = x) {H : List HP} : ∀ h, sat H h → sat (gI x (.int .i64 y) :: H) h := fun h' hs => ⟨fun _ => none, h', split_none h', by subst h; rfl, hs⟩
theorem gI_val {C : Cx Try.prog} {H : List HP} {x : Int} {v : Value} (s : Sub H [gI x v]) : ∀ (L : List HP) w, TH.Inv C.w0 C.M (L ++ H) w → v = .int .i64 x := fun L w hi => by
  cases s with
  | cons p _ =>
    obtain ⟨_, h⟩ := (hi.pickL p).piece
    exact h
theorem bits_get {taps start : List Int} {k many : Nat} (h : k ≤ many) : ((List.range (many + 1)).map (rb taps start))[k]? = some (rb taps start k) := by rw [List.getElem?_map, List.getElem?_range (by omega)]; rfl
theorem cellNow {C : Cx Try.prog} {H : List HP} {nb i : Nat} {v : Value} {taps start : List Int} {k : Nat} (s : Sub H [NowP 3 nb start.length (start.flatMap encI) v ((winL taps start k).flatMap encI)]) (hi : i < start.length) : Cell C H (elt v i 1) (.int .i64 (bt (winL taps start k) i)) := by
  cases s with
  | cons p _ =>
    have h1 : i < ((winL taps start k).flatMap encI).length := by rw [flat_encI, List.length_map, win_len]; exact hi
    have := NowP.cell (C := C) p h1
    have e : ((winL taps start k).flatMap encI).getD i undef = .int .i64 (bt (winL taps start k) i) := by
      have h2 : i < (winL taps start k).length := by rw [win_len]; exact hi
      rw [flat_encI]; unfold bt; simp [h2]
    rwa [e] at this
theorem x3_step {a c : Int} : (a % 2 + c) % 2 = (a + c) % 2 := by omega
theorem c_bits1 (B : Nat) (wr : World) (tv : Value) (taps start : List Int) (hR0 : RdF encI 1 B wr tv taps) (ht : OkBs taps) (hs : OkBs start) (hl : start.length = taps.length) (h128 : taps.length ≤ 128) (many : Nat) (l : Nat) (Hc : Nat → List HP)
    (hy : ∀ k x v, ((List.range (many + 1)).map (rb taps start))[k]? = some x → k ≤ many → YieldB Try.prog B wr l #[v] (bl (k < many)) (gI x v :: Hc k) (Hc (k + 1))) (cb b2 nb : Nat) (w : World) (M' : List Nat) (hB : B ≤ w.heap.size) (hk : ∀ k, k < B → w.heap[k]? = wr.heap[k]?) (hM : ∀ b ∈ M', B ≤ b)
    (hi : TH.Inv w M' ([pt cb (.cells #[.pointer (some ⟨b2, 0, none⟩)] 74 (0, 0)), pt b2 (.cells #[tv, .slice (some ⟨nb, 0, none⟩) start.length start.length] 90 (0, 0)), OwE encI 3 1 (.slice (some ⟨nb, 0, none⟩) start.length start.length) start] ++ Hc 0) w) :
    Ct Try.prog 66 ([.func (.yield l) #[] #[], .pointer (some ⟨cb, 0, none⟩)] : List Value).toArray w fun _ w' => TH.Inv w M' ([pt cb (.cells #[.pointer (some ⟨b2, 0, none⟩)] 74 (0, 0)), pt b2 (.cells #[tv, .slice (some ⟨nb, 0, none⟩) start.length start.length] 90 (0, 0)), OwE encI 3 1 (.slice (some ⟨nb, 0, none⟩) start.length start.length) start] ++ Hc (min ((List.range (many + 1)).map (rb taps start)).length (many + 1))) w' := by
  have hR := hR0.agree hk
  refine Iter.ofI mixed tyTab hB hM Try.func66 rfl rfl hi ?_
  replace hR : RdF encI 1 (itCx mixed tyTab Try.f66.ntmps w M' B hB hM).B (itCx mixed tyTab Try.f66.ntmps w M' B hB hM).w0 tv taps := hR
  refine W.sreg ?_
  refine WO.load rfl rfl (Cell.own Pick.head rfl) rfl (WO.p rfl rfl (WO.fieldL rfl rfl rfl (WO.load rfl rfl (Cell.own (Pick.tail (Pick.head)) rfl) rfl (WO.p rfl rfl ?_))))
  refine WO.nil ?_
  refine W.block ?_
  refine W.chg (NowP.start (e := 3) (b := nb) (n := start.length) (ss := start.flatMap encI) (by repeat (first | exact Pick.head | apply Pick.tail))) ?_
  refine W.loop2 (fun (k : Nat) (v : Value) => k ≤ many)
    (fun (k : Nat) (v : Value) => [(3, v), (0, .func (.yield l) #[] #[]), (1, .pointer (some ⟨cb, 0, none⟩))])
    (fun (k : Nat) (v : Value) => [pt cb (.cells #[.pointer (some ⟨b2, 0, none⟩)] 74 (0, 0)), pt b2 (.cells #[tv, .slice (some ⟨nb, 0, none⟩) start.length start.length] 90 (0, 0)), NowP 3 nb start.length (start.flatMap encI) v ((winL taps start k).flatMap encI), sat (Hc k)])
    (fun (k : Nat) (v : Value) => many - k) 0 _
    (by omega) ⟨rfl, rfl, rfl, trivial⟩ (by repeat (first | exact Sub.nil | refine Sub.cons (by repeat (first | exact Pick.head | apply Pick.tail)) ?_)) ?_
  rintro k v hk0
  refine W.fact (p := IsSl v start.length) (fun L w hi => (NowP.len (by repeat (first | exact Pick.head | apply Pick.tail)) L w hi).2) ?_
  intro hnl
  have hwin := win_ok (taps := taps) hs k
  have hget := bits_get (taps := taps) (start := start) hk0
  refine W.block ?_
  refine W.sreg ?_
  refine WO.p rfl rfl ?_
  refine WO.nil ?_
  refine W.seq ?_
  refine W.sreg ?_
  refine WO.load rfl rfl (Cell.own Pick.head rfl) rfl (WO.p rfl rfl (WO.field0 rfl rfl rfl (WO.load rfl rfl (Cell.own (Pick.tail (Pick.head)) rfl) rfl ?_)))
  refine' WO.len (n := _) rfl rfl ?hs rfl ?_
  case hs => (first | exact hR.sl)
  refine WO.p rfl rfl ?_
  refine WO.nil ?_
  refine W.block ?_
  refine W.loop2 (fun (i : Nat) (n : Int) => i ≤ taps.length ∧ n = sm i (fun j => bt taps j * bt (winL taps start k) (taps.length - 1 - j)) % 2)
    (fun (i : Nat) (n : Int) => [(17, .int .i64 (i : Int)), (16, .int .i64 (taps.length : Int)), (15, tv), (4, .int .i64 n), (3, v), (0, .func (.yield l) #[] #[]), (1, .pointer (some ⟨cb, 0, none⟩))])
    (fun (i : Nat) (n : Int) => [pt cb (.cells #[.pointer (some ⟨b2, 0, none⟩)] 74 (0, 0)), pt b2 (.cells #[tv, .slice (some ⟨nb, 0, none⟩) start.length start.length] 90 (0, 0)), NowP 3 nb start.length (start.flatMap encI) v ((winL taps start k).flatMap encI), sat (Hc k)])
    (fun (i : Nat) (n : Int) => taps.length - i) 0 0
    (by exact ⟨by omega, rfl⟩) ⟨rfl, rfl, rfl, rfl, rfl, rfl, rfl, trivial⟩ (by repeat (first | exact Sub.nil | refine Sub.cons (by repeat (first | exact Pick.head | apply Pick.tail)) ?_)) ?_
  rintro i n ⟨hi0, hn0⟩
  refine W.sreg ?_
  refine WO.p rfl rfl ?_
  refine WO.nil ?_
  refine W.seq ?_
  refine W.cond_bl rfl (fun c1 => ?_) (fun c1 => ?_)
  · first
    | (exfalso; omega)
    | (refine W.skip ?_
       refine W.seq ?_
       refine W.block ?_
       refine W.sreg ?_
       refine WO.p rfl rfl ?_
       refine' WO.indexAddr (n := _) (i := _) rfl rfl rfl ?hs ?h1 rfl ?_
       case hs => (first | exact hR.sl)
       case h1 => (first | omega | (simp; omega))
       refine' WO.load (v := _) rfl rfl ?hc rfl ?_
       case hc => (first | (refine hR.cell0 (i := i) ?_ 0 ?_ <;> first | rfl | omega))
       refine WO.p rfl rfl (WO.p rfl rfl ?_)
       refine WO.nil ?_
       refine W.region ?_
       refine WO.p rfl rfl (WO.p rfl rfl (WO.p rfl rfl (WO.p rfl rfl ?_)))
       refine' WO.len (n := _) rfl rfl ?hs rfl ?_
       case hs => (first | exact hnl)
       refine WO.ar rfl rfl rfl (by (first | (unfold in64; omega) | (unfold in64; omega))) rfl (WO.p rfl rfl (WO.ar rfl rfl rfl (by (first | (unfold in64; omega) | (unfold in64; omega))) rfl ?_))
       refine' WO.indexAddrZ (n := _) rfl rfl rfl ?hs ?h00 ?h1 rfl ?_
       case hs => (first | exact hnl)
       case h00 => omega
       case h1 => (first | omega | (simp; omega))
       refine' WO.load (v := _) rfl rfl ?hc rfl ?_
       case hc => (first | (refine cellNow (nb := nb) (taps := taps) (start := start) (k := k) (i := ((start.length : Int) - 1 - (i : Int)).toNat) ?_ (by omega); repeat (first | exact Sub.nil | refine Sub.cons (by repeat (first | exact Pick.head | apply Pick.tail)) ?_)))
       refine WO.and01 rfl rfl (bt_ok ht i) (bt_ok hwin _) rfl ?_
       refine WO.xor01 rfl rfl (by omega) (mul01 (bt_ok ht i) (bt_ok hwin _)) rfl ?_
       refine WO.p rfl rfl ?_
       refine WO.nil ?_
       refine W.region ?_
       refine WO.ar rfl rfl rfl (by (first | (unfold in64; omega) | (unfold in64; omega))) rfl (WO.p rfl rfl ?_)
       refine WO.nil ?_
       refine' ⟨i + 1, _, ?hp, ?hmu, ⟨rfl, rfl, rfl, rfl, rfl, rfl, rfl, trivial⟩, ?hS⟩
       case hS => repeat (first | exact Sub.nil | refine Sub.cons (by repeat (first | exact Pick.head | apply Pick.tail)) ?_)
       case hp => exact ⟨by omega, by rw [hn0]; show _ = (sm i (fun j => bt taps j * bt (winL taps start k) (taps.length - 1 - j)) + bt taps i * bt (winL taps start k) (taps.length - 1 - i)) % 2; rw [show ((start.length : Int) - 1 - (i : Int)).toNat = taps.length - 1 - i by omega]; exact x3_step⟩
       case hmu => omega)
  · first
    | (exfalso; omega)
    | (refine W.exit (blk_same ?_)
       obtain rfl : i = taps.length := by omega
       rw [nx_win hl] at hn0
       subst hn0
       refine W.sreg ?_
       refine WO.p rfl rfl (WO.p rfl rfl ?_)
       refine WO.nil ?_
       refine W.seq ?_
       refine W.sreg ?_
       refine WO.p rfl rfl ?_
       refine' WO.len (n := _) rfl rfl ?hs rfl ?_
       case hs => (first | exact hnl)
       refine WO.p rfl rfl ?_
       refine WO.nil ?_
       refine W.cond_bl rfl (fun c2 => ?_) (fun c2 => ?_)
       · first
         | (exfalso; omega)
         | (refine W.region ?_
            refine WO.p rfl rfl ?_
            refine' WO.indexAddr (n := _) (i := 0) rfl rfl rfl ?hs ?h1 rfl ?_
            case hs => (first | exact hnl)
            case h1 => (first | omega | (simp; omega))
            refine' WO.load (v := _) rfl rfl ?hc rfl ?_
            case hc => (first | (refine cellNow (nb := nb) (taps := taps) (start := start) (k := k) (i := 0) ?_ (by omega); repeat (first | exact Sub.nil | refine Sub.cons (by repeat (first | exact Pick.head | apply Pick.tail)) ?_)))
            refine WO.p rfl rfl ?_
            refine WO.nil ?_
            refine W.seq ?_
            refine W.sreg ?_
            refine WO.p rfl rfl (WO.p rfl rfl ?_)
            first | refine WO.chg (gI_in (rb_win (taps := taps) (start := start) (k := k) (by omega))) ?_ | refine WO.chg (gI_in (rb_nil (taps := taps) (start := start) (k := k) (by omega))) ?_
            refine WO.yieldB (go := bl (k < many)) rfl rfl (by repeat (first | exact Pick.head | apply Pick.tail)) (by repeat (first | exact Pick.head | apply Pick.tail)) (((hy k _ _ hget hk0).one).agree hk) rfl ?_
            refine WO.p rfl rfl ?_
            refine WO.nil ?_
            refine W.cond_nbl rfl (fun c3 => ?_) (fun c3 => ?_)
            · first
              | (exfalso; omega)
              | (refine W.ret ?_
                 obtain rfl : k = many := by omega
                 refine fin.ret (Res.none rfl) ?_
                 rw [show min ((List.range (k + 1)).map (rb taps start)).length (k + 1) = k + 1 by simp]
                 exact fun h hs => Sub.sat (.cons (.tail (.tail .head)) (.cons (.tail (.tail .head)) (.cons .head (.cons .head .nil)))) (NowP.stop (e := 3) (b := nb) (n := start.length) (ss := start.flatMap encI) (.tail (.tail (.tail .head))) h hs))
            · first
              | (exfalso; omega)
              | (refine W.skip ?_
                 refine W.region ?_
                 refine WO.p rfl rfl (WO.p rfl rfl ?_)
                 refine' WO.buildSl (cs := _) rfl rfl rfl rfl ?hf rfl rfl ?hl rfl (fun v1 => ?_)
                 case hf => (conv => lhs; simp [-List.getD_eq_getElem?_getD, fillL, vcl, wrl, TTab.pl?.lget']) <;> rfl
                 case hl => rfl
                 refine WO.appendNow (ss := start.flatMap encI) (cs := (winL taps start k).flatMap encI) (n := start.length) (nu := .int .i64 (nx (ext taps start k) taps)) rfl rfl rfl rfl rfl (by repeat (first | exact Pick.head | apply Pick.tail)) (isSl_lit (by omega) (fun _ => ⟨_, _, rfl⟩)) (OwC.cells (by repeat (first | exact Pick.head | apply Pick.tail))) rfl (by omega) (by omega) rfl (fun g o c hc => ?_)
                 refine WO.slSl (lo := 1) (hi := start.length + 1) (mx := c) rfl rfl (bnd.at rfl) bnd.no bnd.no (by simp) (by omega) (by omega) (by omega) rfl ?_
                 refine WO.chg (NowP.next (by repeat (first | exact Pick.head | apply Pick.tail)) (by repeat (first | exact Pick.head | apply Pick.tail))) ?_
                 rw [win_next]
                 refine WO.p rfl rfl ?_
                 refine WO.nil ?_
                 refine' ⟨k + 1, _, ?hp, ?hmu, ⟨rfl, rfl, rfl, trivial⟩, ?hS⟩
                 case hS => repeat (first | exact Sub.nil | refine Sub.cons (by repeat (first | exact Pick.head | apply Pick.tail)) ?_)
                 case hp => omega
                 case hmu => omega))
       · first
         | (exfalso; omega)
         | (refine W.skip ?_
            refine W.seq ?_
            refine W.sreg ?_
            refine WO.p rfl rfl (WO.p rfl rfl ?_)
            first | refine WO.chg (gI_in (rb_win (taps := taps) (start := start) (k := k) (by omega))) ?_ | refine WO.chg (gI_in (rb_nil (taps := taps) (start := start) (k := k) (by omega))) ?_
            refine WO.yieldB (go := bl (k < many)) rfl rfl (by repeat (first | exact Pick.head | apply Pick.tail)) (by repeat (first | exact Pick.head | apply Pick.tail)) (((hy k _ _ hget hk0).one).agree hk) rfl ?_
            refine WO.p rfl rfl ?_
            refine WO.nil ?_
            refine W.cond_nbl rfl (fun c4 => ?_) (fun c4 => ?_)
            · first
              | (exfalso; omega)
              | (refine W.ret ?_
                 obtain rfl : k = many := by omega
                 refine fin.ret (Res.none rfl) ?_
                 rw [show min ((List.range (k + 1)).map (rb taps start)).length (k + 1) = k + 1 by simp]
                 exact fun h hs => Sub.sat (.cons (.tail (.tail .head)) (.cons (.tail (.tail .head)) (.cons .head (.cons .head .nil)))) (NowP.stop (e := 3) (b := nb) (n := start.length) (ss := start.flatMap encI) (.tail (.tail (.tail .head))) h hs))
            · first
              | (exfalso; omega)
              | (refine W.skip ?_
                 refine W.region ?_
                 refine WO.p rfl rfl (WO.p rfl rfl ?_)
                 refine' WO.buildSl (cs := _) rfl rfl rfl rfl ?hf rfl rfl ?hl rfl (fun v2 => ?_)
                 case hf => (conv => lhs; simp [-List.getD_eq_getElem?_getD, fillL, vcl, wrl, TTab.pl?.lget']) <;> rfl
                 case hl => rfl
                 refine WO.appendNow (ss := start.flatMap encI) (cs := (winL taps start k).flatMap encI) (n := start.length) (nu := .int .i64 (nx (ext taps start k) taps)) rfl rfl rfl rfl rfl (by repeat (first | exact Pick.head | apply Pick.tail)) (isSl_lit (by omega) (fun _ => ⟨_, _, rfl⟩)) (OwC.cells (by repeat (first | exact Pick.head | apply Pick.tail))) rfl (by omega) (by omega) rfl (fun g o c hc => ?_)
                 refine WO.slSl (lo := 1) (hi := start.length + 1) (mx := c) rfl rfl (bnd.at rfl) bnd.no bnd.no (by simp) (by omega) (by omega) (by omega) rfl ?_
                 refine WO.chg (NowP.next (by repeat (first | exact Pick.head | apply Pick.tail)) (by repeat (first | exact Pick.head | apply Pick.tail))) ?_
                 rw [win_next]
                 refine WO.p rfl rfl ?_
                 refine WO.nil ?_
                 refine' ⟨k + 1, _, ?hp, ?hmu, ⟨rfl, rfl, rfl, trivial⟩, ?hS⟩
                 case hS => repeat (first | exact Sub.nil | refine Sub.cons (by repeat (first | exact Pick.head | apply Pick.tail)) ?_)
                 case hp => omega
                 case hmu => omega)))
end Go.Proofs.Ytingkbglkaojdaa
namespace Go.Proofs.Ytingkbglkaojdaa
open Go Go.TH Go.TH.Wv
attribute [local irreducible] W WO pt
set_option maxRecDepth 10000
set_option maxHeartbeats 1000000
/-- numbers, in a variable -/
def OutP (b : Nat) (xs : List Int) : HP := fun h => ∃ (a : Option Addr) (c : Nat), sat [pt b (.cells #[.slice a xs.length c] 22 (0, 0)), OwE encI 3 1 (.slice a xs.length c) xs] h
theorem out_open {b n : Nat} {xs : List Int} {H H' : List HP} (p : Pick (OutP b xs) H H') (e : xs.length = n) : ∀ h, sat H h → ∃ x : Option Addr × Nat, True ∧ sat (pt b (.cells #[.slice x.1 n x.2] 22 (0, 0)) :: OwE encI 3 1 (.slice x.1 n x.2) xs :: H') h := fun h hs => by
  subst e
  obtain ⟨h1, h2, s, ⟨a, c, hp⟩, hr⟩ := p.sat hs
  exact ⟨(a, c), trivial, sat_join (H1 := [_, _]) s hp hr⟩
theorem out_pack {b n c : Nat} {a : Option Addr} {xs : List Int} {H Hr : List HP} (s : Sub H (pt b (.cells #[.slice a n c] 22 (0, 0)) :: OwE encI 3 1 (.slice a n c) xs :: Hr)) (e : xs.length = n) : ∀ h, sat H h → sat (OutP b xs :: Hr) h := fun h hs => by
  subst e
  obtain ⟨h1, h2, s2, hp, hr⟩ := sat_app (H1 := [_, _]) (s.sat hs)
  exact ⟨h1, h2, s2, ⟨a, c, hp⟩, hr⟩
theorem out_nil {b : Nat} {H H' : List HP} (p : Pick (pt b (.cells #[.slice none 0 0] 22 (0, 0))) H H') : ∀ h, sat H h → sat (OutP b [] :: H') h := fun h hs =>
  out_pack (xs := []) (.cons (.tail .head) (.cons .head (Sub.refl _))) rfl h (owNil (enc := encI) (e := 3) (sz := 1) h ((Sub.cons p (Sub.refl _)).sat hs))
theorem runK_succ {taps start : List Int} {k many : Nat} (h : k < many) : (List.range (min k many)).map (rb taps start) ++ [rb taps start k] = (List.range (min (k + 1) many)).map (rb taps start) := by
  rw [show min (k + 1) many = k + 1 by omega, show min k many = k by omega, List.range_succ, List.map_append]; rfl
theorem err_run {taps start : List Int} {many E : Int} {H : List HP} (h0 : runE taps start many = E) (hE : E ≠ 0) : ∃ x : Value, Value.tuple #[.slice none 0 0, .int .i64 E] = .tuple #[x, .int .i64 (runE taps start many)] ∧ ∀ h, sat H h → sat [OwE encI 3 1 x (if runE taps start many = 0 then runL taps start many.toNat else [])] h :=
  ⟨.slice none 0 0, by rw [h0], fun h hs => by rw [h0, if_neg hE]; exact Sub.sat (.cons .head .nil) (owNil (enc := encI) (e := 3) (sz := 1) h hs)⟩
theorem run_a {taps start : List Int} {many : Int} (h : chk2 taps start ≠ 0) : runE taps start many = chk2 taps start := by
  have hs : chkS taps start = chk2 taps start := if_pos h
  rw [runE_a (by rw [hs]; exact h), hs]
theorem run_l {taps start : List Int} {many : Int} (h : ¬ chk2 taps start ≠ 0) (h2 : start.length ≠ taps.length) : runE taps start many = 15 := by
  have hs : chkS taps start = 15 := by unfold chkS; rw [if_neg h, if_pos h2]
  rw [runE_a (by rw [hs]; decide), hs]
theorem c_Run (w : World) (v u : Value) (taps start : List Int) (many : Int) (hR : RdF encI 1 w.heap.size w v taps) (hU : RdF encI 1 w.heap.size w u start) : Ct Try.prog 31 [v, u, .int .i64 many].toArray w fun r w' => ∃ Hq, (∃ x : Value, r = .tuple #[x, .int .i64 (runE taps start many)] ∧ Hq = [OwE encI 3 1 x (if runE taps start many = 0 then runL taps start many.toNat else [])]) ∧ Inv w [] Hq w' := by
  refine Ct.ofI mixed tyTab Try.func31 rfl rfl ?_
  replace hR : RdF encI 1 (fnCx mixed tyTab Try.f31.ntmps w).B (fnCx mixed tyTab Try.f31.ntmps w).w0 v taps := hR
  replace hU : RdF encI 1 (fnCx mixed tyTab Try.f31.ntmps w).B (fnCx mixed tyTab Try.f31.ntmps w).w0 u start := hU
  obtain ⟨hle, va, vc, hve, _⟩ := id hR.sl
  subst hve
  obtain ⟨hlu, ua, uc, hue, _⟩ := id hU.sl
  subst hue
  refine W.sreg ?_
  refine WO.box1 rfl (by first | rfl | assumption) rfl (fun b1 hb1 => ?_)
  refine WO.p rfl rfl (WO.p rfl rfl ?_)
  refine WO.nil ?_
  refine W.sreg ?_
  refine WO.p rfl rfl (WO.p rfl rfl ?_)
  refine' WO.buildSl (cs := _) rfl rfl rfl rfl ?hf rfl rfl ?hl rfl (fun v2 => ?_)
  case hf => (conv => lhs; simp [-List.getD_eq_getElem?_getD, fillL, vcl, wrl, TTab.pl?.lget']) <;> rfl
  case hl => rfl
  refine WO.callR (r := .int .i64 (chk2 taps start)) rfl Try.call44 (fun L w hi => by rw [← chkAll_two]; exact c_checkAll w _ [.slice va taps.length vc, .slice ua start.length uc] [taps, start] (RdR.of_two (e' := 22) (a := .slice va taps.length vc) (b := .slice ua start.length uc) (xs := taps) (ys := start) (by repeat (first | exact Pick.head | apply Pick.tail)) hi (hR.later hi) (hU.later hi))) rfl ?_
  refine WO.p rfl rfl ?_
  refine WO.nil ?_
  refine W.seq ?_
  refine W.block ?_
  refine W.sreg ?_
  refine WO.p rfl rfl (WO.p rfl rfl (WO.p rfl rfl ?_))
  refine WO.nil ?_
  refine W.cond_bl rfl (fun c1 => ?_) (fun c1 => ?_)
  · first
    | (exfalso; omega)
    | (refine W.sreg ?_
       refine WO.p rfl rfl (WO.p rfl rfl (WO.p rfl rfl ?_))
       refine WO.nil ?_
       refine W.ret ?_
       refine fin.ret (Res.two rfl (RV.tmp rfl) (RV.tmp rfl)) ?_
       first | (have q := hm; have h0 : runE taps start many = 0 := runE_0.2 ⟨(by omega), (by omega), (by omega)⟩; refine ⟨_, by rw [h0], fun h hs => ?_⟩; rw [if_pos h0]; exact Sub.sat (.cons (.tail .head) .nil) hs) | exact err_run (run_a (by assumption)) (by assumption) | exact err_run (run_l (by assumption) (by omega)) (by decide) | exact err_run (runE_b (chkS0.2 ⟨chk20.1 (by omega), (by omega)⟩) (by assumption)) (by decide) | exact err_run (runE_c (chkS0.2 ⟨chk20.1 (by omega), (by omega)⟩) (by assumption)) (by decide))
  · first
    | (exfalso; omega)
    | (refine W.sreg ?_
       refine WO.p rfl rfl ?_
       refine' WO.len (n := _) rfl rfl ?hs rfl ?_
       case hs => (first | exact hU.sl)
       refine WO.p rfl rfl ?_
       refine' WO.len (n := _) rfl rfl ?hs rfl ?_
       case hs => (first | exact hR.sl)
       refine WO.p rfl rfl (WO.p rfl rfl ?_)
       refine WO.nil ?_
       refine W.cond_bl rfl (fun c2 => ?_) (fun c2 => ?_)
       · first
         | (exfalso; omega)
         | (refine W.sreg ?_
            refine WO.p rfl rfl (WO.p rfl rfl ?_)
            refine WO.nil ?_
            refine W.ret ?_
            refine fin.ret (Res.two rfl (RV.tmp rfl) (RV.tmp rfl)) ?_
            first | (have q := hm; have h0 : runE taps start many = 0 := runE_0.2 ⟨(by omega), (by omega), (by omega)⟩; refine ⟨_, by rw [h0], fun h hs => ?_⟩; rw [if_pos h0]; exact Sub.sat (.cons (.tail .head) .nil) hs) | exact err_run (run_a (by assumption)) (by assumption) | exact err_run (run_l (by assumption) (by omega)) (by decide) | exact err_run (runE_b (chkS0.2 ⟨chk20.1 (by omega), (by omega)⟩) (by assumption)) (by decide) | exact err_run (runE_c (chkS0.2 ⟨chk20.1 (by omega), (by omega)⟩) (by assumption)) (by decide))
       · first
         | (exfalso; omega)
         | (refine W.sreg ?_
            refine WO.load rfl rfl (Cell.own (Pick.tail (Pick.head)) rfl) rfl (WO.p rfl rfl (WO.p rfl rfl ?_))
            refine WO.nil ?_
            refine W.cond_bl rfl (fun c3 => ?_) (fun c3 => ?_)
            · first
              | (exfalso; omega)
              | (refine W.sreg ?_
                 refine WO.p rfl rfl (WO.p rfl rfl ?_)
                 refine WO.nil ?_
                 refine W.ret ?_
                 refine fin.ret (Res.two rfl (RV.tmp rfl) (RV.tmp rfl)) ?_
                 first | (have q := hm; have h0 : runE taps start many = 0 := runE_0.2 ⟨(by omega), (by omega), (by omega)⟩; refine ⟨_, by rw [h0], fun h hs => ?_⟩; rw [if_pos h0]; exact Sub.sat (.cons (.tail .head) .nil) hs) | exact err_run (run_a (by assumption)) (by assumption) | exact err_run (run_l (by assumption) (by omega)) (by decide) | exact err_run (runE_b (chkS0.2 ⟨chk20.1 (by omega), (by omega)⟩) (by assumption)) (by decide) | exact err_run (runE_c (chkS0.2 ⟨chk20.1 (by omega), (by omega)⟩) (by assumption)) (by decide))
            · first
              | (exfalso; omega)
              | (refine W.sreg ?_
                 refine WO.load rfl rfl (Cell.own (Pick.tail (Pick.head)) rfl) rfl (WO.p rfl rfl (WO.p rfl rfl ?_))
                 refine WO.nil ?_
                 refine W.cond_bl rfl (fun c4 => ?_) (fun c4 => ?_)
                 · first
                   | (exfalso; omega)
                   | (refine W.sreg ?_
                      refine WO.p rfl rfl (WO.p rfl rfl ?_)
                      refine WO.nil ?_
                      refine W.ret ?_
                      refine fin.ret (Res.two rfl (RV.tmp rfl) (RV.tmp rfl)) ?_
                      first | (have q := hm; have h0 : runE taps start many = 0 := runE_0.2 ⟨(by omega), (by omega), (by omega)⟩; refine ⟨_, by rw [h0], fun h hs => ?_⟩; rw [if_pos h0]; exact Sub.sat (.cons (.tail .head) .nil) hs) | exact err_run (run_a (by assumption)) (by assumption) | exact err_run (run_l (by assumption) (by omega)) (by decide) | exact err_run (runE_b (chkS0.2 ⟨chk20.1 (by omega), (by omega)⟩) (by assumption)) (by decide) | exact err_run (runE_c (chkS0.2 ⟨chk20.1 (by omega), (by omega)⟩) (by assumption)) (by decide))
                 · first
                   | (exfalso; omega)
                   | (refine W.skip ?_
                      have hok : chkS taps start = 0 := chkS0.2 ⟨chk20.1 (by omega), by omega⟩
                      have h1 := chkB0.1 (chkS0.1 hok).1.1
                      have h2 := chkB0.1 (chkS0.1 hok).1.2
                      have hln := (chkS0.1 hok).2
                      have hm : ((many.toNat : Nat) : Int) = many := by omega
                      refine W.sreg ?_
                      refine WO.alloc rfl rfl rfl (fun b3 hb3 => ?_)
                      refine WO.nil ?_
                      refine W.seq ?_
                      refine W.sreg ?_
                      refine WO.p rfl rfl (WO.p rfl rfl ?_)
                      refine WO.call (Post := fun r Hq => ∃ X : Nat × Nat, r = .pointer (some ⟨X.1, 0, none⟩) ∧ Hq = [pt X.1 (.cells #[.slice va taps.length vc, .slice (some ⟨X.2, 0, none⟩) start.length start.length] 90 (0, 0)), OwE encI 3 1 (.slice (some ⟨X.2, 0, none⟩) start.length start.length) start]) rfl Try.call52 (fun L w hi => c_newRegister w _ _ taps start (hR.later hi) (hU.later hi) (by omega)) rfl ?_
                      rintro _ _ ⟨⟨rg, nb⟩, rfl, rfl⟩
                      refine WO.call (Post := fun r Hq => ∃ b : Nat, r = .func (.func 66) #[] #[.pointer (some ⟨b, 0, none⟩)] ∧ Hq = [pt b (.cells #[.pointer (some ⟨rg, 0, none⟩)] 74 (0, 0))]) rfl Try.call53 (fun L w hi => c_bits w ⟨rg, 0, none⟩) rfl ?_
                      rintro _ _ ⟨cb, rfl, rfl⟩
                      refine WO.nil ?_
                      refine W.block ?_
                      refine W.chg (out_nil (b := b3) (by repeat (first | exact Pick.head | apply Pick.tail))) ?_
                      refine W.rangeFuncB (Jmp.exit 1) [pt cb (.cells #[.pointer (some ⟨rg, 0, none⟩)] 74 (0, 0)), pt rg (.cells #[.slice va taps.length vc, .slice (some ⟨nb, 0, none⟩) start.length start.length] 90 (0, 0)), OwE encI 3 1 (.slice (some ⟨nb, 0, none⟩) start.length start.length) start] (fun k => [OutP b3 ((List.range (min k many.toNat)).map (rb taps start)), pt b1 (.cells #[.int .i64 many] 3 (0, 0))]) ((List.range (many.toNat + 1)).map (rb taps start)) (gI) (many.toNat) rfl rfl rfl Try.call66 (by repeat (first | exact Sub.nil | refine Sub.cons (by repeat (first | exact Pick.head | apply Pick.tail)) ?_)) ?_ ?_ ?_ ?_
                      · intro ll Hc hy w1 M1 hB1 hk1 hM1 hi1
                        exact c_bits1 _ _ _ taps start hR h1.2 h2.2 hln h1.1 many.toNat ll Hc hy cb rg nb w1 M1 hB1 hk1 hM1 hi1
                      · intro ll w1 M1 hB1 hM1 hk1 k x1 v1 hx hle1
                        refine W.fact (gI_val (x := x1) (v := v1) (.cons .head .nil)) ?_
                        rintro rfl
                        obtain rfl : rb taps start k = x1 := by rw [bits_get hle1] at hx; exact Option.some.inj hx
                        have hlk : ((List.range (min k many.toNat)).map (rb taps start)).length = k := by simp; omega
                        refine W.chgE (out_open (by repeat (first | exact Pick.head | apply Pick.tail)) hlk) ?_
                        rintro ⟨oa, oc⟩ _
                        refine W.fact (OwE.sl (enc := encI) (e := 3) (sz := 1) (v := .slice oa k oc) (xs := (List.range (min k many.toNat)).map (rb taps start)) (.tail .head)) ?_
                        intro hsl
                        rw [hlk] at hsl
                        refine W.region ?_
                        refine WO.p rfl rfl ?_
                        refine WO.nil ?_
                        refine W.block ?_
                        refine W.seq ?_
                        refine W.sreg ?_
                        refine WO.load rfl rfl (Cell.own Pick.head rfl) rfl ?_
                        refine' WO.len (n := _) rfl rfl ?hs rfl ?_
                        case hs => (first | exact hsl)
                        refine WO.load rfl rfl (Cell.own (Pick.tail (Pick.tail (Pick.tail (Pick.head)))) rfl) rfl (WO.p rfl rfl ?_)
                        refine WO.nil ?_
                        refine W.cond_bl rfl (fun c5 => ?_) (fun c5 => ?_)
                        · first
                          | (exfalso; omega)
                          | (refine W.exit (blk_other rfl ?_)
                             refine endR.stop (bl_f.2 (by omega)) rfl ?_
                             rw [show min (k + 1) many.toNat = min k many.toNat by omega]
                             exact out_pack (by repeat (first | exact Sub.nil | refine Sub.cons (by repeat (first | exact Pick.head | apply Pick.tail)) ?_)) hlk)
                        · first
                          | (exfalso; omega)
                          | (refine W.skip ?_
                             refine W.region ?_
                             refine WO.load rfl rfl (Cell.own Pick.head rfl) rfl (WO.p rfl rfl ?_)
                             refine' WO.buildSl (cs := _) rfl rfl rfl rfl ?hf rfl rfl ?hl rfl (fun v4 => ?_)
                             case hf => (conv => lhs; simp [-List.getD_eq_getElem?_getD, fillL, vcl, wrl, TTab.pl?.lget']) <;> rfl
                             case hl => rfl
                             refine' WO.appendE (enc := encI) (m := 1) (xs := (List.range (min k many.toNat)).map (rb taps start)) (ys := [rb taps start k]) encI_ok rfl rfl rfl rfl rfl (by repeat (first | exact Pick.head | apply Pick.tail)) (isSl_lit (by omega) (fun _ => ⟨_, _, rfl⟩)) (by omega) rfl (OwC.cells (by repeat (first | exact Pick.head | apply Pick.tail))) (by omega) (by omega) rfl (fun g c => ?_)
                             rw [hlk]
                             refine WO.store1 rfl rfl rfl (by first | rfl | assumption) (Pick.tail (Pick.tail (Pick.head))) rfl ?_
                             refine WO.nil ?_
                             refine endR.go (bl_t.2 (by omega)) ?_
                             rw [← runK_succ (show k < many.toNat by omega)]
                             exact out_pack (by repeat (first | exact Sub.nil | refine Sub.cons (by repeat (first | exact Pick.head | apply Pick.tail)) ?_)) (by rw [List.length_append, hlk]; rfl))
                      · intro hAll
                        exfalso; simp at hAll; omega
                      · intro hStop
                        rw [show min (many.toNat + 1) many.toNat = many.toNat by omega, ← runL_map]
                        refine W.chgE (out_open (by repeat (first | exact Pick.head | apply Pick.tail)) rfl) ?_
                        rintro ⟨oa, oc⟩ _
                        refine W.exit (blk_same ?_)
                        refine W.sreg ?_
                        refine WO.load rfl rfl (Cell.own Pick.head rfl) rfl (WO.p rfl rfl (WO.p rfl rfl ?_))
                        refine WO.nil ?_
                        refine W.ret ?_
                        refine fin.ret (Res.two rfl (RV.tmp rfl) (RV.tmp rfl)) ?_
                        first | (have q := hm; have h0 : runE taps start many = 0 := runE_0.2 ⟨(by omega), (by omega), (by omega)⟩; refine ⟨_, by rw [h0], fun h hs => ?_⟩; rw [if_pos h0]; exact Sub.sat (.cons (.tail .head) .nil) hs) | exact err_run (run_a (by assumption)) (by assumption) | exact err_run (run_l (by assumption) (by omega)) (by decide) | exact err_run (runE_b (chkS0.2 ⟨chk20.1 (by omega), (by omega)⟩) (by assumption)) (by decide) | exact err_run (runE_c (chkS0.2 ⟨chk20.1 (by omega), (by omega)⟩) (by assumption)) (by decide)))))
end Go.Proofs.Ytingkbglkaojdaa
namespace Go.Proofs.Ytingkbglkaojdaa
open Go Go.TH Go.TH.Wv
set_option maxRecDepth 10000
set_option maxHeartbeats 1000000
/-- among more numbers than there are, two are equal -/
theorem php : ∀ (N : Nat) (f : Nat → Nat), (∀ i, i ≤ N → f i < N) → ∃ i j, i < j ∧ j ≤ N ∧ f i = f j
  | 0, f, h => absurd (h 0 (Nat.le_refl 0)) (by omega)
  | N + 1, f, h => by
    by_cases hx : ∃ i, i < N + 1 ∧ f i = f (N + 1)
    · obtain ⟨i, hi, e⟩ := hx
      exact ⟨i, N + 1, hi, Nat.le_refl _, e⟩
    · have hne : ∀ i, i < N + 1 → f i ≠ f (N + 1) := fun i hi e => hx ⟨i, hi, e⟩
      have hN := h (N + 1) (Nat.le_refl _)
      obtain ⟨i, j, h1, h2, h3⟩ := php N (fun i => if f (N + 1) < f i then f i - 1 else f i) (fun i hi => by
        have h4 := h i (by omega)
        have h5 := hne i (by omega)
        show (if f (N + 1) < f i then f i - 1 else f i) < N
        split <;> omega)
      refine ⟨i, j, h1, by omega, ?_⟩
      have h4 := hne i (by omega)
      have h5 := hne j (by omega)
      have h6 : (if f (N + 1) < f i then f i - 1 else f i) = (if f (N + 1) < f j then f j - 1 else f j) := h3
      split at h6 <;> split at h6 <;> omega
theorem cfb {a b : Nat} (h : ∀ i, a.testBit i = b.testBit i) : a = b := Nat.eq_of_testBit_eq h
/-- bits as a number: the first one is the lowest -/
def accS (l : List Int) : Nat → Nat
  | 0 => 0
  | i + 1 => accS l i ||| (bt l i).toNat <<< i
def sN (l : List Int) : Nat := accS l l.length
/-- taps as a number: the first one is the highest -/
def accT (l : List Int) : Nat → Nat
  | 0 => 0
  | j + 1 => accT l j ||| (bt l j).toNat <<< (l.length - 1 - j)
def tN (l : List Int) : Nat := accT l l.length
theorem shl_bit {x : Int} (h : x = 0 ∨ x = 1) (s i : Nat) : (x.toNat <<< s).testBit i = (decide (s = i) && decide (x = 1)) := by
  rcases h with rfl | rfl
  · simp
  · rw [show (1 : Int).toNat = 1 from rfl, one_bit]; simp
theorem accS_bit {l : List Int} (h : OkBs l) : ∀ n i, (accS l n).testBit i = (decide (i < n) && decide (bt l i = 1))
  | 0, i => by simp [accS]
  | n + 1, i => by
    unfold accS
    rw [Nat.testBit_or, accS_bit h n i, shl_bit (bt_ok h n)]
    by_cases e : n = i
    · subst e; simp
    · have h1 : (i < n + 1) ↔ (i < n) := by omega
      simp [e, h1]
theorem accT_bit {l : List Int} (h : OkBs l) : ∀ n i, n ≤ l.length → (accT l n).testBit i = (decide (l.length - n ≤ i ∧ i < l.length) && decide (bt l (l.length - 1 - i) = 1))
  | 0, i, hn => by
    have : ¬ (l.length - 0 ≤ i ∧ i < l.length) := by omega
    simp [accT]; omega
  | n + 1, i, hn => by
    unfold accT
    rw [Nat.testBit_or, accT_bit h n i (by omega), shl_bit (bt_ok h n)]
    by_cases e : l.length - 1 - n = i
    · subst e
      have h1 : l.length - 1 - (l.length - 1 - n) = n := by omega
      have h2 : ¬ (l.length - n ≤ l.length - 1 - n ∧ l.length - 1 - n < l.length) := by omega
      have h3 : (l.length - (n + 1) ≤ l.length - 1 - n ∧ l.length - 1 - n < l.length) := by omega
      rw [h1]; simp only [h2, h3]; simp
    · have h1 : (l.length - (n + 1) ≤ i ∧ i < l.length) ↔ (l.length - n ≤ i ∧ i < l.length) := by omega
      simp only [h1, e]; simp
theorem bt_out {l : List Int} {i : Nat} (h : l.length ≤ i) : bt l i = 0 := by
  unfold bt; rw [List.getD_eq_getElem?_getD, List.getElem?_eq_none h]; rfl
theorem sN_bit {l : List Int} (h : OkBs l) (i : Nat) : (sN l).testBit i = decide (bt l i = 1) := by
  unfold sN
  rw [accS_bit h]
  by_cases g : i < l.length
  · simp [g]
  · have : bt l i = 0 := bt_out (by omega)
    simp [g, this]
theorem tN_bit {l : List Int} (h : OkBs l) (i : Nat) : (tN l).testBit i = (decide (i < l.length) && decide (bt l (l.length - 1 - i) = 1)) := by
  unfold tN
  rw [accT_bit h _ _ (Nat.le_refl _)]
  have h1 : (l.length - l.length ≤ i ∧ i < l.length) ↔ (i < l.length) := by omega
  simp only [h1]
theorem bits_lt {a n : Nat} (h : ∀ i, n ≤ i → a.testBit i = false) : a < 2 ^ n := Nat.lt_pow_two_of_testBit a h
theorem accS_lt {l : List Int} (h : OkBs l) (n : Nat) : accS l n < 2 ^ n := bits_lt fun i hi => by rw [accS_bit h]; simp; omega
theorem accT_lt {l : List Int} (h : OkBs l) {n : Nat} (hn : n ≤ l.length) : accT l n < 2 ^ l.length := bits_lt fun i hi => by rw [accT_bit h _ _ hn]; simp; omega
theorem sN_inj {l l' : List Int} (h : OkBs l) (h' : OkBs l') (hl : l.length = l'.length) (e : sN l = sN l') : l = l' := ext_getD 0 hl fun i hi => by
  have h1 := sN_bit h i
  have h2 := sN_bit h' i
  rw [e, h2] at h1
  have a := bt_ok h i
  have b := bt_ok h' i
  show bt l i = bt l' i
  rcases a with a | a <;> rcases b with b | b <;> rw [a, b] at h1 <;> simp at h1 <;> omega
/-- the parity of a number's bits -/
def par (n : Nat) : Nat := if h : n = 0 then 0 else (n % 2 + par (n / 2)) % 2
  termination_by n
  decreasing_by omega
theorem par_0 : par 0 = 0 := by unfold par; simp
theorem par_step (n : Nat) : par n = (n % 2 + par (n / 2)) % 2 := by
  by_cases h : n = 0
  · subst h; simp [par_0]
  · conv => lhs; unfold par
    rw [dif_neg h]
theorem and_pred_odd (m : Nat) : (2 * m + 1) &&& (2 * m) = 2 * m := by
  refine cfb fun i => ?_
  rw [Nat.testBit_and]
  cases i with
  | zero => simp
  | succ i => simp [Nat.testBit_succ]; rw [show (2 * m + 1) / 2 = m by omega]; simp
theorem and_pred_even {m : Nat} (h : 0 < m) : (2 * m) &&& (2 * m - 1) = 2 * (m &&& (m - 1)) := by
  refine cfb fun i => ?_
  rw [Nat.testBit_and]
  cases i with
  | zero => simp
  | succ i => simp [Nat.testBit_succ]; rw [show (2 * m - 1) / 2 = m - 1 by omega]
theorem par_pred : ∀ n : Nat, 0 < n → par n = (par (n &&& (n - 1)) + 1) % 2 := by
  intro n
  induction n using Nat.strongRecOn with
  | ind n ih =>
    intro hn
    obtain ⟨m, hm⟩ : ∃ m, n = 2 * m ∨ n = 2 * m + 1 := ⟨n / 2, by omega⟩
    rcases hm with rfl | rfl
    · have h0 : 0 < m := by omega
      rw [and_pred_even h0, par_step, par_step (2 * (m &&& (m - 1)))]
      rw [show 2 * m / 2 = m by omega, show 2 * (m &&& (m - 1)) / 2 = m &&& (m - 1) by omega, ih m (by omega) h0]
      omega
    · rw [show 2 * m + 1 - 1 = 2 * m by omega, and_pred_odd, par_step, par_step (2 * m)]
      rw [show (2 * m + 1) / 2 = m by omega, show 2 * m / 2 = m by omega]
      omega
theorem and_pred_lt {n : Nat} (h : 0 < n) : n &&& (n - 1) < n := Nat.lt_of_le_of_lt Nat.and_le_right (by omega)
theorem par_cf : ∀ (K n : Nat), n < 2 ^ K → ((par n : Nat) : Int) = sm K (cf n) % 2
  | 0, n, h => by
    obtain rfl : n = 0 := by omega
    rw [par_0]; rfl
  | K + 1, n, h => by
    rw [par_step, sm_front]
    have h1 := par_cf K (n / 2) (by rw [Nat.pow_succ] at h; omega)
    have e : sm K (fun j => cf n (j + 1)) = sm K (cf (n / 2)) := sm_congr fun j _ => by unfold cf; rw [Nat.testBit_succ]
    rw [e]
    have e2 : cf n 0 = ((n % 2 : Nat) : Int) := by
      unfold cf
      have := Nat.mod_two_eq_zero_or_one n
      rcases this with g | g <;> simp [Nat.testBit_zero, g]
    rw [e2]
    omega
theorem sm_rev : ∀ (n : Nat) (f : Nat → Int), sm n f = sm n fun j => f (n - 1 - j)
  | 0, f => rfl
  | n + 1, f => by
    rw [sm_front n (fun j => f (n + 1 - 1 - j))]
    show sm n f + f n = _
    rw [show n + 1 - 1 - 0 = n by omega, sm_rev n f, Int.add_comm]
    congr 1
    exact sm_congr fun j hj => by rw [show n + 1 - 1 - (j + 1) = n - 1 - j by omega]
theorem cf_of {a : Nat} {i : Nat} {p : Prop} [Decidable p] (h : a.testBit i = decide p) : cf a i = if p then 1 else 0 := by
  unfold cf; rw [h]; by_cases g : p <;> simp [g]
theorem cf_sN {l : List Int} (h : OkBs l) (i : Nat) : cf (sN l) i = bt l i := by
  rw [cf_of (sN_bit h i)]
  rcases bt_ok h i with g | g <;> rw [g] <;> simp
theorem cf_tN {l : List Int} (h : OkBs l) {i : Nat} (hi : i < l.length) : cf (tN l) i = bt l (l.length - 1 - i) := by
  have := tN_bit h i
  rw [show decide (i < l.length) = true by simp [hi], Bool.true_and] at this
  rw [cf_of this]
  rcases bt_ok h (l.length - 1 - i) with g | g <;> rw [g] <;> simp
/-- what comes behind a window -/
def stepW (taps l : List Int) : List Int := l.drop 1 ++ [nx l taps]
theorem par_nx {taps l : List Int} (ht : OkBs taps) (h : OkBs l) (hl : l.length = taps.length) : ((par (sN l &&& tN taps) : Nat) : Int) = nx l taps := by
  have h1 : sN l &&& tN taps < 2 ^ taps.length := Nat.lt_of_le_of_lt Nat.and_le_right (accT_lt ht (Nat.le_refl _))
  rw [par_cf _ _ h1]
  unfold nx pre
  rw [sm_rev]
  refine congrArg (· % 2) (sm_congr fun j hj => ?_)
  show cf (sN l &&& tN taps) (taps.length - 1 - j) = _
  rw [cf_and, cf_sN h, cf_tN ht (by omega), show taps.length - 1 - (taps.length - 1 - j) = j by omega, hl, Int.mul_comm]
theorem stepW_len {taps l : List Int} (h0 : 0 < l.length) : (stepW taps l).length = l.length := by unfold stepW; simp; omega
theorem stepW_ok {taps l : List Int} (h : OkBs l) : OkBs (stepW taps l) := fun x hx => by
  unfold stepW at hx
  rcases List.mem_append.1 hx with g | g
  · exact h x (List.mem_of_mem_drop g)
  · rw [List.mem_singleton] at g; subst g; exact nx_01 _ _
theorem stepW_bt {taps l : List Int} (h0 : 0 < l.length) (i : Nat) : bt (stepW taps l) i = if i < l.length - 1 then bt l (i + 1) else if i = l.length - 1 then nx l taps else 0 := by
  unfold stepW bt
  simp only [List.getD_eq_getElem?_getD, List.getElem?_append, List.length_drop, List.getElem?_drop]
  by_cases g : i < l.length - 1
  · rw [if_pos g, if_pos g, Nat.add_comm 1 i]
  · rw [if_neg g, if_neg g]
    by_cases g2 : i = l.length - 1
    · subst g2; simp
    · rw [if_neg g2]
      obtain ⟨d, hd⟩ : ∃ d, i - (l.length - 1) = d + 1 := ⟨i - (l.length - 1) - 1, by omega⟩
      rw [hd]; simp
/-- the next state, as a number -/
theorem sN_step {taps l : List Int} (ht : OkBs taps) (h : OkBs l) (hl : l.length = taps.length) (h0 : 0 < l.length) : sN l >>> 1 ||| par (sN l &&& tN taps) <<< (taps.length - 1) = sN (stepW taps l) := by
  refine cfb fun i => ?_
  have hp := par_nx ht h hl
  have hn := nx_01 l taps
  rw [Nat.testBit_or, Nat.testBit_shiftRight, sN_bit h, sN_bit (stepW_ok h), stepW_bt h0]
  have e : par (sN l &&& tN taps) = (nx l taps).toNat := by omega
  rw [e, shl_bit hn, ← hl]
  by_cases g : i < l.length - 1
  · rw [if_pos g, Nat.add_comm 1 i]
    have : ¬ l.length - 1 = i := by omega
    simp [this]
  · rw [if_neg g]
    have e2 : bt l (1 + i) = 0 := bt_out (by omega)
    rw [e2]
    by_cases g2 : i = l.length - 1
    · subst g2; simp
    · rw [if_neg g2]
      have : ¬ l.length - 1 = i := fun e => g2 e.symm
      simp [this]
theorem win_step {taps start : List Int} (h0 : 0 < start.length) (hl : start.length = taps.length) (k : Nat) : winL taps start (k + 1) = stepW taps (winL taps start k) := by
  have hw := win_len taps start k
  have e : nx (winL taps start k) taps = nx (ext taps start k) taps := by
    rw [← nx_win hl k]
    unfold nx pre
    rw [hw, hl]
  unfold stepW
  rw [e]
  unfold winL
  rw [ext_more, List.drop_append_of_le_length (by rw [ext_len]; omega), List.drop_drop]
/-- the period -/
def IsPer (taps start : List Int) (n : Nat) : Prop := 0 < n ∧ winL taps start n = start ∧ ∀ m, 0 < m → m < n → winL taps start m ≠ start
theorem per_uniq {taps start : List Int} {n m : Nat} (h : IsPer taps start n) (h' : IsPer taps start m) : n = m := by
  rcases Nat.lt_trichotomy n m with g | g | g
  · exact absurd h.2.1 (h'.2.2 n h.1 g)
  · exact g
  · exact absurd h'.2.1 (h.2.2 m h'.1 g)
open Classical in
noncomputable def per (taps start : List Int) : Nat := if h : ∃ n, IsPer taps start n then Classical.choose h else 0
theorem per_eq {taps start : List Int} {n : Nat} (h : IsPer taps start n) : per taps start = n := by
  unfold per
  rw [dif_pos ⟨n, h⟩]
  exact per_uniq (Classical.choose_spec _) h
/-- a step can be taken back, if the last tap is 1 -/
theorem stepW_inj {taps l l' : List Int} (h : OkBs l) (h' : OkBs l') (hl : l.length = taps.length) (hl' : l'.length = taps.length) (h0 : 0 < taps.length) (hlast : bt taps (taps.length - 1) = 1) (e : stepW taps l = stepW taps l') : l = l' := by
  have hx : ∀ i, i < taps.length - 1 → bt l (i + 1) = bt l' (i + 1) := fun i hi => by
    have h1 := stepW_bt (taps := taps) (l := l) (by omega) i
    have h2 := stepW_bt (taps := taps) (l := l') (by omega) i
    rw [if_pos (by omega)] at h1 h2
    rw [← h1, ← h2, e]
  have hn : nx l taps = nx l' taps := by
    have h1 := stepW_bt (taps := taps) (l := l) (by omega) (taps.length - 1)
    have h2 := stepW_bt (taps := taps) (l := l') (by omega) (taps.length - 1)
    rw [if_neg (by omega), if_pos (by omega)] at h1 h2
    rw [← h1, ← h2, e]
  have h00 : bt l 0 = bt l' 0 := by
    unfold nx pre at hn
    obtain ⟨m, hm⟩ : ∃ m, taps.length = m + 1 := ⟨taps.length - 1, by omega⟩
    rw [hl, hl', hm] at hn
    have e1 : sm m (fun j => bt taps j * bt l (m + 1 - 1 - j)) = sm m (fun j => bt taps j * bt l' (m + 1 - 1 - j)) := sm_congr fun j hj => by
      obtain ⟨q, hq⟩ : ∃ q, m + 1 - 1 - j = q + 1 := ⟨m - 1 - j, by omega⟩
      rw [hq, hx q (by omega)]
    have e2 : (sm m (fun j => bt taps j * bt l (m + 1 - 1 - j)) + bt taps m * bt l (m + 1 - 1 - m)) % 2 = (sm m (fun j => bt taps j * bt l' (m + 1 - 1 - j)) + bt taps m * bt l' (m + 1 - 1 - m)) % 2 := hn
    rw [e1, show m + 1 - 1 - m = 0 by omega, show bt taps m = 1 by rw [← hlast, hm]; rfl] at e2
    have a := bt_ok h 0
    have b := bt_ok h' 0
    omega
  refine ext_getD 0 (by omega) fun i hi => ?_
  show bt l i = bt l' i
  cases i with
  | zero => exact h00
  | succ i => exact hx i (by omega)
theorem win_back {taps start : List Int} (hs : OkBs start) (hl : start.length = taps.length) (h0 : 0 < taps.length) (hlast : bt taps (taps.length - 1) = 1) : ∀ i d, winL taps start (i + d) = winL taps start i → winL taps start d = start
  | 0, d, e => by rw [Nat.zero_add] at e; rw [e]; rfl
  | i + 1, d, e => by
    refine win_back hs hl h0 hlast i d ?_
    have h1 := win_step (taps := taps) (start := start) (by omega) hl (i + d)
    have h2 := win_step (taps := taps) (start := start) (by omega) hl i
    rw [show i + 1 + d = i + d + 1 by omega, h1, h2] at e
    exact stepW_inj (win_ok hs _) (win_ok hs _) (by rw [win_len]; exact hl) (by rw [win_len]; exact hl) h0 hlast e
theorem least {p : Nat → Prop} [DecidablePred p] : ∀ N, p N → ∃ n, n ≤ N ∧ p n ∧ ∀ m, m < n → ¬ p m := by
  intro N
  induction N using Nat.strongRecOn with
  | ind N ih =>
    intro h
    by_cases hx : ∃ m, m < N ∧ p m
    · obtain ⟨m, h1, h2⟩ := hx
      obtain ⟨n, q1, q2, q3⟩ := ih m h1 h2
      exact ⟨n, by omega, q2, q3⟩
    · exact ⟨N, Nat.le_refl _, h, fun m hm hp => hx ⟨m, hm, hp⟩⟩
theorem per_of {taps start : List Int} {N : Nat} (h0 : 0 < N) (h : winL taps start N = start) : ∃ n, n ≤ N ∧ IsPer taps start n := by
  obtain ⟨n, h1, h2, h3⟩ := least (p := fun n => 0 < n ∧ winL taps start n = start) N ⟨h0, h⟩
  exact ⟨n, h1, h2.1, h2.2, fun m hm hmn e => h3 m hmn ⟨hm, e⟩⟩
/-- whether a register's period is told -/
def LastOk (taps : List Int) : Prop := taps.length = 0 ∨ bt taps (taps.length - 1) = 1
theorem per_ex {taps start : List Int} (hs : OkBs start) (hl : start.length = taps.length) (hlast : LastOk taps) : ∃ n, n ≤ 2 ^ taps.length ∧ IsPer taps start n := by
  rcases Nat.eq_zero_or_pos taps.length with g | g
  · refine per_of (Nat.two_pow_pos _) ?_
    have e1 : winL taps start (2 ^ taps.length) = [] := List.eq_nil_of_length_eq_zero (by rw [win_len]; omega)
    have e2 : start = [] := List.eq_nil_of_length_eq_zero (by omega)
    rw [e1, e2]
  · have h1 := hlast.resolve_left (by omega)
    obtain ⟨i, j, hij, hj, e⟩ := php (2 ^ taps.length) (fun k => sN (winL taps start k)) (fun k _ => by
      have := accS_lt (win_ok (taps := taps) hs k) (winL taps start k).length
      rw [win_len, hl] at this
      show accS _ _ < _
      rw [win_len, hl]
      exact this)
    have e2 := sN_inj (win_ok hs i) (win_ok hs j) (by rw [win_len, win_len]) e
    obtain ⟨n, q1, q2⟩ := per_of (taps := taps) (start := start) (N := j - i) (by omega) (win_back hs hl g h1 i (j - i) (by rw [show i + (j - i) = j by omega]; exact e2.symm))
    exact ⟨n, by omega, q2⟩
/-- what Period answers -/
def perE (taps start : List Int) : Int := if chkS taps start ≠ 0 then chkS taps start else if 12 < taps.length then 6 else if 0 < taps.length ∧ bt taps (taps.length - 1) = 0 then 5 else 0
theorem perE_a {taps start : List Int} (h : chkS taps start ≠ 0) : perE taps start = chkS taps start := if_pos h
theorem perE_b {taps start : List Int} (h : chkS taps start = 0) (h2 : 12 < taps.length) : perE taps start = 6 := by unfold perE; rw [if_neg (by omega), if_pos h2]
theorem perE_c {taps start : List Int} (h : chkS taps start = 0) (h2 : ¬ 12 < taps.length) (h3 : 0 < taps.length ∧ bt taps (taps.length - 1) = 0) : perE taps start = 5 := by unfold perE; rw [if_neg (by omega), if_neg h2, if_pos h3]
theorem perE_d {taps start : List Int} (h : chkS taps start = 0) (h2 : ¬ 12 < taps.length) (h3 : ¬ (0 < taps.length ∧ bt taps (taps.length - 1) = 0)) : perE taps start = 0 := by unfold perE; rw [if_neg (by omega), if_neg h2, if_neg h3]
theorem perE_0 {taps start : List Int} (h : perE taps start = 0) : chkS taps start = 0 ∧ taps.length ≤ 12 ∧ LastOk taps := by
  unfold perE at h
  split at h
  · omega
  · rename_i h1
    split at h
    · omega
    · split at h
      · omega
      · rename_i h2 h3
        refine ⟨by omega, by omega, ?_⟩
        unfold LastOk
        have h4 := (chkB0.1 (chkS0.1 (by omega : chkS taps start = 0)).1.1).2
        have := bt_ok h4 (taps.length - 1)
        omega
open Classical in
noncomputable def perN (taps start : List Int) : Nat := if perE taps start = 0 then per taps start else 0
end Go.Proofs.Ytingkbglkaojdaa
namespace Go.Proofs.Ytingkbglkaojdaa
open Go Go.TH Go.TH.Wv
attribute [local irreducible] W WO pt
set_option maxRecDepth 10000
set_option maxHeartbeats 1000000
section
variable {P : Program} {C : Cx P} {E : Env} {H : List HP}
variable {ops : Array Oper} {K : KP} {rest : List Oper} {d : Nat} {ty : TypeId} {pos : String} {af : Array Edge} {x y : Operand} {T T' : TypeId} {k : IntKind} {a b : Nat}
theorem WO.subN (hx : ev E x = some (.int k (a : Int))) (hy : ev E y = some (.int k (b : Int))) (ha : Fits k a) (hb : b ≤ a) (hN : Nat.blt d C.N = true) (h : WO C ops rest K ((d, .int k ((a - b : Nat) : Int)) :: E) H) : WO C ops (⟨some d, .binOp .sub T x y T', ty, pos, af, none⟩ :: rest) K E H :=
  WO.pure _ (by simp) (fun L c w hf _ => by
    have h1 : Fits k (a - b) := Nat.lt_of_le_of_lt (Nat.sub_le a b) ha
    have h2 := wrap_nat h1
    rw [Int.ofNat_sub hb] at h2
    simp only [execOp, hf.eval hx, hf.eval hy]
    simp [binOp_sub, eqGuard_sub, Op.intArith]
    rw [h2, Int.ofNat_sub hb]) hN h
end
theorem fits32 {a n : Nat} (h : a < 2 ^ n) (hn : n ≤ 32) : Fits .u32 a := Nat.lt_of_lt_of_le h (Nat.pow_le_pow_right (by decide) hn)
theorem bit_nat {x : Int} (h : x = 0 ∨ x = 1) : IntKind.u32.wrap x = ((x.toNat : Nat) : Int) := by rcases h with rfl | rfl <;> rfl
theorem bit_shl {x : Int} (h : x = 0 ∨ x = 1) {s : Nat} (hs : s < 32) : Fits .u32 (x.toNat <<< s) := by
  rcases h with rfl | rfl
  · show 0 <<< s < 2 ^ 32; rw [Nat.zero_shiftLeft]; decide
  · show 1 <<< s < 2 ^ 32; rw [Nat.shiftLeft_eq, Nat.one_mul]; exact Nat.pow_lt_pow_right (by decide) hs
def stateV (n : Nat) : Value := .agg #[.int .u32 (n : Int)]
def stepV (n L : Nat) : Value := .agg #[.int .u32 (n : Int), .int .i64 (L : Int)]
theorem par_le (n : Nat) : par n ≤ 1 := by rw [par_step]; omega
theorem par_01 (n : Nat) : par n = (par n + 0) % 2 := by have := par_le n; omega
theorem xor1_le {o : Nat} (h : o ≤ 1) : o ^^^ 1 ≤ 1 := by rcases (show o = 0 ∨ o = 1 by omega) with rfl | rfl <;> decide
theorem xor1_par {o a : Nat} (h : o ≤ 1) : (a + (o ^^^ 1)) % 2 = ((a + 1) % 2 + o) % 2 := by
  rcases (show o = 0 ∨ o = 1 by omega) with rfl | rfl
  · show (a + 1) % 2 = _; omega
  · show (a + 0) % 2 = _; omega
theorem par_shl {n s : Nat} (hs : s < 32) : Fits .u32 (par n <<< s) := by
  rcases (show par n = 0 ∨ par n = 1 by have := par_le n; omega) with e | e <;> rw [e]
  · show 0 <<< s < 2 ^ 32; rw [Nat.zero_shiftLeft]; decide
  · show 1 <<< s < 2 ^ 32; rw [Nat.shiftLeft_eq, Nat.one_mul]; exact Nat.pow_lt_pow_right (by decide) hs
theorem c_newState (w : World) (v : Value) (l : List Int) (hR : RdF encI 1 w.heap.size w v l) (h : OkBs l) (hl : l.length ≤ 20) : Ret Try.prog 46 [v].toArray w (stateV (sN l)) := by
  refine Ret.of mixed tyTab Try.func46 rfl rfl ?_
  replace hR : RdF encI 1 (fnCx mixed tyTab Try.f46.ntmps w).B (fnCx mixed tyTab Try.f46.ntmps w).w0 v l := hR
  refine W.sreg ?_
  refine WO.alloc rfl rfl rfl (fun b1 hb1 => ?_)
  refine WO.nil ?_
  refine W.sreg ?_
  refine' WO.build (cs := _) rfl rfl rfl ?hf rfl ?_
  case hf => (conv => lhs; simp [-List.getD_eq_getElem?_getD, fillL, vcl, wrl, TTab.pl?.lget']) <;> rfl
  refine WO.alloc rfl rfl rfl (fun b2 hb2 => ?_)
  refine WO.storeA rfl rfl rfl rfl Pick.head rfl rfl ?_
  refine WO.nil ?_
  refine W.seq ?_
  refine W.sreg ?_
  refine WO.p rfl rfl ?_
  refine' WO.len (n := _) rfl rfl ?hs rfl ?_
  case hs => (first | exact hR.sl)
  refine WO.p rfl rfl ?_
  refine WO.nil ?_
  refine W.block ?_
  refine W.loop (fun (i : Nat) => i ≤ l.length)
    (fun (i : Nat) => [(9, .int .i64 (i : Int)), (8, .int .i64 (l.length : Int)), (7, v), (3, .pointer (some ⟨b2, 0, none⟩)), (2, .pointer (some ⟨b1, 0, none⟩))])
    (fun (i : Nat) => [pt b2 (.cells #[.int .u32 (accS l i : Int)] 67 (0, 0)), pt b1 (.cells #[.int .u32 0] 67 (0, 0))])
    (fun (i : Nat) => l.length - i) 0
    (by omega) ⟨rfl, rfl, rfl, rfl, rfl, trivial⟩ (by repeat (first | exact Sub.nil | refine Sub.cons (by repeat (first | exact Pick.head | apply Pick.tail)) ?_)) ?_
  rintro i hi0
  refine W.sreg ?_
  refine WO.p rfl rfl ?_
  refine WO.nil ?_
  refine W.seq ?_
  refine W.cond_bl rfl (fun c1 => ?_) (fun c1 => ?_)
  · first
    | (exfalso; omega)
    | (refine W.skip ?_
       refine W.seq ?_
       refine W.block ?_
       refine W.sreg ?_
       refine WO.p rfl rfl ?_
       refine' WO.indexAddr (n := _) (i := _) rfl rfl rfl ?hs ?h1 rfl ?_
       case hs => (first | exact hR.sl)
       case h1 => (first | omega | (simp; omega))
       refine' WO.load (v := _) rfl rfl ?hc rfl ?_
       case hc => (first | (refine hR.cell0 (i := i) ?_ 0 ?_ <;> first | rfl | omega))
       refine WO.p rfl rfl (WO.p rfl rfl ?_)
       refine WO.nil ?_
       refine W.drawD 6 [.r 0 [], .b 1 [], .r 2 [], .r 3 [], .r 4 [], .r 5 []] [] (A0 := []) (Sub.refl _) (by kernel_rfl) ?_ ?_
       · exact (ALok.r (ALok.b (ALok.r (ALok.r (ALok.r (ALok.r ALok.nil))))))
       refine' DT.r rfl rfl rfl ?hq ?_
       case hq =>
         refine WO.field0 rfl rfl rfl ?_
         exact WO.nil ⟨rfl, rfl⟩
       refine' DT.b rfl rfl rfl ?hq ?_
       case hq =>
         refine WO.load rfl rfl (Cell.own Pick.head rfl) rfl ?_
         exact WO.nil ⟨rfl, rfl⟩
       refine' DT.r rfl rfl rfl ?hq ?_
       case hq =>
         refine WO.p rfl rfl ?_
         exact WO.nil ⟨rfl, rfl⟩
       refine' DT.r rfl rfl rfl ?hq ?_
       case hq =>
         refine WO.convI (b := (((bt l i).toNat : Nat) : Int)) rfl rfl rfl (bit_nat (bt_ok h i)) rfl ?_
         exact WO.nil ⟨rfl, rfl⟩
       refine' DT.r rfl rfl rfl ?hq ?_
       case hq =>
         refine WO.p rfl rfl ?_
         exact WO.nil ⟨rfl, rfl⟩
       refine' DT.r rfl rfl rfl ?hq ?_
       case hq =>
         refine WO.shlN (a := (bt l i).toNat) (s := i) rfl rfl (show i ≤ 32 by omega) (bit_shl (bt_ok h i) (by omega)) rfl ?_
         exact WO.nil ⟨rfl, rfl⟩
       refine DT.nil [_, _] rfl ?_
       refine WO.orN (a := accS l i) (b := (bt l i).toNat <<< i) rfl rfl (fits32 (accS_lt h i) (by omega)) (bit_shl (bt_ok h i) (by omega)) rfl ?_
       refine WO.field0 rfl rfl rfl (WO.store1 rfl rfl rfl (by first | rfl | assumption) Pick.head rfl ?_)
       refine WO.nil ?_
       refine W.region ?_
       refine WO.ar rfl rfl rfl (by (first | (unfold in64; omega) | (unfold in64; omega))) rfl (WO.p rfl rfl ?_)
       refine WO.nil ?_
       refine' ⟨i + 1, ?hp, ?hmu, ⟨rfl, rfl, rfl, rfl, rfl, trivial⟩, ?hS⟩
       case hS => repeat (first | exact Sub.nil | refine Sub.cons (by repeat (first | exact Pick.head | apply Pick.tail)) ?_)
       case hp => omega
       case hmu => omega)
  · first
    | (exfalso; omega)
    | (refine W.exit (blk_same ?_)
       refine W.sreg ?_
       refine WO.loadA rfl rfl (Cells.own Pick.head) rfl rfl (WO.storeA rfl rfl rfl rfl (Pick.tail (Pick.head)) rfl rfl ?_)
       refine WO.nil ?_
       refine W.ret ?_
       obtain rfl : i = l.length := by omega
       exact fin.ret (Res.one rfl (RV.cell rfl rfl rfl (Cells.own (by repeat (first | exact Pick.head | apply Pick.tail))))) rfl)
theorem c_newStep (w : World) (v : Value) (l : List Int) (hR : RdF encI 1 w.heap.size w v l) (h : OkBs l) (hl : l.length ≤ 20) : Ret Try.prog 45 [v].toArray w (stepV (tN l) l.length) := by
  refine Ret.of mixed tyTab Try.func45 rfl rfl ?_
  replace hR : RdF encI 1 (fnCx mixed tyTab Try.f45.ntmps w).B (fnCx mixed tyTab Try.f45.ntmps w).w0 v l := hR
  refine W.sreg ?_
  refine WO.alloc rfl rfl rfl (fun b1 hb1 => ?_)
  refine WO.nil ?_
  refine W.sreg ?_
  refine WO.p rfl rfl ?_
  refine' WO.len (n := _) rfl rfl ?hs rfl ?_
  case hs => (first | exact hR.sl)
  refine' WO.build (cs := _) rfl rfl rfl ?hf rfl ?_
  case hf => (conv => lhs; simp [-List.getD_eq_getElem?_getD, fillL, vcl, wrl, TTab.pl?.lget']) <;> rfl
  refine WO.alloc rfl rfl rfl (fun b2 hb2 => ?_)
  refine WO.storeA rfl rfl rfl rfl Pick.head rfl rfl ?_
  refine WO.nil ?_
  refine W.seq ?_
  refine W.sreg ?_
  refine WO.p rfl rfl ?_
  refine' WO.len (n := _) rfl rfl ?hs rfl ?_
  case hs => (first | exact hR.sl)
  refine WO.p rfl rfl ?_
  refine WO.nil ?_
  refine W.block ?_
  refine W.loop (fun (i : Nat) => i ≤ l.length)
    (fun (i : Nat) => [(11, .int .i64 (i : Int)), (10, .int .i64 (l.length : Int)), (9, v), (0, v), (3, .pointer (some ⟨b2, 0, none⟩)), (2, .pointer (some ⟨b1, 0, none⟩))])
    (fun (i : Nat) => [pt b2 (.cells #[.int .u32 (accT l i : Int), .int .i64 (l.length : Int)] 64 (0, 0)), pt b1 (.cells #[.int .u32 0, .int .i64 0] 64 (0, 0))])
    (fun (i : Nat) => l.length - i) 0
    (by omega) ⟨rfl, rfl, rfl, rfl, rfl, rfl, trivial⟩ (by repeat (first | exact Sub.nil | refine Sub.cons (by repeat (first | exact Pick.head | apply Pick.tail)) ?_)) ?_
  rintro i hi0
  refine W.sreg ?_
  refine WO.p rfl rfl ?_
  refine WO.nil ?_
  refine W.seq ?_
  refine W.cond_bl rfl (fun c1 => ?_) (fun c1 => ?_)
  · first
    | (exfalso; omega)
    | (refine W.skip ?_
       refine W.seq ?_
       refine W.block ?_
       refine W.sreg ?_
       refine WO.p rfl rfl ?_
       refine' WO.indexAddr (n := _) (i := _) rfl rfl rfl ?hs ?h1 rfl ?_
       case hs => (first | exact hR.sl)
       case h1 => (first | omega | (simp; omega))
       refine' WO.load (v := _) rfl rfl ?hc rfl ?_
       case hc => (first | (refine hR.cell0 (i := i) ?_ 0 ?_ <;> first | rfl | omega))
       refine WO.p rfl rfl (WO.p rfl rfl ?_)
       refine WO.nil ?_
       refine W.drawD 10 [.r 0 [], .b 1 [], .r 2 [], .r 3 [], .r 4 [], .r 5 [], .r 6 [], .r 7 [], .r 8 [], .r 9 []] [] (A0 := []) (Sub.refl _) (by kernel_rfl) ?_ ?_
       · exact (ALok.r (ALok.b (ALok.r (ALok.r (ALok.r (ALok.r (ALok.r (ALok.r (ALok.r (ALok.r ALok.nil))))))))))
       refine' DT.r rfl rfl rfl ?hq ?_
       case hq =>
         refine WO.field0 rfl rfl rfl ?_
         exact WO.nil ⟨rfl, rfl⟩
       refine' DT.b rfl rfl rfl ?hq ?_
       case hq =>
         refine WO.load rfl rfl (Cell.own Pick.head rfl) rfl ?_
         exact WO.nil ⟨rfl, rfl⟩
       refine' DT.r rfl rfl rfl ?hq ?_
       case hq =>
         refine WO.p rfl rfl ?_
         exact WO.nil ⟨rfl, rfl⟩
       refine' DT.r rfl rfl rfl ?hq ?_
       case hq =>
         refine WO.convI (b := (((bt l i).toNat : Nat) : Int)) rfl rfl rfl (bit_nat (bt_ok h i)) rfl ?_
         exact WO.nil ⟨rfl, rfl⟩
       refine' DT.r rfl rfl rfl ?hq ?_
       case hq =>
         refine WO.p rfl rfl ?_
         exact WO.nil ⟨rfl, rfl⟩
       refine' DT.r rfl rfl rfl ?hq ?_
       case hq =>
         refine' WO.len (n := _) rfl rfl ?hs rfl ?_
         case hs => (first | exact hR.sl)
         exact WO.nil ⟨rfl, rfl⟩
       refine' DT.r rfl rfl rfl ?hq ?_
       case hq =>
         refine WO.ar rfl rfl rfl (by (first | (unfold in64; omega) | (unfold in64; omega))) rfl ?_
         exact WO.nil ⟨rfl, rfl⟩
       refine' DT.r rfl rfl rfl ?hq ?_
       case hq =>
         refine WO.p rfl rfl ?_
         exact WO.nil ⟨rfl, rfl⟩
       refine' DT.r rfl rfl rfl ?hq ?_
       case hq =>
         refine WO.ar rfl rfl rfl (by (first | (unfold in64; omega) | (unfold in64; omega))) rfl ?_
         exact WO.nil ⟨rfl, rfl⟩
       refine' DT.r rfl rfl rfl ?hq ?_
       case hq =>
         refine WO.shlN (a := (bt l i).toNat) (s := l.length - 1 - i) rfl (by rw [show ((l.length - 1 - i : Nat) : Int) = (l.length : Int) - 1 - (i : Int) by omega]; rfl) (show l.length - 1 - i ≤ 32 by omega) (bit_shl (bt_ok h i) (by omega)) rfl ?_
         exact WO.nil ⟨rfl, rfl⟩
       refine DT.nil [_, _] rfl ?_
       refine WO.orN (a := accT l i) (b := (bt l i).toNat <<< (l.length - 1 - i)) rfl rfl (fits32 (accT_lt h (by omega)) (by omega)) (bit_shl (bt_ok h i) (by omega)) rfl ?_
       refine WO.field0 rfl rfl rfl (WO.store1 rfl rfl rfl (by first | rfl | assumption) Pick.head rfl ?_)
       refine WO.nil ?_
       refine W.region ?_
       refine WO.ar rfl rfl rfl (by (first | (unfold in64; omega) | (unfold in64; omega))) rfl (WO.p rfl rfl ?_)
       refine WO.nil ?_
       refine' ⟨i + 1, ?hp, ?hmu, ⟨rfl, rfl, rfl, rfl, rfl, rfl, trivial⟩, ?hS⟩
       case hS => repeat (first | exact Sub.nil | refine Sub.cons (by repeat (first | exact Pick.head | apply Pick.tail)) ?_)
       case hp => omega
       case hmu => omega)
  · first
    | (exfalso; omega)
    | (refine W.exit (blk_same ?_)
       refine W.sreg ?_
       refine WO.loadA rfl rfl (Cells.own Pick.head) rfl rfl (WO.storeA rfl rfl rfl rfl (Pick.tail (Pick.head)) rfl rfl ?_)
       refine WO.nil ?_
       refine W.ret ?_
       obtain rfl : i = l.length := by omega
       exact fin.ret (Res.one rfl (RV.cell rfl rfl rfl (Cells.own (by repeat (first | exact Pick.head | apply Pick.tail))))) rfl)
theorem c_on (w : World) (taps l : List Int) (ht : OkBs taps) (h : OkBs l) (hl : l.length = taps.length) (h20 : taps.length ≤ 20) : Ret Try.prog 47 [stepV (tN taps) taps.length, stateV (sN l)].toArray w (stateV (if taps.length = 0 then sN l else sN (stepW taps l))) := by
  refine Ret.of mixed tyTab Try.func47 rfl rfl ?_
  have f1 : Fits .u32 (sN l) := fits32 (accS_lt h _) (by omega)
  have f2 : Fits .u32 (tN taps) := fits32 (accT_lt ht (Nat.le_refl _)) (by omega)
  refine W.sreg ?_
  refine WO.boxA rfl rfl (fun b1 hb1 => ?_)
  refine WO.boxA rfl rfl (fun b2 hb2 => ?_)
  refine WO.alloc rfl rfl rfl (fun b3 hb3 => ?_)
  refine WO.nil ?_
  refine W.sreg ?_
  refine WO.field0 rfl rfl rfl (WO.load rfl rfl (Cell.own (Pick.tail (Pick.head)) rfl) rfl (WO.field0 rfl rfl rfl (WO.load rfl rfl (Cell.own (Pick.tail (Pick.tail (Pick.head))) rfl) rfl ?_)))
  refine WO.andN (a := sN l) (b := tN taps) rfl rfl f1 f2 rfl ?_
  refine WO.p rfl rfl ?_
  refine WO.nil ?_
  refine W.sreg ?_
  refine WO.p rfl rfl ?_
  refine WO.nil ?_
  refine W.seq ?_
  refine W.block ?_
  refine W.loop2 (fun (n : Nat) (o : Nat) => Fits .u32 n ∧ o ≤ 1 ∧ par (sN l &&& tN taps) = (par n + o) % 2)
    (fun (n : Nat) (o : Nat) => [(6, .int .u32 (o : Int)), (5, .int .u32 (n : Int)), (4, .pointer (some ⟨b3, 0, none⟩)), (3, .pointer (some ⟨b2, 0, none⟩)), (2, .pointer (some ⟨b1, 0, none⟩))])
    (fun (n : Nat) (o : Nat) => [pt b3 (.cells #[.int .u32 0] 67 (0, 0)), pt b2 (.cells #[.int .u32 (sN l : Int)] 67 (0, 0)), pt b1 (.cells #[.int .u32 (tN taps : Int), .int .i64 (taps.length : Int)] 64 (0, 0))])
    (fun (n : Nat) (o : Nat) => n) _ 0
    (by exact ⟨f1.and, by omega, par_01 _⟩) ⟨rfl, rfl, rfl, rfl, rfl, trivial⟩ (by repeat (first | exact Sub.nil | refine Sub.cons (by repeat (first | exact Pick.head | apply Pick.tail)) ?_)) ?_
  rintro n o ⟨hfn, ho, hn0⟩
  refine W.seq ?_
  refine W.sreg ?_
  refine WO.p rfl rfl (WO.p rfl rfl ?_)
  refine WO.nil ?_
  refine W.cond_bl rfl (fun c1 => ?_) (fun c1 => ?_)
  · first
    | (exfalso; omega)
    | (refine W.skip ?_
       refine W.seq ?_
       refine W.block ?_
       refine W.region ?_
       refine WO.p rfl rfl ?_
       refine WO.xorN (a := o) (b := 1) rfl rfl (fits01 (by omega)) (fits01 (Nat.le_refl 1)) rfl ?_
       refine WO.p rfl rfl ?_
       refine WO.nil ?_
       refine W.region ?_
       refine WO.p rfl rfl (WO.p rfl rfl ?_)
       refine WO.subN (a := n) (b := 1) rfl rfl hfn (by omega) rfl ?_
       refine WO.andN (a := n) (b := n - 1) rfl rfl hfn (Nat.lt_of_le_of_lt (Nat.sub_le n 1) hfn) rfl ?_
       refine WO.p rfl rfl ?_
       refine WO.nil ?_
       refine' ⟨_, _, ?hp, ?hmu, ⟨rfl, rfl, rfl, rfl, rfl, trivial⟩, ?hS⟩
       case hS => repeat (first | exact Sub.nil | refine Sub.cons (by repeat (first | exact Pick.head | apply Pick.tail)) ?_)
       case hp => exact ⟨hfn.and, xor1_le ho, by rw [hn0, par_pred n (by omega)]; exact (xor1_par ho).symm⟩
       case hmu => exact and_pred_lt (by omega))
  · first
    | (exfalso; omega)
    | (refine W.exit (blk_same ?_)
       refine W.seq ?_
       obtain rfl : n = 0 := by omega
       obtain rfl : o = par (sN l &&& tN taps) := by have := par_le (sN l &&& tN taps); rw [par_0] at hn0; omega
       refine W.sreg ?_
       refine WO.fieldL rfl rfl rfl (WO.load rfl rfl (Cell.own (Pick.tail (Pick.tail (Pick.head))) rfl) rfl (WO.p rfl rfl ?_))
       refine WO.nil ?_
       refine W.cond_bl rfl (fun c2 => ?_) (fun c2 => ?_)
       · first
         | (exfalso; omega)
         | (refine W.sreg ?_
            refine WO.loadA rfl rfl (Cells.own (Pick.tail (Pick.head))) rfl rfl (WO.storeA rfl rfl rfl rfl Pick.head rfl rfl ?_)
            refine WO.nil ?_
            refine W.ret ?_
            first | exact fin.ret (Res.one rfl (RV.cell rfl rfl rfl (Cells.own (by repeat (first | exact Pick.head | apply Pick.tail))))) (by rw [if_pos (show taps.length = 0 by omega)]; rfl) | exact fin.ret (Res.one rfl (RV.cell rfl rfl rfl (Cells.own (by repeat (first | exact Pick.head | apply Pick.tail))))) (by rw [if_neg (show ¬ taps.length = 0 by omega), ← sN_step ht h hl (by omega)]; rfl))
       · first
         | (exfalso; omega)
         | (refine W.skip ?_
            refine W.seq ?_
            refine W.drawD 8 [.r 0 [], .b 1 [], .r 2 [], .r 3 [], .r 4 [], .b 5 [], .r 6 [], .r 7 []] [] (A0 := []) (Sub.refl _) (by kernel_rfl) ?_ ?_
            · exact (ALok.r (ALok.b (ALok.r (ALok.r (ALok.r (ALok.b (ALok.r (ALok.r ALok.nil))))))))
            refine' DT.r rfl rfl rfl ?hq ?_
            case hq =>
              refine WO.field0 rfl rfl rfl ?_
              exact WO.nil ⟨rfl, rfl⟩
            refine' DT.b rfl rfl rfl ?hq ?_
            case hq =>
              refine WO.load rfl rfl (Cell.own (Pick.tail (Pick.head)) rfl) rfl ?_
              exact WO.nil ⟨rfl, rfl⟩
            refine' DT.r rfl rfl rfl ?hq ?_
            case hq =>
              refine WO.shrN (a := sN l) (s := 1) rfl rfl (by decide) rfl ?_
              exact WO.nil ⟨rfl, rfl⟩
            refine' DT.r rfl rfl rfl ?hq ?_
            case hq =>
              refine WO.p rfl rfl ?_
              exact WO.nil ⟨rfl, rfl⟩
            refine' DT.r rfl rfl rfl ?hq ?_
            case hq =>
              refine WO.fieldL rfl rfl rfl ?_
              exact WO.nil ⟨rfl, rfl⟩
            refine' DT.b rfl rfl rfl ?hq ?_
            case hq =>
              refine WO.load rfl rfl (Cell.own (Pick.tail (Pick.tail (Pick.head))) rfl) rfl ?_
              exact WO.nil ⟨rfl, rfl⟩
            refine' DT.r rfl rfl rfl ?hq ?_
            case hq =>
              refine WO.ar rfl rfl rfl (by (first | (unfold in64; omega) | (unfold in64; omega))) rfl ?_
              exact WO.nil ⟨rfl, rfl⟩
            refine' DT.r rfl rfl rfl ?hq ?_
            case hq =>
              refine WO.shlN (a := par (sN l &&& tN taps)) (s := taps.length - 1) rfl (by rw [show ((taps.length - 1 : Nat) : Int) = (taps.length : Int) - 1 by omega]; rfl) (show taps.length - 1 ≤ 32 by omega) (par_shl (by omega)) rfl ?_
              exact WO.nil ⟨rfl, rfl⟩
            refine DT.nil [_, _, _] rfl ?_
            refine WO.orN (a := sN l >>> 1) (b := par (sN l &&& tN taps) <<< (taps.length - 1)) rfl rfl f1.shr (par_shl (by omega)) rfl ?_
            refine' WO.build (cs := _) rfl rfl rfl ?hf rfl ?_
            case hf => (conv => lhs; simp [-List.getD_eq_getElem?_getD, fillL, vcl, wrl, TTab.pl?.lget']) <;> rfl
            refine WO.storeA rfl rfl rfl rfl Pick.head rfl rfl ?_
            refine WO.nil ?_
            refine W.ret ?_
            first | exact fin.ret (Res.one rfl (RV.cell rfl rfl rfl (Cells.own (by repeat (first | exact Pick.head | apply Pick.tail))))) (by rw [if_pos (show taps.length = 0 by omega)]; rfl) | exact fin.ret (Res.one rfl (RV.cell rfl rfl rfl (Cells.own (by repeat (first | exact Pick.head | apply Pick.tail))))) (by rw [if_neg (show ¬ taps.length = 0 by omega), ← sN_step ht h hl (by omega)]; rfl)))
end Go.Proofs.Ytingkbglkaojdaa
namespace Go.Proofs.Ytingkbglkaojdaa
open Go Go.TH Go.TH.Wv
attribute [local irreducible] W WO pt
set_option maxRecDepth 10000
set_option maxHeartbeats 1000000
theorem neq67 (a b : Nat) : EqT Try.prog .neq 67 (.agg #[.int .u32 (a : Int)]) (.agg #[.int .u32 (b : Int)]) (.bool (bl (a ≠ b))) := by
  intro x y w
  simp [go_sem, Try.eqGuardType67, Try.underlying67]
  by_cases h1 : a = b
  · subst h1; simp [bl_eq]
  · have h2 : ¬ (a : Int) = (b : Int) := by omega
    simp [h1, h2, bl_eq]
theorem on_win {taps start : List Int} (hl : start.length = taps.length) (k : Nat) : (if taps.length = 0 then sN (winL taps start k) else sN (stepW taps (winL taps start k))) = sN (winL taps start (k + 1)) := by
  by_cases h : taps.length = 0
  · rw [if_pos h]
    have h1 : winL taps start k = [] := List.eq_nil_of_length_eq_zero (by rw [win_len]; omega)
    have h2 : winL taps start (k + 1) = [] := List.eq_nil_of_length_eq_zero (by rw [win_len]; omega)
    rw [h1, h2]
  · rw [if_neg h, win_step (by omega) hl]
theorem per_lt {taps start : List Int} {n q : Nat} (hq : IsPer taps start q) (hn : n ≤ q) (h : winL taps start n ≠ start) : n < q := by
  rcases Nat.lt_or_ge n q with g | g
  · exact g
  · obtain rfl : n = q := by omega
    exact absurd hq.2.1 h
theorem per_at {taps start : List Int} {n q : Nat} (hq : IsPer taps start q) (h0 : 0 < n) (hn : n ≤ q) (h : winL taps start n = start) : n = q := by
  rcases Nat.lt_or_ge n q with g | g
  · exact absurd h (hq.2.2 n h0 g)
  · omega
noncomputable def perV (taps start : List Int) : Value := .tuple #[.int .i64 (perN taps start : Int), .int .i64 (perE taps start)]
theorem perV_err {taps start : List Int} {E : Int} (h : perE taps start = E) (h0 : E ≠ 0) : Value.tuple #[.int .i64 0, .int .i64 E] = perV taps start := by
  unfold perV perN
  rw [h, if_neg h0]; rfl
theorem perV_ok {taps start : List Int} {n : Nat} (h : perE taps start = 0) (hn : IsPer taps start n) : Value.tuple #[.int .i64 (n : Int), .int .i64 0] = perV taps start := by
  unfold perV perN
  rw [h, if_pos rfl, per_eq hn]
theorem perE_k {taps start : List Int} (h : chk2 taps start ≠ 0) : perE taps start = chk2 taps start := by
  have hs : chkS taps start = chk2 taps start := if_pos h
  rw [perE_a (by rw [hs]; exact h), hs]
theorem perE_l {taps start : List Int} (h : ¬ chk2 taps start ≠ 0) (h2 : start.length ≠ taps.length) : perE taps start = 15 := by
  have hs : chkS taps start = 15 := by unfold chkS; rw [if_neg h, if_pos h2]
  rw [perE_a (by rw [hs]; decide), hs]
theorem chkS_of {taps start : List Int} (h : ¬ chk2 taps start ≠ 0) (h2 : ¬ start.length ≠ taps.length) : chkS taps start = 0 := chkS0.2 ⟨chk20.1 (by omega), by omega⟩
theorem per_last {taps : List Int} (h : ¬ 0 < (taps.length : Int) ∨ ¬ taps.getD ((taps.length : Int) - 1).toNat 0 = 0) : ¬ (0 < taps.length ∧ bt taps (taps.length - 1) = 0) := by
  rintro ⟨h1, h2⟩
  rw [show ((taps.length : Int) - 1).toNat = taps.length - 1 by omega] at h
  rcases h with h | h
  · omega
  · exact h h2
theorem per_last' {taps : List Int} (h0 : 0 < taps.length) (h : taps.getD ((taps.length : Int) - 1).toNat 0 = 0) : 0 < taps.length ∧ bt taps (taps.length - 1) = 0 := by
  rw [show ((taps.length : Int) - 1).toNat = taps.length - 1 by omega] at h
  exact ⟨h0, h⟩
theorem c_Period (w : World) (v u : Value) (taps start : List Int) (hR : RdF encI 1 w.heap.size w v taps) (hU : RdF encI 1 w.heap.size w u start) : Ret Try.prog 21 [v, u].toArray w (perV taps start) := by
  refine Ret.of mixed tyTab Try.func21 rfl rfl ?_
  replace hR : RdF encI 1 (fnCx mixed tyTab Try.f21.ntmps w).B (fnCx mixed tyTab Try.f21.ntmps w).w0 v taps := hR
  replace hU : RdF encI 1 (fnCx mixed tyTab Try.f21.ntmps w).B (fnCx mixed tyTab Try.f21.ntmps w).w0 u start := hU
  obtain ⟨hle, va, vc, hve, _⟩ := id hR.sl
  subst hve
  obtain ⟨hlu, ua, uc, hue, _⟩ := id hU.sl
  subst hue
  refine W.sreg ?_
  refine WO.p rfl rfl (WO.p rfl rfl ?_)
  refine WO.nil ?_
  refine W.sreg ?_
  refine WO.p rfl rfl (WO.p rfl rfl ?_)
  refine' WO.buildSl (cs := _) rfl rfl rfl rfl ?hf rfl rfl ?hl rfl (fun v1 => ?_)
  case hf => (conv => lhs; simp [-List.getD_eq_getElem?_getD, fillL, vcl, wrl, TTab.pl?.lget']) <;> rfl
  case hl => rfl
  refine WO.callR (r := .int .i64 (chk2 taps start)) rfl Try.call44 (fun L w hi => by rw [← chkAll_two]; exact c_checkAll w _ [.slice va taps.length vc, .slice ua start.length uc] [taps, start] (RdR.of_two (e' := 22) (a := .slice va taps.length vc) (b := .slice ua start.length uc) (xs := taps) (ys := start) (by repeat (first | exact Pick.head | apply Pick.tail)) hi (hR.later hi) (hU.later hi))) rfl ?_
  refine WO.p rfl rfl ?_
  refine WO.nil ?_
  refine W.seq ?_
  refine W.block ?_
  refine W.sreg ?_
  refine WO.p rfl rfl (WO.p rfl rfl (WO.p rfl rfl ?_))
  refine WO.nil ?_
  refine W.cond_bl rfl (fun c1 => ?_) (fun c1 => ?_)
  · first
    | (exfalso; omega)
    | (refine W.sreg ?_
       refine WO.p rfl rfl (WO.p rfl rfl (WO.p rfl rfl ?_))
       refine WO.nil ?_
       refine W.ret ?_
       refine fin.ret (Res.two rfl (RV.tmp rfl) (RV.tmp rfl)) ?_
       first | (have q1 := hnq; refine perV_ok hpe ?_; have e : sN (winL taps start n) = sN start := Decidable.not_not.1 (by assumption); have e2 := sN_inj (win_ok h2.2 n) h2.2 (win_len _ _ _) e; rw [per_at hq hn0 hnq e2]; exact hq) | exact perV_err (perE_k (by assumption)) (by assumption) | exact perV_err (perE_l (by assumption) (by omega)) (by decide) | exact perV_err (perE_b (chkS_of (by assumption) (by omega)) (by omega)) (by decide) | exact perV_err (perE_c (chkS_of (by assumption) (by omega)) (by omega) (per_last' (by omega) (by assumption))) (by decide))
  · first
    | (exfalso; omega)
    | (refine W.sreg ?_
       refine WO.p rfl rfl ?_
       refine' WO.len (n := _) rfl rfl ?hs rfl ?_
       case hs => (first | exact hU.sl)
       refine WO.p rfl rfl ?_
       refine' WO.len (n := _) rfl rfl ?hs rfl ?_
       case hs => (first | exact hR.sl)
       refine WO.p rfl rfl (WO.p rfl rfl ?_)
       refine WO.nil ?_
       refine W.cond_bl rfl (fun c2 => ?_) (fun c2 => ?_)
       · first
         | (exfalso; omega)
         | (refine W.sreg ?_
            refine WO.p rfl rfl (WO.p rfl rfl ?_)
            refine WO.nil ?_
            refine W.ret ?_
            refine fin.ret (Res.two rfl (RV.tmp rfl) (RV.tmp rfl)) ?_
            first | (have q1 := hnq; refine perV_ok hpe ?_; have e : sN (winL taps start n) = sN start := Decidable.not_not.1 (by assumption); have e2 := sN_inj (win_ok h2.2 n) h2.2 (win_len _ _ _) e; rw [per_at hq hn0 hnq e2]; exact hq) | exact perV_err (perE_k (by assumption)) (by assumption) | exact perV_err (perE_l (by assumption) (by omega)) (by decide) | exact perV_err (perE_b (chkS_of (by assumption) (by omega)) (by omega)) (by decide) | exact perV_err (perE_c (chkS_of (by assumption) (by omega)) (by omega) (per_last' (by omega) (by assumption))) (by decide))
       · first
         | (exfalso; omega)
         | (refine W.sreg ?_
            refine WO.p rfl rfl ?_
            refine' WO.len (n := _) rfl rfl ?hs rfl ?_
            case hs => (first | exact hR.sl)
            refine WO.p rfl rfl (WO.p rfl rfl ?_)
            refine WO.nil ?_
            refine W.cond_bl rfl (fun c3 => ?_) (fun c3 => ?_)
            · first
              | (exfalso; omega)
              | (refine W.sreg ?_
                 refine WO.p rfl rfl (WO.p rfl rfl ?_)
                 refine WO.nil ?_
                 refine W.ret ?_
                 refine fin.ret (Res.two rfl (RV.tmp rfl) (RV.tmp rfl)) ?_
                 first | (have q1 := hnq; refine perV_ok hpe ?_; have e : sN (winL taps start n) = sN start := Decidable.not_not.1 (by assumption); have e2 := sN_inj (win_ok h2.2 n) h2.2 (win_len _ _ _) e; rw [per_at hq hn0 hnq e2]; exact hq) | exact perV_err (perE_k (by assumption)) (by assumption) | exact perV_err (perE_l (by assumption) (by omega)) (by decide) | exact perV_err (perE_b (chkS_of (by assumption) (by omega)) (by omega)) (by decide) | exact perV_err (perE_c (chkS_of (by assumption) (by omega)) (by omega) (per_last' (by omega) (by assumption))) (by decide))
            · first
              | (exfalso; omega)
              | (refine W.sreg ?_
                 refine WO.p rfl rfl ?_
                 refine' WO.len (n := _) rfl rfl ?hs rfl ?_
                 case hs => (first | exact hR.sl)
                 refine WO.p rfl rfl (WO.p rfl rfl ?_)
                 refine WO.guard_bl rfl rfl (fun c4 => ?_) (fun c4 => ?_)
                 · first
                   | (exfalso; omega)
                   | (refine WO.pg rfl rfl rfl (WO.pg rfl rfl rfl (WO.go' rfl ?_))
                      refine' WO.len (n := _) rfl rfl ?hs rfl ?_
                      case hs => (first | exact hR.sl)
                      refine WO.go' rfl (WO.ar rfl rfl rfl (by (first | (unfold in64; omega) | (unfold in64; omega))) rfl (WO.go' rfl ?_))
                      refine' WO.indexAddrZ (n := _) rfl rfl rfl ?hs ?h00 ?h1 rfl ?_
                      case hs => (first | exact hR.sl)
                      case h00 => omega
                      case h1 => (first | omega | (simp; omega))
                      refine WO.go' rfl ?_
                      refine' WO.load (v := _) rfl rfl ?hc rfl ?_
                      case hc => (first | (refine hR.cell0 (i := ((taps.length : Int) - 1).toNat) ?_ 0 ?_ <;> first | rfl | omega))
                      refine WO.pg rfl rfl rfl (WO.p rfl rfl (WO.p rfl rfl ?_))
                      refine WO.nil ?_
                      refine W.cond_bl rfl (fun c5 => ?_) (fun c5 => ?_)
                      · first
                        | (exfalso; omega)
                        | (refine W.sreg ?_
                           refine WO.p rfl rfl (WO.p rfl rfl ?_)
                           refine WO.nil ?_
                           refine W.ret ?_
                           refine fin.ret (Res.two rfl (RV.tmp rfl) (RV.tmp rfl)) ?_
                           first | (have q1 := hnq; refine perV_ok hpe ?_; have e : sN (winL taps start n) = sN start := Decidable.not_not.1 (by assumption); have e2 := sN_inj (win_ok h2.2 n) h2.2 (win_len _ _ _) e; rw [per_at hq hn0 hnq e2]; exact hq) | exact perV_err (perE_k (by assumption)) (by assumption) | exact perV_err (perE_l (by assumption) (by omega)) (by decide) | exact perV_err (perE_b (chkS_of (by assumption) (by omega)) (by omega)) (by decide) | exact perV_err (perE_c (chkS_of (by assumption) (by omega)) (by omega) (per_last' (by omega) (by assumption))) (by decide))
                      · first
                        | (exfalso; omega)
                        | (refine W.skip ?_
                           have hok : chkS taps start = 0 := chkS_of (by omega) (by omega)
                           have hpe : perE taps start = 0 := perE_d hok (by omega) (per_last (by first | (right; assumption) | (left; omega)))
                           obtain ⟨_, h12, hlast⟩ := perE_0 hpe
                           have h1 := chkB0.1 (chkS0.1 hok).1.1
                           have h2 := chkB0.1 (chkS0.1 hok).1.2
                           have hln := (chkS0.1 hok).2
                           obtain ⟨q, hq1, hq⟩ := per_ex h2.2 hln hlast
                           have hq2 : q ≤ 4096 := Nat.le_trans hq1 (Nat.le_trans (Nat.pow_le_pow_right (by decide) h12) (by decide))
                           refine W.sreg ?_
                           refine WO.p rfl rfl ?_
                           refine WO.callR (r := stepV (tN taps) taps.length) rfl Try.call45 (fun L w hi => c_newStep w _ taps (hR.later hi) h1.2 (by omega)) rfl ?_
                           refine WO.p rfl rfl ?_
                           refine WO.callR (r := stateV (sN start)) rfl Try.call46 (fun L w hi => c_newState w _ start (hU.later hi) h2.2 (by omega)) rfl ?_
                           refine WO.alloc rfl rfl rfl (fun b2 hb2 => ?_)
                           refine WO.alloc rfl rfl rfl (fun b3 hb3 => ?_)
                           refine WO.storeA rfl rfl rfl rfl (Pick.tail (Pick.head)) rfl rfl (WO.storeA rfl rfl rfl rfl (Pick.tail (Pick.head)) rfl rfl ?_)
                           refine WO.nil ?_
                           refine W.sreg ?_
                           refine WO.p rfl rfl ?_
                           refine WO.nil ?_
                           refine W.seq ?_
                           refine W.sreg ?_
                           refine WO.loadA rfl rfl (Cells.own (Pick.tail (Pick.head))) rfl rfl (WO.loadA rfl rfl (Cells.own Pick.head) rfl rfl ?_)
                           refine WO.callR (r := stateV (sN (winL taps start 1))) rfl Try.call47 (fun L w hi => by rw [← on_win hln 0]; exact c_on w taps (winL taps start 0) h1.2 (win_ok h2.2 0) (by rw [win_len]; exact hln) (by omega)) rfl ?_
                           refine WO.alloc rfl rfl rfl (fun b4 hb4 => ?_)
                           refine WO.storeA rfl rfl rfl rfl Pick.head rfl rfl ?_
                           refine WO.nil ?_
                           refine W.block ?_
                           refine W.loop4 (fun (n : Nat) (fb : Nat) (sb : Nat) (xb : Nat) => 0 < n ∧ n ≤ q)
                             (fun (n : Nat) (fb : Nat) (sb : Nat) (xb : Nat) => [(10, .pointer (some ⟨xb, 0, none⟩)), (9, .int .i64 (n : Int)), (8, .pointer (some ⟨fb, 0, none⟩)), (7, .pointer (some ⟨sb, 0, none⟩))])
                             (fun (n : Nat) (fb : Nat) (sb : Nat) (xb : Nat) => [pt xb (.cells #[.int .u32 (sN (winL taps start n) : Int)] 67 (0, 0)), pt fb (.cells #[.int .u32 (sN start : Int)] 67 (0, 0)), pt sb (.cells #[.int .u32 (tN taps : Int), .int .i64 (taps.length : Int)] 64 (0, 0))])
                             (fun (n : Nat) (fb : Nat) (sb : Nat) (xb : Nat) => q - n) 1 _ _ _
                             (by exact ⟨by omega, hq.1⟩) ⟨rfl, rfl, rfl, rfl, trivial⟩ (by repeat (first | exact Sub.nil | refine Sub.cons (by repeat (first | exact Pick.head | apply Pick.tail)) ?_)) ?_
                           rintro n fb sb xb ⟨hn0, hnq⟩
                           refine W.seq ?_
                           refine W.sreg ?_
                           refine WO.loadA rfl rfl (Cells.own Pick.head) rfl rfl (WO.loadA rfl rfl (Cells.own (Pick.tail (Pick.head))) rfl rfl ?_)
                           refine WO.eqT rfl rfl (neq67 _ _) rfl ?_
                           refine WO.nil ?_
                           refine W.cond_bl rfl (fun c6 => ?_) (fun c6 => ?_)
                           · first
                             | (exfalso; omega)
                             | (refine W.skip ?_
                                refine W.seq ?_
                                refine W.block ?_
                                have hlt := per_lt hq hnq (fun e => absurd (congrArg sN e) (by assumption))
                                refine W.region ?_
                                refine WO.p rfl rfl (WO.ar rfl rfl rfl (by (first | (unfold in64; omega) | (unfold in64; omega))) rfl (WO.p rfl rfl ?_))
                                refine WO.nil ?_
                                refine W.seq ?_
                                refine W.sreg ?_
                                refine WO.loadA rfl rfl (Cells.own Pick.head) rfl rfl ?_
                                refine WO.nil ?_
                                refine W.region ?_
                                refine WO.alloc rfl rfl rfl (fun b5 hb5 => ?_)
                                refine WO.storeA rfl rfl rfl rfl Pick.head rfl rfl ?_
                                refine WO.nil ?_
                                refine W.region ?_
                                refine WO.loadA rfl rfl (Cells.own (Pick.tail (Pick.tail (Pick.tail (Pick.head))))) rfl rfl (WO.loadA rfl rfl (Cells.own Pick.head) rfl rfl ?_)
                                refine WO.callR (r := stateV (sN (winL taps start (n + 1)))) rfl Try.call47 (fun L w hi => by rw [← on_win hln n]; exact c_on w taps (winL taps start n) h1.2 (win_ok h2.2 n) (by rw [win_len]; exact hln) (by omega)) rfl ?_
                                refine WO.storeA rfl rfl rfl rfl Pick.head rfl rfl ?_
                                refine WO.nil ?_
                                refine' ⟨n + 1, _, _, _, ?hp, ?hmu, ⟨rfl, rfl, rfl, rfl, trivial⟩, ?hS⟩
                                case hS => repeat (first | exact Sub.nil | refine Sub.cons (by repeat (first | exact Pick.head | apply Pick.tail)) ?_)
                                case hp => exact ⟨by omega, hlt⟩
                                case hmu => omega)
                           · first
                             | (exfalso; omega)
                             | (refine W.exit (blk_same ?_)
                                refine W.sreg ?_
                                refine WO.p rfl rfl (WO.p rfl rfl (WO.p rfl rfl ?_))
                                refine WO.nil ?_
                                refine W.ret ?_
                                refine fin.ret (Res.two rfl (RV.tmp rfl) (RV.tmp rfl)) ?_
                                first | (have q1 := hnq; refine perV_ok hpe ?_; have e : sN (winL taps start n) = sN start := Decidable.not_not.1 (by assumption); have e2 := sN_inj (win_ok h2.2 n) h2.2 (win_len _ _ _) e; rw [per_at hq hn0 hnq e2]; exact hq) | exact perV_err (perE_k (by assumption)) (by assumption) | exact perV_err (perE_l (by assumption) (by omega)) (by decide) | exact perV_err (perE_b (chkS_of (by assumption) (by omega)) (by omega)) (by decide) | exact perV_err (perE_c (chkS_of (by assumption) (by omega)) (by omega) (per_last' (by omega) (by assumption))) (by decide))))
                 · first
                   | (exfalso; omega)
                   | (refine WO.no rfl rfl (WO.no rfl rfl (WO.no rfl rfl (WO.no rfl rfl (WO.no rfl rfl (WO.no rfl rfl (WO.no rfl rfl (WO.p rfl rfl (WO.p rfl rfl ?_))))))))
                      refine WO.nil ?_
                      refine W.cond_f rfl ?_
                      refine W.skip ?_
                      have hok : chkS taps start = 0 := chkS_of (by omega) (by omega)
                      have hpe : perE taps start = 0 := perE_d hok (by omega) (per_last (by first | (right; assumption) | (left; omega)))
                      obtain ⟨_, h12, hlast⟩ := perE_0 hpe
                      have h1 := chkB0.1 (chkS0.1 hok).1.1
                      have h2 := chkB0.1 (chkS0.1 hok).1.2
                      have hln := (chkS0.1 hok).2
                      obtain ⟨q, hq1, hq⟩ := per_ex h2.2 hln hlast
                      have hq2 : q ≤ 4096 := Nat.le_trans hq1 (Nat.le_trans (Nat.pow_le_pow_right (by decide) h12) (by decide))
                      refine W.sreg ?_
                      refine WO.p rfl rfl ?_
                      refine WO.callR (r := stepV (tN taps) taps.length) rfl Try.call45 (fun L w hi => c_newStep w _ taps (hR.later hi) h1.2 (by omega)) rfl ?_
                      refine WO.p rfl rfl ?_
                      refine WO.callR (r := stateV (sN start)) rfl Try.call46 (fun L w hi => c_newState w _ start (hU.later hi) h2.2 (by omega)) rfl ?_
                      refine WO.alloc rfl rfl rfl (fun b6 hb6 => ?_)
                      refine WO.alloc rfl rfl rfl (fun b7 hb7 => ?_)
                      refine WO.storeA rfl rfl rfl rfl (Pick.tail (Pick.head)) rfl rfl (WO.storeA rfl rfl rfl rfl (Pick.tail (Pick.head)) rfl rfl ?_)
                      refine WO.nil ?_
                      refine W.sreg ?_
                      refine WO.p rfl rfl ?_
                      refine WO.nil ?_
                      refine W.seq ?_
                      refine W.sreg ?_
                      refine WO.loadA rfl rfl (Cells.own (Pick.tail (Pick.head))) rfl rfl (WO.loadA rfl rfl (Cells.own Pick.head) rfl rfl ?_)
                      refine WO.callR (r := stateV (sN (winL taps start 1))) rfl Try.call47 (fun L w hi => by rw [← on_win hln 0]; exact c_on w taps (winL taps start 0) h1.2 (win_ok h2.2 0) (by rw [win_len]; exact hln) (by omega)) rfl ?_
                      refine WO.alloc rfl rfl rfl (fun b8 hb8 => ?_)
                      refine WO.storeA rfl rfl rfl rfl Pick.head rfl rfl ?_
                      refine WO.nil ?_
                      refine W.block ?_
                      refine W.loop4 (fun (n : Nat) (fb : Nat) (sb : Nat) (xb : Nat) => 0 < n ∧ n ≤ q)
                        (fun (n : Nat) (fb : Nat) (sb : Nat) (xb : Nat) => [(10, .pointer (some ⟨xb, 0, none⟩)), (9, .int .i64 (n : Int)), (8, .pointer (some ⟨fb, 0, none⟩)), (7, .pointer (some ⟨sb, 0, none⟩))])
                        (fun (n : Nat) (fb : Nat) (sb : Nat) (xb : Nat) => [pt xb (.cells #[.int .u32 (sN (winL taps start n) : Int)] 67 (0, 0)), pt fb (.cells #[.int .u32 (sN start : Int)] 67 (0, 0)), pt sb (.cells #[.int .u32 (tN taps : Int), .int .i64 (taps.length : Int)] 64 (0, 0))])
                        (fun (n : Nat) (fb : Nat) (sb : Nat) (xb : Nat) => q - n) 1 _ _ _
                        (by exact ⟨by omega, hq.1⟩) ⟨rfl, rfl, rfl, rfl, trivial⟩ (by repeat (first | exact Sub.nil | refine Sub.cons (by repeat (first | exact Pick.head | apply Pick.tail)) ?_)) ?_
                      rintro n fb sb xb ⟨hn0, hnq⟩
                      refine W.seq ?_
                      refine W.sreg ?_
                      refine WO.loadA rfl rfl (Cells.own Pick.head) rfl rfl (WO.loadA rfl rfl (Cells.own (Pick.tail (Pick.head))) rfl rfl ?_)
                      refine WO.eqT rfl rfl (neq67 _ _) rfl ?_
                      refine WO.nil ?_
                      refine W.cond_bl rfl (fun c7 => ?_) (fun c7 => ?_)
                      · first
                        | (exfalso; omega)
                        | (refine W.skip ?_
                           refine W.seq ?_
                           refine W.block ?_
                           have hlt := per_lt hq hnq (fun e => absurd (congrArg sN e) (by assumption))
                           refine W.region ?_
                           refine WO.p rfl rfl (WO.ar rfl rfl rfl (by (first | (unfold in64; omega) | (unfold in64; omega))) rfl (WO.p rfl rfl ?_))
                           refine WO.nil ?_
                           refine W.seq ?_
                           refine W.sreg ?_
                           refine WO.loadA rfl rfl (Cells.own Pick.head) rfl rfl ?_
                           refine WO.nil ?_
                           refine W.region ?_
                           refine WO.alloc rfl rfl rfl (fun b9 hb9 => ?_)
                           refine WO.storeA rfl rfl rfl rfl Pick.head rfl rfl ?_
                           refine WO.nil ?_
                           refine W.region ?_
                           refine WO.loadA rfl rfl (Cells.own (Pick.tail (Pick.tail (Pick.tail (Pick.head))))) rfl rfl (WO.loadA rfl rfl (Cells.own Pick.head) rfl rfl ?_)
                           refine WO.callR (r := stateV (sN (winL taps start (n + 1)))) rfl Try.call47 (fun L w hi => by rw [← on_win hln n]; exact c_on w taps (winL taps start n) h1.2 (win_ok h2.2 n) (by rw [win_len]; exact hln) (by omega)) rfl ?_
                           refine WO.storeA rfl rfl rfl rfl Pick.head rfl rfl ?_
                           refine WO.nil ?_
                           refine' ⟨n + 1, _, _, _, ?hp, ?hmu, ⟨rfl, rfl, rfl, rfl, trivial⟩, ?hS⟩
                           case hS => repeat (first | exact Sub.nil | refine Sub.cons (by repeat (first | exact Pick.head | apply Pick.tail)) ?_)
                           case hp => exact ⟨by omega, hlt⟩
                           case hmu => omega)
                      · first
                        | (exfalso; omega)
                        | (refine W.exit (blk_same ?_)
                           refine W.sreg ?_
                           refine WO.p rfl rfl (WO.p rfl rfl (WO.p rfl rfl ?_))
                           refine WO.nil ?_
                           refine W.ret ?_
                           refine fin.ret (Res.two rfl (RV.tmp rfl) (RV.tmp rfl)) ?_
                           first | (have q1 := hnq; refine perV_ok hpe ?_; have e : sN (winL taps start n) = sN start := Decidable.not_not.1 (by assumption); have e2 := sN_inj (win_ok h2.2 n) h2.2 (win_len _ _ _) e; rw [per_at hq hn0 hnq e2]; exact hq) | exact perV_err (perE_k (by assumption)) (by assumption) | exact perV_err (perE_l (by assumption) (by omega)) (by decide) | exact perV_err (perE_b (chkS_of (by assumption) (by omega)) (by omega)) (by decide) | exact perV_err (perE_c (chkS_of (by assumption) (by omega)) (by omega) (per_last' (by omega) (by assumption))) (by decide))))))
end Go.Proofs.Ytingkbglkaojdaa
