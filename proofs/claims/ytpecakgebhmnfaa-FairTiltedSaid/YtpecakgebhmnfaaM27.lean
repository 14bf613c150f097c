/-
  What is proved here: plain law: parts of a line, lines that are tilted, mirrored or read from their end. Conditions: none; each theorem states its own.
  What is proved here: the law of parts of a line. Conditions: none; each contract states its own.
-/
import Derived.Test.YtpecakgebhmnfaaM26
set_option linter.unusedVariables false
set_option linter.unusedSimpArgs false
namespace Go.Proofs.Ytpecakgebhmnfaa
open Go Go.TH
set_option maxRecDepth 10000
set_option maxHeartbeats 1000000
theorem stp_nn {B T : Int} (h : 0 ≤ B ∧ 0 ≤ T) (s : Nat) (d : Int) : 0 ≤ stp B T s d := by
  unfold stp
  have h1 : 0 ≤ ab d := by unfold ab; omega
  have h2 := Int.mul_nonneg h.1 h1
  have h3 := Int.mul_nonneg h.2 (Int.natCast_nonneg (chg s d))
  omega
theorem tl_nn {B T : Int} (h : 0 ≤ B ∧ 0 ≤ T) : ∀ (zs : List Int) (x y : Int) (s : Nat), 0 ≤ tl B T x y s zs
  | [], _, _, _ => Int.le_refl _
  | z :: zs, x, y, s => by
    have h1 := stp_nn h s (x - 2 * y + z)
    have h2 := tl_nn h zs y z (sg s (x - 2 * y + z))
    unfold tl; omega
theorem tl_0 {B T : Int} (h : 0 ≤ B ∧ 0 ≤ T) : ∀ (zs : List Int) (x y : Int) (s : Nat), tl B T x y 0 zs ≤ tl B T x y s zs
  | [], _, _, _ => Int.le_refl _
  | z :: zs, x, y, s => by
    have e1 : stp B T 0 (x - 2 * y + z) ≤ stp B T s (x - 2 * y + z) := by
      unfold stp
      have : chg 0 (x - 2 * y + z) = 0 := by unfold chg; simp
      rw [this]
      have := Int.mul_nonneg h.2 (Int.natCast_nonneg (chg s (x - 2 * y + z)))
      simp; omega
    have e2 : tl B T y z (sg 0 (x - 2 * y + z)) zs ≤ tl B T y z (sg s (x - 2 * y + z)) zs := by
      by_cases g : x - 2 * y + z = 0
      · rw [g, show sg 0 0 = 0 from rfl, show sg s 0 = s from by simp [sg]]; exact tl_0 h zs y z s
      · rw [show sg 0 (x - 2 * y + z) = sg s (x - 2 * y + z) from sOf_step g]; exact Int.le_refl _
    unfold tl; omega
theorem costG_nn {B T : Int} (h : 0 ≤ B ∧ 0 ≤ T) : ∀ x : List Int, 0 ≤ costG B T x
  | [] => by rw [costG_short (by simp)]; exact Int.le_refl _
  | [_] => by rw [costG_short (by simp)]; exact Int.le_refl _
  | _ :: _ :: _ => by rw [costG_tl]; exact tl_nn h _ _ _ _
theorem cost_rest {B T : Int} (h : 0 ≤ B ∧ 0 ≤ T) (x y : Int) (s : Nat) : ∀ b : List Int, costG B T b ≤ tl B T x y s b
  | [] => by rw [costG_short (by simp)]; exact tl_nn h _ _ _ _
  | [_] => by rw [costG_short (by simp)]; exact tl_nn h _ _ _ _
  | z :: z2 :: r => by
    rw [costG_tl]
    have h1 := stp_nn h s (x - 2 * y + z)
    have h2 := stp_nn h (sg s (x - 2 * y + z)) (y - 2 * z + z2)
    have h3 := tl_0 h r z z2 (sg (sg s (x - 2 * y + z)) (y - 2 * z + z2))
    rw [show tl B T x y s (z :: z2 :: r) = stp B T s (x - 2 * y + z) + (stp B T (sg s (x - 2 * y + z)) (y - 2 * z + z2) + tl B T z z2 (sg (sg s (x - 2 * y + z)) (y - 2 * z + z2)) r) from rfl]
    omega
theorem tl_app {B T : Int} (h : 0 ≤ B ∧ 0 ≤ T) (b : List Int) : ∀ (zs : List Int) (x y : Int) (s : Nat), tl B T x y s zs + costG B T b ≤ tl B T x y s (zs ++ b)
  | [], x, y, s => by have := cost_rest h x y s b; simpa [tl] using this
  | z :: zs, x, y, s => by
    have := tl_app h b zs y z (sg s (x - 2 * y + z))
    rw [List.cons_append]
    unfold tl; omega
theorem cost_app {B T : Int} (h : 0 ≤ B ∧ 0 ≤ T) : ∀ a b : List Int, costG B T a + costG B T b ≤ costG B T (a ++ b)
  | [], b => by rw [costG_short (x := []) (by simp)]; simp
  | [x], [] => by rw [costG_short (x := [x]) (by simp), costG_short (x := []) (by simp), costG_short (x := [x] ++ []) (by simp)]; simp
  | [x], [y] => by rw [costG_short (x := [x]) (by simp), costG_short (x := [y]) (by simp)]; have := costG_nn h ([x] ++ [y]); omega
  | [x], y :: z :: r => by
    rw [costG_short (x := [x]) (by simp), List.cons_append, List.nil_append, costG_tl, costG_tl]
    have h1 := stp_nn h 0 (x - 2 * y + z)
    have h2 := tl_0 h r y z (sg 0 (x - 2 * y + z))
    rw [show tl B T x y 0 (z :: r) = stp B T 0 (x - 2 * y + z) + tl B T y z (sg 0 (x - 2 * y + z)) r from rfl]
    omega
  | x :: y :: a, b => by
    rw [List.cons_append, List.cons_append, costG_tl, costG_tl]
    exact tl_app h b a x y 0
theorem InS_take {l : List (Int × Int)} {x : List Int} {k : Nat} (h : InS l x) : InS (l.take k) (x.take k) := by
  refine ⟨by rw [List.length_take, List.length_take, h.1], fun i hi => ?_⟩
  rw [List.length_take] at hi
  have := h.2 i (by omega)
  rwa [List.getD_eq_getElem?_getD, List.getD_eq_getElem?_getD, List.getElem?_take, List.getElem?_take, if_pos (by omega), if_pos (by omega), ← List.getD_eq_getElem?_getD, ← List.getD_eq_getElem?_getD]
theorem InS_drop {l : List (Int × Int)} {x : List Int} {k : Nat} (h : InS l x) : InS (l.drop k) (x.drop k) := by
  refine ⟨by rw [List.length_drop, List.length_drop, h.1], fun i hi => ?_⟩
  rw [List.length_drop] at hi
  have := h.2 (k + i) (by omega)
  rwa [List.getD_eq_getElem?_getD, List.getD_eq_getElem?_getD, List.getElem?_drop, List.getElem?_drop, ← List.getD_eq_getElem?_getD, ← List.getD_eq_getElem?_getD]
theorem cost_parts {t : Int} (ht : 0 ≤ t) (k : Nat) (x : List Int) : costL t (x.take k) + costL t (x.drop k) ≤ costL t x := by
  have := cost_app (B := 1) (T := t) ⟨by omega, ht⟩ (x.take k) (x.drop k)
  rw [List.take_append_drop] at this
  simpa [costG_1] using this
theorem chk_take {l : List (Int × Int)} {t : Int} (h : chkF l t = 0) {k : Nat} (hk : 1 ≤ k) : chkF (l.take k) t = 0 := by
  have h := chkF0.1 h
  exact chkF0.2 ⟨by rw [List.length_take]; omega, h.2.1, fun p hp => h.2.2 p (List.mem_of_mem_take hp)⟩
theorem chk_drop {l : List (Int × Int)} {t : Int} (h : chkF l t = 0) {k : Nat} (hk : k < l.length) : chkF (l.drop k) t = 0 := by
  have h := chkF0.1 h
  exact chkF0.2 ⟨by rw [List.length_drop]; omega, h.2.1, fun p hp => h.2.2 p (List.mem_of_mem_drop hp)⟩
theorem faC_le {l : List (Int × Int)} {t : Int} (hc : chkF l t = 0) {x : List Int} (hx : InS l x) : faC l t ≤ costL t x := by
  have hcf := chkF0.1 hc
  have h := best_fm (B := 1) (T := t) hcf.2.2 hcf.1.1
  have e2 : faC l t = bestC 1 t l := if_pos hc
  have := h.1.le x (mem_lin.2 hx)
  rw [e2, ← h.2]
  simpa [costG_1] using this
theorem faC_in {l : List (Int × Int)} {t : Int} (hc : chkF l t = 0) : InS l (faL l t) ∧ costL t (faL l t) = faC l t := by
  have hcf := chkF0.1 hc
  have h := best_fm (B := 1) (T := t) hcf.2.2 hcf.1.1
  have e1 : faL l t = bestL 1 t l := if_pos hc
  have e2 : faC l t = bestC 1 t l := if_pos hc
  rw [e1, e2]
  exact ⟨mem_lin.1 h.1.mem, by rw [← costG_1]; exact h.2⟩
theorem fa_parts {l : List (Int × Int)} {t : Int} (hc : chkF l t = 0) {k : Nat} (h1 : 1 ≤ k) (h2 : k < l.length) : faC (l.take k) t + faC (l.drop k) t ≤ faC l t := by
  have h := faC_in hc
  have h3 := faC_le (chk_take hc h1) (InS_take (k := k) h.1)
  have h4 := faC_le (chk_drop hc h2) (InS_drop (k := k) h.1)
  have h5 := cost_parts (chkF0.1 hc).2.1.1 k (faL l t)
  omega
end Go.Proofs.Ytpecakgebhmnfaa
namespace Go.Proofs.Ytpecakgebhmnfaa
open Go Go.TH
attribute [local irreducible] W WO pt
set_option maxRecDepth 10000
set_option maxHeartbeats 1000000
theorem sub_take {α : Type} {enc : α → List Value} {sz B : Nat} {w : World} {a : Option Addr} {n c m : Nat} {xs : List α} (h : RdF enc sz B w (.slice a n c) xs) (h1 : m ≤ n) (h2 : m ≤ c) : RdF enc sz B w (.slice (if c = 0 then a else ofs a (0 * sz)) (m - 0) (c - 0)) (xs.take m) := by
  have := h.sub (lo := 0) (hi := m) (mx := c) (by omega) h2 h1
  exact this
theorem sub_drop {α : Type} {enc : α → List Value} {sz B : Nat} {w : World} {a : Option Addr} {n c m : Nat} {xs : List α} (h : RdF enc sz B w (.slice a n c) xs) (hn : xs.length = n) (h1 : m ≤ n) (h2 : n ≤ c) : RdF enc sz B w (.slice (if c = m then a else ofs a (m * sz)) (n - m) (c - m)) (xs.drop m) := by
  have := h.sub (lo := m) (hi := n) (mx := c) h1 h2 (Nat.le_refl _)
  rw [show (xs.drop m).take (n - m) = xs.drop m from List.take_of_length_le (by rw [List.length_drop]; omega)] at this
  exact this
theorem cost_bd {t : Int} (h : 0 ≤ t ∧ t ≤ 1000000) {x : List Int} (hx : OkI x) (hl : x.length ≤ 24) : 0 ≤ costL t x ∧ costL t x ≤ 1000000000 := by
  have h1 := mea_bd hx
  have h2 := turn_bd (n := chL x) h (by omega)
  have h3 : t * (chL x : Int) ≤ 1000000 * 24 := Int.mul_le_mul h.2 (by omega) (by omega) (by omega)
  unfold costL; omega
theorem fa_bd {l : List (Int × Int)} {t : Int} (hc : chkF l t = 0) : 0 ≤ faC l t ∧ faC l t ≤ 1000000000 := by
  have hcf := chkF0.1 hc
  have h := faC_in hc
  rw [← h.2]
  exact cost_bd hcf.2.1 (InS.ok h.1 hcf.2.2) (by rw [h.1.1]; omega)
theorem law_FairParts (w : World) (o u : Value) (l : List (Int × Int)) (t : Int) (at_ : Nat) (bs : List Int) (hR : RdF encP 2 w.heap.size w o l) (hv : CapS o l.length) (hB : RdF encU 1 w.heap.size w u bs) (hb : ∀ x ∈ bs, 0 ≤ x ∧ x ≤ 255) (ha : at_ ≤ 255) : Ret Try.prog 10 [.agg #[o, .int .i64 t], .int .u8 (at_ : Int), u].toArray w (.bool true) := by
  refine Ret.of mixed tyTab Try.func10 rfl rfl ?_
  obtain ⟨va, vc, rfl, hcap⟩ := hv
  replace hR : RdF encP 2 (fnCx mixed tyTab Try.f10.ntmps w).B (fnCx mixed tyTab Try.f10.ntmps w).w0 (.slice va l.length vc) l := hR
  replace hB : RdF encU 1 (fnCx mixed tyTab Try.f10.ntmps w).B (fnCx mixed tyTab Try.f10.ntmps w).w0 u bs := hB
  have hoc := hR.sl.oc
  refine W.sreg ?_
  refine WO.boxA rfl rfl (fun b1 hb1 => ?_)
  refine WO.p rfl rfl ?_
  refine WO.nil ?_
  refine W.seq ?_
  refine W.sreg ?_
  refine WO.loadA rfl rfl (Cells.own Pick.head) rfl rfl ?_
  refine WO.callR rfl Try.call32 (fun L w hi => law_fine w _ l t (hR.later hi)) rfl ?_
  refine WO.p rfl rfl (WO.p rfl rfl ?_)
  refine WO.guard_nbl rfl rfl (fun c1 => ?_) (fun c1 => ?_)
  · first
    | (exfalso; omega)
    | (refine WO.no rfl rfl (WO.no rfl rfl (WO.no rfl rfl (WO.no rfl rfl (WO.p rfl rfl (WO.p rfl rfl (WO.no rfl rfl (WO.no rfl rfl (WO.no rfl rfl (WO.p rfl rfl ?_)))))))))
       refine WO.nil ?_
       refine W.cond_t rfl ?_
       refine W.sreg ?_
       refine WO.callR rfl Try.call13 (fun L w hi => l_Works w) rfl ?_
       refine WO.p rfl rfl ?_
       refine WO.nil ?_
       refine W.ret ?_
       first | exact fin.ret (Res.one rfl (RV.tmp rfl)) rfl | (exfalso; omega))
  · first
    | (exfalso; omega)
    | (refine WO.go' rfl (WO.field0 rfl rfl rfl (WO.go' rfl (WO.load rfl rfl (Cell.own Pick.head rfl) rfl (WO.go' rfl ?_))))
       refine' WO.len (n := _) rfl rfl ?hs rfl ?_
       case hs => (first | exact hR.sl)
       refine WO.pg rfl rfl rfl (WO.p rfl rfl (WO.p rfl rfl ?_))
       refine WO.guard_bl rfl rfl (fun c2 => ?_) (fun c2 => ?_)
       · first
         | (exfalso; omega)
         | (refine WO.no rfl rfl (WO.no rfl rfl (WO.no rfl rfl (WO.p rfl rfl ?_)))
            refine WO.nil ?_
            refine W.cond_t rfl ?_
            refine W.sreg ?_
            refine WO.callR rfl Try.call13 (fun L w hi => l_Works w) rfl ?_
            refine WO.p rfl rfl ?_
            refine WO.nil ?_
            refine W.ret ?_
            first | exact fin.ret (Res.one rfl (RV.tmp rfl)) rfl | (exfalso; omega))
       · first
         | (exfalso; omega)
         | (refine WO.pg rfl rfl rfl (WO.go' rfl ?_)
            refine' WO.len (n := _) rfl rfl ?hs rfl ?_
            case hs => (first | exact hB.sl)
            refine WO.pg rfl rfl rfl (WO.p rfl rfl ?_)
            refine WO.nil ?_
            refine W.cond_bl rfl (fun c3 => ?_) (fun c3 => ?_)
            · first
              | (exfalso; omega)
              | (refine W.sreg ?_
                 refine WO.callR rfl Try.call13 (fun L w hi => l_Works w) rfl ?_
                 refine WO.p rfl rfl ?_
                 refine WO.nil ?_
                 refine W.ret ?_
                 first | exact fin.ret (Res.one rfl (RV.tmp rfl)) rfl | (exfalso; omega))
            · first
              | (exfalso; omega)
              | (refine W.skip ?_
                 have hc0 : chkF l t = 0 := by omega
                 have hcf := chkF0.1 hc0
                 obtain ⟨m, hm⟩ : ∃ m, m = l.length - 1 := ⟨_, rfl⟩
                 obtain ⟨k, hk⟩ : ∃ k, k = 1 + at_ % m := ⟨_, rfl⟩
                 have hmd : at_ % m < m := Nat.mod_lt _ (by omega)
                 refine W.sreg ?_
                 refine WO.p rfl rfl (WO.conv64 rfl rfl rfl (by (first | (unfold in64; omega) | (unfold in64; omega))) rfl (WO.field0 rfl rfl rfl (WO.load rfl rfl (Cell.own Pick.head rfl) rfl ?_)))
                 refine' WO.len (n := _) rfl rfl ?hs rfl ?_
                 case hs => (first | exact hR.sl)
                 refine WO.sub rfl rfl (by unfold in64; omega) rfl ?_
                 rw [show (l.length : Int) - 1 = (m : Int) by omega]
                 refine WO.remN rfl rfl (by omega) rfl ?_
                 refine WO.add rfl rfl (by unfold in64; omega) rfl ?_
                 rw [show 1 + ((at_ % m : Nat) : Int) = (k : Int) by omega]
                 refine WO.p rfl rfl ?_
                 refine WO.nil ?_
                 refine W.seq ?_
                 refine W.drawD 8 [.r 0 [], .b 1 [], .r 2 [], .r 3 [], .r 4 [], .b 5 [], .r 6 [], .a 7 8 (.cells #[.slice none 0 0, .int .i64 0] 24 (0, 0))] [] (A0 := []) (Sub.refl _) (by kernel_rfl) ?_ ?_
                 · exact (ALok.r (ALok.b (ALok.r (ALok.r (ALok.r (ALok.b (ALok.r (ALok.cons rfl rfl rfl rfl rfl ALok.nil))))))))
                 refine' DT.r rfl rfl rfl ?hq ?_
                 case hq =>
                   refine WO.field0 rfl rfl rfl ?_
                   exact WO.nil ⟨rfl, rfl⟩
                 refine' DT.b rfl rfl rfl ?hq ?_
                 case hq =>
                   refine WO.load rfl rfl (Cell.own Pick.head rfl) rfl ?_
                   exact WO.nil ⟨rfl, rfl⟩
                 refine' DT.r rfl rfl rfl ?hq ?_
                 case hq =>
                   refine WO.p rfl rfl ?_
                   exact WO.nil ⟨rfl, rfl⟩
                 refine' DT.r rfl rfl rfl ?hq ?_
                 case hq =>
                   refine WO.slSl (lo := 0) (hi := k) (mx := vc) rfl rfl bnd.no (bnd.at rfl) bnd.no (by simp) (by omega) (by omega) (by omega) rfl ?_
                   exact WO.nil ⟨rfl, rfl⟩
                 refine' DT.r rfl rfl rfl ?hq ?_
                 case hq =>
                   refine WO.fieldL rfl rfl rfl ?_
                   exact WO.nil ⟨rfl, rfl⟩
                 refine' DT.b rfl rfl rfl ?hq ?_
                 case hq =>
                   refine WO.load rfl rfl (Cell.own Pick.head rfl) rfl ?_
                   exact WO.nil ⟨rfl, rfl⟩
                 refine' DT.r rfl rfl rfl ?hq ?_
                 case hq =>
                   refine' WO.build (cs := _) rfl rfl rfl ?hf rfl ?_
                   case hf => (conv => lhs; simp [-List.getD_eq_getElem?_getD, fillL, vcl, wrl, TTab.pl?.lget']) <;> rfl
                   exact WO.nil ⟨rfl, rfl⟩
                 refine DT.a (fun b2 => ?_)
                 refine DT.nil [_, _] rfl ?_
                 refine WO.storeA rfl rfl rfl rfl Pick.head rfl rfl ?_
                 refine WO.nil ?_
                 refine W.seq ?_
                 refine W.drawD 8 [.r 0 [], .b 1 [], .r 2 [], .r 3 [], .r 4 [], .b 5 [], .r 6 [], .a 7 9 (.cells #[.slice none 0 0, .int .i64 0] 24 (0, 0))] [] (A0 := []) (Sub.refl _) (by kernel_rfl) ?_ ?_
                 · exact (ALok.r (ALok.b (ALok.r (ALok.r (ALok.r (ALok.b (ALok.r (ALok.cons rfl rfl rfl rfl rfl ALok.nil))))))))
                 refine' DT.r rfl rfl rfl ?hq ?_
                 case hq =>
                   refine WO.field0 rfl rfl rfl ?_
                   exact WO.nil ⟨rfl, rfl⟩
                 refine' DT.b rfl rfl rfl ?hq ?_
                 case hq =>
                   refine WO.load rfl rfl (Cell.own (Pick.tail (Pick.head)) rfl) rfl ?_
                   exact WO.nil ⟨rfl, rfl⟩
                 refine' DT.r rfl rfl rfl ?hq ?_
                 case hq =>
                   refine WO.p rfl rfl ?_
                   exact WO.nil ⟨rfl, rfl⟩
                 refine' DT.r rfl rfl rfl ?hq ?_
                 case hq =>
                   refine WO.slSl (lo := k) (hi := l.length) (mx := vc) rfl rfl (bnd.at rfl) bnd.no bnd.no (by simp) (by omega) (by omega) (by omega) rfl ?_
                   exact WO.nil ⟨rfl, rfl⟩
                 refine' DT.r rfl rfl rfl ?hq ?_
                 case hq =>
                   refine WO.fieldL rfl rfl rfl ?_
                   exact WO.nil ⟨rfl, rfl⟩
                 refine' DT.b rfl rfl rfl ?hq ?_
                 case hq =>
                   refine WO.load rfl rfl (Cell.own (Pick.tail (Pick.head)) rfl) rfl ?_
                   exact WO.nil ⟨rfl, rfl⟩
                 refine' DT.r rfl rfl rfl ?hq ?_
                 case hq =>
                   refine' WO.build (cs := _) rfl rfl rfl ?hf rfl ?_
                   case hf => (conv => lhs; simp [-List.getD_eq_getElem?_getD, fillL, vcl, wrl, TTab.pl?.lget']) <;> rfl
                   exact WO.nil ⟨rfl, rfl⟩
                 refine DT.a (fun b3 => ?_)
                 refine DT.nil [_, _, _] rfl ?_
                 refine WO.storeA rfl rfl rfl rfl Pick.head rfl rfl ?_
                 refine WO.nil ?_
                 refine W.sreg ?_
                 refine WO.loadA rfl rfl (Cells.own (Pick.tail (Pick.tail (Pick.head)))) rfl rfl (WO.p rfl rfl ?_)
                 refine WO.call rfl Try.call33 (fun L w hi => law_Line w _ u l t bs (hR.later hi) (hB.later hi) hb hcf.2.2 hcf.1.2) rfl ?_
                 rintro r3 _ ⟨_, rfl, rfl⟩
                 refine WO.fact (fun L w hi => capOw (enc := encI) (e := 2) (sz := 1) (v := r3) (xs := liL l bs) Pick.head hi) (fun hcp => ?_)
                 obtain ⟨ya, yc, rfl, hyc⟩ := hcp
                 rw [liL_len] at hyc
                 have hll := liL_len l bs
                 refine WO.p rfl rfl ?_
                 refine WO.nil ?_
                 have hin := liL_in hcf.2.2 hb
                 have hk1 := ckV_line hc0 hin
                 have ht := chk_take hc0 (show 1 ≤ k by omega)
                 have hd := chk_drop hc0 (show k < l.length by omega)
                 have hk2 := ckV_line ht (InS_take (k := k) hin)
                 have hk3 := ckV_line hd (InS_drop (k := k) hin)
                 have hcp := cost_parts hcf.2.1.1 k (liL l bs)
                 have hfp := fa_parts hc0 (show 1 ≤ k by omega) (show k < l.length by omega)
                 have hb1 := cost_bd hcf.2.1 (InS.ok (InS_take (k := k) hin) (chkF0.1 ht).2.2) (by rw [List.length_take]; omega)
                 have hb2 := cost_bd hcf.2.1 (InS.ok (InS_drop (k := k) hin) (chkF0.1 hd).2.2) (by rw [List.length_drop]; omega)
                 have hb3 := fa_bd ht
                 have hb4 := fa_bd hd
                 refine W.sreg ?_
                 refine WO.loadA rfl rfl (Cells.own (Pick.tail (Pick.tail (Pick.tail (Pick.head))))) rfl rfl (WO.p rfl rfl ?_)
                 refine WO.callR (r := .tuple #[.int .i64 (costL t (liL l bs)), .int .i64 0]) rfl Try.call16 (fun L w hi => by rw [← hk1]; exact c_Check w _ _ l t (liL l bs) (hR.later hi) (RdF.of_ow (e := 2) encI_ok (by repeat (first | exact Pick.head | apply Pick.tail)) hi)) rfl ?_
                 refine WO.p rfl rfl (WO.p rfl rfl (WO.p rfl rfl (WO.p rfl rfl (WO.p rfl rfl ?_))))
                 refine WO.nil ?_
                 refine W.seq ?_
                 refine W.drawD 9 [.b 0 [], .r 1 [], .r 2 [], .r 3 [], .b 4 [], .r 5 [], .r 6 [], .r 7 [], .r 8 []] [] (A0 := []) (Sub.refl _) (by kernel_rfl) ?_ ?_
                 · exact (ALok.b (ALok.r (ALok.r (ALok.r (ALok.b (ALok.r (ALok.r (ALok.r (ALok.r ALok.nil)))))))))
                 refine' DT.b rfl rfl rfl ?hq ?_
                 case hq =>
                   refine WO.loadA rfl rfl (Cells.own (Pick.tail (Pick.tail (Pick.head)))) rfl rfl ?_
                   exact WO.nil ⟨rfl, rfl⟩
                 refine' DT.r rfl rfl rfl ?hq ?_
                 case hq =>
                   refine WO.p rfl rfl ?_
                   exact WO.nil ⟨rfl, rfl⟩
                 refine' DT.r rfl rfl rfl ?hq ?_
                 case hq =>
                   refine WO.p rfl rfl ?_
                   exact WO.nil ⟨rfl, rfl⟩
                 refine' DT.r rfl rfl rfl ?hq ?_
                 case hq =>
                   refine WO.slSl (lo := 0) (hi := k) (mx := yc) rfl rfl bnd.no (bnd.at rfl) bnd.no (by simp) (by omega) (by omega) (by omega) rfl ?_
                   exact WO.nil ⟨rfl, rfl⟩
                 refine' DT.b rfl rfl rfl ?hq ?_
                 case hq =>
                   refine WO.callR (r := .tuple #[.int .i64 (costL t ((liL l bs).take k)), .int .i64 0]) rfl Try.call16 (fun L w hi => by rw [← hk2]; exact c_Check w _ _ (l.take k) t ((liL l bs).take k) (sub_take (hR.later hi) (by omega) (by omega)) (sub_take (RdF.of_ow (e := 2) encI_ok (by repeat (first | exact Pick.head | apply Pick.tail)) hi) (by omega) (by omega))) rfl ?_
                   exact WO.nil ⟨rfl, rfl⟩
                 refine' DT.r rfl rfl rfl ?hq ?_
                 case hq =>
                   refine WO.p rfl rfl ?_
                   exact WO.nil ⟨rfl, rfl⟩
                 refine' DT.r rfl rfl rfl ?hq ?_
                 case hq =>
                   refine WO.p rfl rfl ?_
                   exact WO.nil ⟨rfl, rfl⟩
                 refine' DT.r rfl rfl rfl ?hq ?_
                 case hq =>
                   refine WO.p rfl rfl ?_
                   exact WO.nil ⟨rfl, rfl⟩
                 refine' DT.r rfl rfl rfl ?hq ?_
                 case hq =>
                   refine WO.p rfl rfl ?_
                   exact WO.nil ⟨rfl, rfl⟩
                 refine DT.nil [_, _, _, _] rfl ?_
                 refine WO.p rfl rfl ?_
                 refine WO.nil ?_
                 refine W.seq ?_
                 refine W.drawD 9 [.b 0 [], .r 1 [], .r 2 [], .r 3 [], .b 4 [], .r 5 [], .r 6 [], .r 7 [], .r 8 []] [] (A0 := []) (Sub.refl _) (by kernel_rfl) ?_ ?_
                 · exact (ALok.b (ALok.r (ALok.r (ALok.r (ALok.b (ALok.r (ALok.r (ALok.r (ALok.r ALok.nil)))))))))
                 refine' DT.b rfl rfl rfl ?hq ?_
                 case hq =>
                   refine WO.loadA rfl rfl (Cells.own (Pick.tail (Pick.head))) rfl rfl ?_
                   exact WO.nil ⟨rfl, rfl⟩
                 refine' DT.r rfl rfl rfl ?hq ?_
                 case hq =>
                   refine WO.p rfl rfl ?_
                   exact WO.nil ⟨rfl, rfl⟩
                 refine' DT.r rfl rfl rfl ?hq ?_
                 case hq =>
                   refine WO.p rfl rfl ?_
                   exact WO.nil ⟨rfl, rfl⟩
                 refine' DT.r rfl rfl rfl ?hq ?_
                 case hq =>
                   refine WO.slSl (lo := k) (hi := (liL l bs).length) (mx := yc) rfl rfl (bnd.at rfl) bnd.no bnd.no (by simp) (by omega) (by omega) (by omega) rfl ?_
                   exact WO.nil ⟨rfl, rfl⟩
                 refine' DT.b rfl rfl rfl ?hq ?_
                 case hq =>
                   refine WO.callR (r := .tuple #[.int .i64 (costL t ((liL l bs).drop k)), .int .i64 0]) rfl Try.call16 (fun L w hi => by rw [← hk3]; exact c_Check w _ _ (l.drop k) t ((liL l bs).drop k) (sub_drop (hR.later hi) rfl (by omega) (by omega)) (sub_drop (RdF.of_ow (e := 2) encI_ok (by repeat (first | exact Pick.head | apply Pick.tail)) hi) rfl (by omega) (by omega))) rfl ?_
                   exact WO.nil ⟨rfl, rfl⟩
                 refine' DT.r rfl rfl rfl ?hq ?_
                 case hq =>
                   refine WO.p rfl rfl ?_
                   exact WO.nil ⟨rfl, rfl⟩
                 refine' DT.r rfl rfl rfl ?hq ?_
                 case hq =>
                   refine WO.p rfl rfl ?_
                   exact WO.nil ⟨rfl, rfl⟩
                 refine' DT.r rfl rfl rfl ?hq ?_
                 case hq =>
                   refine WO.p rfl rfl ?_
                   exact WO.nil ⟨rfl, rfl⟩
                 refine' DT.r rfl rfl rfl ?hq ?_
                 case hq =>
                   refine WO.p rfl rfl ?_
                   exact WO.nil ⟨rfl, rfl⟩
                 refine DT.nil [_, _, _, _] rfl ?_
                 refine WO.p rfl rfl ?_
                 refine WO.nil ?_
                 refine W.seq ?_
                 refine W.sreg ?_
                 refine WO.p rfl rfl (WO.p rfl rfl (WO.p rfl rfl ?_))
                 refine WO.guard_bl rfl rfl (fun c4 => ?_) (fun c4 => ?_)
                 · first
                   | (exfalso; omega)
                   | (refine WO.no rfl rfl (WO.no rfl rfl (WO.p rfl rfl (WO.p rfl rfl (WO.no rfl rfl (WO.no rfl rfl (WO.p rfl rfl (WO.p rfl rfl (WO.no rfl rfl (WO.no rfl rfl (WO.no rfl rfl (WO.no rfl rfl ?_)))))))))))
                      refine WO.no rfl rfl (WO.p rfl rfl ?_)
                      refine WO.nil ?_
                      refine W.cond_t rfl ?_
                      refine W.sreg ?_
                      refine WO.p rfl rfl ?_
                      refine WO.nil ?_
                      refine W.ret ?_
                      first | exact fin.ret (Res.one rfl (RV.tmp rfl)) rfl | (exfalso; omega))
                 · first
                   | (exfalso; omega)
                   | (refine WO.pg rfl rfl rfl (WO.pg rfl rfl rfl (WO.p rfl rfl (WO.p rfl rfl ?_)))
                      refine WO.guard_bl rfl rfl (fun c5 => ?_) (fun c5 => ?_)
                      · first
                        | (exfalso; omega)
                        | (refine WO.no rfl rfl (WO.no rfl rfl (WO.p rfl rfl (WO.p rfl rfl (WO.no rfl rfl (WO.no rfl rfl (WO.no rfl rfl (WO.no rfl rfl (WO.no rfl rfl (WO.p rfl rfl ?_)))))))))
                           refine WO.nil ?_
                           refine W.cond_t rfl ?_
                           refine W.sreg ?_
                           refine WO.p rfl rfl ?_
                           refine WO.nil ?_
                           refine W.ret ?_
                           first | exact fin.ret (Res.one rfl (RV.tmp rfl)) rfl | (exfalso; omega))
                      · first
                        | (exfalso; omega)
                        | (refine WO.pg rfl rfl rfl (WO.pg rfl rfl rfl (WO.p rfl rfl (WO.p rfl rfl ?_)))
                           refine WO.guard_bl rfl rfl (fun c6 => ?_) (fun c6 => ?_)
                           · first
                             | (exfalso; omega)
                             | (refine WO.no rfl rfl (WO.no rfl rfl (WO.no rfl rfl (WO.no rfl rfl (WO.no rfl rfl (WO.p rfl rfl ?_)))))
                                refine WO.nil ?_
                                refine W.cond_t rfl ?_
                                refine W.sreg ?_
                                refine WO.p rfl rfl ?_
                                refine WO.nil ?_
                                refine W.ret ?_
                                first | exact fin.ret (Res.one rfl (RV.tmp rfl)) rfl | (exfalso; omega))
                           · first
                             | (exfalso; omega)
                             | (refine WO.pg rfl rfl rfl (WO.pg rfl rfl rfl (WO.go' rfl (WO.ar rfl rfl rfl (by (first | (unfold in64; omega) | (unfold in64; omega))) rfl (WO.pg rfl rfl rfl (WO.pg rfl rfl rfl (WO.p rfl rfl ?_))))))
                                refine WO.nil ?_
                                refine W.cond_bl rfl (fun c7 => ?_) (fun c7 => ?_)
                                · first
                                  | (exfalso; omega)
                                  | (refine W.sreg ?_
                                     refine WO.p rfl rfl ?_
                                     refine WO.nil ?_
                                     refine W.ret ?_
                                     first | exact fin.ret (Res.one rfl (RV.tmp rfl)) rfl | (exfalso; omega))
                                · first
                                  | (exfalso; omega)
                                  | (refine W.skip ?_
                                     refine W.sreg ?_
                                     refine WO.loadA rfl rfl (Cells.own (Pick.tail (Pick.tail (Pick.tail (Pick.head))))) rfl rfl ?_
                                     refine WO.call (Post := fun r Hq => ∃ x : Value, r = .tuple #[x, .int .i64 (faC l t), .int .i64 0] ∧ Hq = [OwE encI 2 1 x (faL l t)]) rfl Try.call21 (fun L w hi => by have h := c_Fairest w _ l t (hR.later hi); rw [hc0] at h; exact h) rfl ?_
                                     rintro _ _ ⟨f1, rfl, rfl⟩
                                     refine WO.p rfl rfl (WO.p rfl rfl (WO.p rfl rfl (WO.p rfl rfl (WO.p rfl rfl (WO.p rfl rfl (WO.p rfl rfl ?_))))))
                                     refine WO.nil ?_
                                     refine W.sreg ?_
                                     refine WO.loadA rfl rfl (Cells.own (Pick.tail (Pick.tail (Pick.tail (Pick.head))))) rfl rfl ?_
                                     refine WO.call (Post := fun r Hq => ∃ x : Value, r = .tuple #[x, .int .i64 (faC (l.take k) t), .int .i64 0] ∧ Hq = [OwE encI 2 1 x (faL (l.take k) t)]) rfl Try.call21 (fun L w hi => by have h := c_Fairest w _ (l.take k) t (sub_take (hR.later hi) (by omega) (by omega)); rw [ht] at h; exact h) rfl ?_
                                     rintro _ _ ⟨f2, rfl, rfl⟩
                                     refine WO.p rfl rfl (WO.p rfl rfl (WO.p rfl rfl (WO.p rfl rfl (WO.p rfl rfl (WO.p rfl rfl (WO.p rfl rfl ?_))))))
                                     refine WO.nil ?_
                                     refine W.sreg ?_
                                     refine WO.loadA rfl rfl (Cells.own (Pick.tail (Pick.tail (Pick.tail (Pick.head))))) rfl rfl ?_
                                     refine WO.call (Post := fun r Hq => ∃ x : Value, r = .tuple #[x, .int .i64 (faC (l.drop k) t), .int .i64 0] ∧ Hq = [OwE encI 2 1 x (faL (l.drop k) t)]) rfl Try.call21 (fun L w hi => by have h := c_Fairest w _ (l.drop k) t (sub_drop (hR.later hi) rfl (by omega) (by omega)); rw [hd] at h; exact h) rfl ?_
                                     rintro _ _ ⟨f3, rfl, rfl⟩
                                     refine WO.p rfl rfl (WO.p rfl rfl (WO.p rfl rfl (WO.p rfl rfl (WO.p rfl rfl (WO.p rfl rfl (WO.p rfl rfl ?_))))))
                                     refine WO.nil ?_
                                     refine W.sreg ?_
                                     refine WO.p rfl rfl (WO.p rfl rfl (WO.p rfl rfl ?_))
                                     refine WO.guard_bl rfl rfl (fun c8 => ?_) (fun c8 => ?_)
                                     · first
                                       | (exfalso; omega)
                                       | (refine WO.pg rfl rfl rfl (WO.pg rfl rfl rfl (WO.p rfl rfl (WO.p rfl rfl ?_)))
                                          refine WO.guard_bl rfl rfl (fun c9 => ?_) (fun c9 => ?_)
                                          · first
                                            | (exfalso; omega)
                                            | (refine WO.pg rfl rfl rfl (WO.pg rfl rfl rfl (WO.p rfl rfl (WO.p rfl rfl ?_)))
                                               refine WO.guard_bl rfl rfl (fun c10 => ?_) (fun c10 => ?_)
                                               · first
                                                 | (exfalso; omega)
                                                 | (refine WO.pg rfl rfl rfl (WO.pg rfl rfl rfl (WO.go' rfl (WO.ar rfl rfl rfl (by (first | (unfold in64; omega) | (unfold in64; omega))) rfl (WO.pg rfl rfl rfl (WO.pg rfl rfl rfl (WO.p rfl rfl (WO.p rfl rfl ?_)))))))
                                                    refine WO.guard_bl rfl rfl (fun c11 => ?_) (fun c11 => ?_)
                                                    · first
                                                      | (exfalso; omega)
                                                      | (refine WO.go' rfl ?_
                                                         refine WO.callR rfl Try.call13 (fun L w hi => l_Works w) rfl ?_
                                                         refine WO.p rfl rfl (WO.p rfl rfl ?_)
                                                         refine WO.nil ?_
                                                         refine W.ret ?_
                                                         first | exact fin.ret (Res.one rfl (RV.tmp rfl)) rfl | (exfalso; omega))
                                                    · first
                                                      | (exfalso; omega)
                                                      | (refine WO.no rfl rfl (WO.p rfl rfl (WO.p rfl rfl ?_))
                                                         refine WO.nil ?_
                                                         refine W.ret ?_
                                                         first | exact fin.ret (Res.one rfl (RV.tmp rfl)) rfl | (exfalso; omega)))
                                               · first
                                                 | (exfalso; omega)
                                                 | (refine WO.no rfl rfl (WO.no rfl rfl (WO.no rfl rfl (WO.no rfl rfl (WO.no rfl rfl (WO.p rfl rfl (WO.p rfl rfl (WO.no rfl rfl (WO.p rfl rfl (WO.p rfl rfl ?_)))))))))
                                                    refine WO.nil ?_
                                                    refine W.ret ?_
                                                    first | exact fin.ret (Res.one rfl (RV.tmp rfl)) rfl | (exfalso; omega)))
                                          · first
                                            | (exfalso; omega)
                                            | (refine WO.no rfl rfl (WO.no rfl rfl (WO.p rfl rfl (WO.p rfl rfl (WO.no rfl rfl (WO.no rfl rfl (WO.no rfl rfl (WO.no rfl rfl (WO.no rfl rfl (WO.p rfl rfl (WO.p rfl rfl (WO.no rfl rfl ?_)))))))))))
                                               refine WO.p rfl rfl (WO.p rfl rfl ?_)
                                               refine WO.nil ?_
                                               refine W.ret ?_
                                               first | exact fin.ret (Res.one rfl (RV.tmp rfl)) rfl | (exfalso; omega)))
                                     · first
                                       | (exfalso; omega)
                                       | (refine WO.no rfl rfl (WO.no rfl rfl (WO.p rfl rfl (WO.p rfl rfl (WO.no rfl rfl (WO.no rfl rfl (WO.p rfl rfl (WO.p rfl rfl (WO.no rfl rfl (WO.no rfl rfl (WO.no rfl rfl (WO.no rfl rfl ?_)))))))))))
                                          refine WO.no rfl rfl (WO.p rfl rfl (WO.p rfl rfl (WO.no rfl rfl (WO.p rfl rfl (WO.p rfl rfl ?_)))))
                                          refine WO.nil ?_
                                          refine W.ret ?_
                                          first | exact fin.ret (Res.one rfl (RV.tmp rfl)) rfl | (exfalso; omega)))))))))
end Go.Proofs.Ytpecakgebhmnfaa
