/-
  What is proved here: comparisons whose answer is known. Conditions: each rule states its own.
  What is proved here: plain law: lines that are tilted, mirrored, or read from their end. Conditions: none; each theorem states its own.
  What is proved here: the law of lines that are tilted. Conditions: none; each contract states its own.
-/
import Derived.Test.YtpecakgebhmnfaaM2
import Derived.Test.YtpecakgebhmnfaaM28
set_option linter.unusedVariables false
set_option linter.unusedSimpArgs false
namespace Go.TH
open Go
section
variable {P : Program} {C : Cx P} {E : Env} {H : List HP} {ops : Array Oper} {K : KP} {rest : List Oper} {d : Nat} {ty : TypeId} {pos : String} {af : Array Edge} {x y : Operand} {T T' : TypeId} {k : IntKind} {a b : Int}
theorem WO.lssT (hx : ev E x = some (.int k a)) (hy : ev E y = some (.int k b)) (hp : a < b) (hN : Nat.blt d C.N = true) (h : WO C ops rest K ((d, .bool true) :: E) H) : WO C ops (⟨some d, .binOp .lss T x y T', ty, pos, af, none⟩ :: rest) K E H :=
  WO.lss hx hy hN (by rw [bl_t.2 hp]; exact h)
theorem WO.lssF (hx : ev E x = some (.int k a)) (hy : ev E y = some (.int k b)) (hp : ¬ (a < b)) (hN : Nat.blt d C.N = true) (h : WO C ops rest K ((d, .bool false) :: E) H) : WO C ops (⟨some d, .binOp .lss T x y T', ty, pos, af, none⟩ :: rest) K E H :=
  WO.lss hx hy hN (by rw [bl_f.2 hp]; exact h)
theorem WO.leqT (hx : ev E x = some (.int k a)) (hy : ev E y = some (.int k b)) (hp : a ≤ b) (hN : Nat.blt d C.N = true) (h : WO C ops rest K ((d, .bool true) :: E) H) : WO C ops (⟨some d, .binOp .leq T x y T', ty, pos, af, none⟩ :: rest) K E H :=
  WO.leq hx hy hN (by rw [bl_t.2 hp]; exact h)
theorem WO.leqF (hx : ev E x = some (.int k a)) (hy : ev E y = some (.int k b)) (hp : ¬ (a ≤ b)) (hN : Nat.blt d C.N = true) (h : WO C ops rest K ((d, .bool false) :: E) H) : WO C ops (⟨some d, .binOp .leq T x y T', ty, pos, af, none⟩ :: rest) K E H :=
  WO.leq hx hy hN (by rw [bl_f.2 hp]; exact h)
theorem WO.gtrT (hx : ev E x = some (.int k a)) (hy : ev E y = some (.int k b)) (hp : b < a) (hN : Nat.blt d C.N = true) (h : WO C ops rest K ((d, .bool true) :: E) H) : WO C ops (⟨some d, .binOp .gtr T x y T', ty, pos, af, none⟩ :: rest) K E H :=
  WO.gtr hx hy hN (by rw [bl_t.2 hp]; exact h)
theorem WO.gtrF (hx : ev E x = some (.int k a)) (hy : ev E y = some (.int k b)) (hp : ¬ (b < a)) (hN : Nat.blt d C.N = true) (h : WO C ops rest K ((d, .bool false) :: E) H) : WO C ops (⟨some d, .binOp .gtr T x y T', ty, pos, af, none⟩ :: rest) K E H :=
  WO.gtr hx hy hN (by rw [bl_f.2 hp]; exact h)
theorem WO.geqT (hx : ev E x = some (.int k a)) (hy : ev E y = some (.int k b)) (hp : b ≤ a) (hN : Nat.blt d C.N = true) (h : WO C ops rest K ((d, .bool true) :: E) H) : WO C ops (⟨some d, .binOp .geq T x y T', ty, pos, af, none⟩ :: rest) K E H :=
  WO.geq hx hy hN (by rw [bl_t.2 hp]; exact h)
theorem WO.geqF (hx : ev E x = some (.int k a)) (hy : ev E y = some (.int k b)) (hp : ¬ (b ≤ a)) (hN : Nat.blt d C.N = true) (h : WO C ops rest K ((d, .bool false) :: E) H) : WO C ops (⟨some d, .binOp .geq T x y T', ty, pos, af, none⟩ :: rest) K E H :=
  WO.geq hx hy hN (by rw [bl_f.2 hp]; exact h)
theorem WO.eqlT (hx : ev E x = some (.int k a)) (hy : ev E y = some (.int k b)) (hp : a = b) (hN : Nat.blt d C.N = true) (h : WO C ops rest K ((d, .bool true) :: E) H) : WO C ops (⟨some d, .binOp .eql T x y T', ty, pos, af, none⟩ :: rest) K E H :=
  WO.eql hx hy hN (by rw [bl_t.2 hp]; exact h)
theorem WO.eqlF (hx : ev E x = some (.int k a)) (hy : ev E y = some (.int k b)) (hp : ¬ (a = b)) (hN : Nat.blt d C.N = true) (h : WO C ops rest K ((d, .bool false) :: E) H) : WO C ops (⟨some d, .binOp .eql T x y T', ty, pos, af, none⟩ :: rest) K E H :=
  WO.eql hx hy hN (by rw [bl_f.2 hp]; exact h)
theorem WO.neqT (hx : ev E x = some (.int k a)) (hy : ev E y = some (.int k b)) (hp : a ≠ b) (hN : Nat.blt d C.N = true) (h : WO C ops rest K ((d, .bool true) :: E) H) : WO C ops (⟨some d, .binOp .neq T x y T', ty, pos, af, none⟩ :: rest) K E H :=
  WO.neq hx hy hN (by rw [bl_t.2 hp]; exact h)
theorem WO.neqF (hx : ev E x = some (.int k a)) (hy : ev E y = some (.int k b)) (hp : ¬ (a ≠ b)) (hN : Nat.blt d C.N = true) (h : WO C ops rest K ((d, .bool false) :: E) H) : WO C ops (⟨some d, .binOp .neq T x y T', ty, pos, af, none⟩ :: rest) K E H :=
  WO.neq hx hy hN (by rw [bl_f.2 hp]; exact h)
theorem w8_in {z : Int} (h : 0 ≤ z ∧ z ≤ 255) : IntKind.u8.wrap z = z := by
  simp [IntKind.wrap, IntKind.bits, IntKind.signed]; omega
theorem WO.quo8 {a b : Nat} (hx : ev E x = some (.int .u8 (a : Int))) (hy : ev E y = some (.int .u8 (b : Int))) (hb : 0 < b) (ha : a ≤ 255) (hN : Nat.blt d C.N = true) (h : WO C ops rest K ((d, .int .u8 ((a / b : Nat) : Int)) :: E) H) : WO C ops (⟨some d, .binOp .quo T x y T', ty, pos, af, none⟩ :: rest) K E H := by
  have e : ((a / b : Nat) : Int) = (a : Int).tdiv (b : Int) := Int.ofNat_tdiv a b
  have e2 : a / b ≤ a := Nat.div_le_self a b
  have e3 : (b : Int) ≠ 0 := by omega
  have e4 : 0 ≤ (a : Int).tdiv (b : Int) ∧ (a : Int).tdiv (b : Int) ≤ 255 := by rw [← e]; generalize a / b = q at e2; omega
  rw [e] at h
  generalize (a : Int) = A at hx e4 h
  generalize (b : Int) = B at hy e4 h e3
  exact WO.pure _ (by simp) (fun L c w hf _ => by simp only [execOp, hf.eval hx, hf.eval hy]; simp [binOp_quo, eqGuard_quo, Op.intDiv, e3]; exact w8_in e4) hN h
end
end Go.TH
namespace Go.Proofs.Ytpecakgebhmnfaa
open Go Go.TH
set_option maxRecDepth 10000
set_option maxHeartbeats 1000000
/-- changes from a sign on -/
def cs : Nat → List Int → Nat
  | _, [] => 0
  | s, d :: r => chg s d + cs (sg s d) r
theorem fold_cs : ∀ (ds : List Int) (s c : Nat) (b : Int), (ds.foldl nxt (s, c, b)).2.1 = c + cs s ds ∧ (ds.foldl nxt (s, c, b)).2.2 = b + (ds.map ab).sum
  | [], s, c, b => by simp [cs]
  | d :: r, s, c, b => by
    have h := fold_cs r (sg s d) (c + chg s d) (b + ab d)
    rw [List.foldl_cons, show nxt (s, c, b) d = (sg s d, c + chg s d, b + ab d) from rfl, h.1, h.2]
    simp only [cs, List.map_cons, List.sum_cons]
    omega
theorem chL_cs (x : List Int) : chL x = cs 0 (bds x) := by have := (fold_cs (bds x) 0 0 0).1; unfold chL mst; omega
theorem beL_sum (x : List Int) : beL x = ((bds x).map ab).sum := by have := (fold_cs (bds x) 0 0 0).2; unfold beL mst; omega
/-- the signs of what is not 0 -/
def sl : List Int → List Nat
  | [] => []
  | d :: r => if d = 0 then sl r else sOf d :: sl r
/-- how many neighbours are different -/
def cnt : List Nat → Nat
  | [] => 0
  | [_] => 0
  | a :: b :: r => (if b = a then 0 else 1) + cnt (b :: r)
theorem sOf_ne {d : Int} (h : d ≠ 0) : sOf d ≠ 0 := by unfold sOf sg; split; omega; rw [if_pos (by omega)]; omega
theorem cs_sl : ∀ (ds : List Int) (s : Nat), s ≠ 0 → cs s ds = cnt (s :: sl ds)
  | [], s, _ => rfl
  | d :: r, s, hs => by
    by_cases g : d = 0
    · subst g
      rw [show sl (0 :: r) = sl r from if_pos rfl]
      show chg s 0 + cs (sg s 0) r = _
      rw [show sg s 0 = s by simp [sg], show chg s 0 = 0 by simp [chg, sg], cs_sl r s hs]; omega
    · rw [show sl (d :: r) = sOf d :: sl r from if_neg g]
      show chg s d + cs (sg s d) r = (if sOf d = s then 0 else 1) + cnt (sOf d :: sl r)
      rw [sOf_step (s := s) g, cs_sl r _ (by rw [← sOf_step g]; exact sOf_ne g)]
      congr 1
      unfold chg
      by_cases q : sg s d = s
      · rw [if_neg (by simp [q]), if_pos q]
      · rw [if_pos ⟨hs, q⟩, if_neg q]
theorem cs0_sl : ∀ ds : List Int, cs 0 ds = cnt (sl ds)
  | [] => rfl
  | d :: r => by
    show chg 0 d + cs (sg 0 d) r = _
    rw [show chg 0 d = 0 by simp [chg]]
    by_cases g : d = 0
    · subst g
      rw [show sl (0 :: r) = sl r from if_pos rfl, show sg 0 0 = 0 from rfl, cs0_sl r]; omega
    · rw [show sl (d :: r) = sOf d :: sl r from if_neg g, show sg 0 d = sOf d from rfl, cs_sl r _ (sOf_ne g)]; omega
theorem sl_app : ∀ a b : List Int, sl (a ++ b) = sl a ++ sl b
  | [], b => rfl
  | d :: r, b => by
    rw [List.cons_append]
    by_cases g : d = 0
    · rw [show sl (d :: (r ++ b)) = sl (r ++ b) from if_pos g, show sl (d :: r) = sl r from if_pos g, sl_app r b]
    · rw [show sl (d :: (r ++ b)) = sOf d :: sl (r ++ b) from if_neg g, show sl (d :: r) = sOf d :: sl r from if_neg g, sl_app r b]; rfl
theorem sl_rev : ∀ a : List Int, sl a.reverse = (sl a).reverse
  | [] => rfl
  | d :: r => by
    rw [List.reverse_cons, sl_app, sl_rev r]
    by_cases g : d = 0
    · rw [show sl [d] = [] from if_pos g, show sl (d :: r) = sl r from if_pos g]; simp
    · rw [show sl [d] = [sOf d] from if_neg g, show sl (d :: r) = sOf d :: sl r from if_neg g]; simp
theorem cnt_two : ∀ (r : List Nat) (a b : Nat), cnt (r ++ [a, b]) = cnt (r ++ [a]) + if b = a then 0 else 1
  | [], a, b => by simp [cnt]
  | [x], a, b => by simp [cnt]
  | x :: y :: r, a, b => by
    have := cnt_two (y :: r) a b
    show (if y = x then 0 else 1) + cnt ((y :: r) ++ [a, b]) = (if y = x then 0 else 1) + cnt ((y :: r) ++ [a]) + _
    rw [this]; omega
theorem cnt_rev : ∀ a : List Nat, cnt a.reverse = cnt a
  | [] => rfl
  | [_] => rfl
  | x :: y :: r => by
    have h := cnt_rev (y :: r)
    rw [List.reverse_cons] at h
    rw [List.reverse_cons, List.reverse_cons, List.append_assoc]
    show cnt (r.reverse ++ [y, x]) = _
    rw [cnt_two, h]
    show _ = (if y = x then 0 else 1) + cnt (y :: r)
    by_cases q : x = y
    · subst q; omega
    · rw [if_neg q, if_neg (fun e => q e.symm)]; omega
theorem sum_app' (a b : List Int) : (a ++ b).sum = a.sum + b.sum := by
  induction a with
  | nil => simp
  | cons x r ih => simp [ih]; omega
theorem sum_rev' (a : List Int) : a.reverse.sum = a.sum := by
  induction a with
  | nil => rfl
  | cons x r ih => rw [List.reverse_cons, sum_app', ih]; simp; omega
theorem getD_rev {α : Type} {x : List α} {i : Nat} (h : i < x.length) (z : α) : x.reverse.getD i z = x.getD (x.length - 1 - i) z := by
  rw [List.getD_eq_getElem?_getD, List.getD_eq_getElem?_getD, List.getElem?_reverse h]
theorem ext_gD {α : Type} {a b : List α} (z : α) (hl : a.length = b.length) (h : ∀ i, i < a.length → a.getD i z = b.getD i z) : a = b := by
  refine List.ext_getElem hl fun i h1 h2 => ?_
  have := h i h1
  rwa [List.getD_eq_getElem?_getD, List.getD_eq_getElem?_getD, List.getElem?_eq_getElem h1, List.getElem?_eq_getElem h2] at this
theorem bds_rev (x : List Int) : bds x.reverse = (bds x).reverse := by
  refine ext_gD 0 (by simp [bds_len]) fun i hi => ?_
  rw [bds_len, List.length_reverse] at hi
  have hb := bds_len x
  rw [bds_get (by rw [List.length_reverse]; omega), getD_rev (by omega), getD_rev (by omega), getD_rev (by omega), getD_rev (by omega), hb, bds_get (by omega),
    show x.length - 2 - 1 - i = x.length - 1 - (i + 2) by omega, show x.length - 1 - (i + 2) + 1 = x.length - 1 - (i + 1) by omega, show x.length - 1 - (i + 2) + 2 = x.length - 1 - i by omega]
  omega
theorem ch_rev (x : List Int) : chL x.reverse = chL x := by rw [chL_cs, chL_cs, bds_rev, cs0_sl, cs0_sl, sl_rev, cnt_rev]
theorem be_rev (x : List Int) : beL x.reverse = beL x := by rw [beL_sum, beL_sum, bds_rev, List.map_reverse, sum_rev']
theorem cost_rev (t : Int) (x : List Int) : costL t x.reverse = costL t x := by unfold costL; rw [ch_rev, be_rev]
/-- the other sign -/
def ngL (x : List Int) : List Int := x.map fun n => -n
theorem ng_len (x : List Int) : (ngL x).length = x.length := by simp [ngL]
theorem ng_get {x : List Int} {i : Nat} (h : i < x.length) : (ngL x).getD i 0 = -(x.getD i 0) := by
  simp [ngL, List.getD_eq_getElem?_getD, List.getElem?_map, List.getElem?_eq_getElem h]
theorem bds_ng (x : List Int) : bds (ngL x) = ngL (bds x) := by
  refine ext_gD 0 (by rw [bds_len, ng_len, ng_len, bds_len]) fun i hi => ?_
  rw [bds_len, ng_len] at hi
  rw [bds_get (by rw [ng_len]; omega), ng_get (by omega), ng_get (by omega), ng_get (by omega), ng_get (by rw [bds_len]; omega), bds_get (by omega)]
  omega
theorem sl_ng : ∀ a : List Int, sl (ngL a) = (sl a).map (fun s => 3 - s)
  | [] => rfl
  | d :: r => by
    rw [show ngL (d :: r) = -d :: ngL r from rfl]
    by_cases g : d = 0
    · rw [show sl (-d :: ngL r) = sl (ngL r) from if_pos (by omega), show sl (d :: r) = sl r from if_pos g, sl_ng r]
    · rw [show sl (-d :: ngL r) = sOf (-d) :: sl (ngL r) from if_neg (by omega), show sl (d :: r) = sOf d :: sl r from if_neg g, sl_ng r, List.map_cons]
      congr 1
      unfold sOf sg
      by_cases q : 0 < d
      · rw [if_neg (by omega), if_pos (by omega), if_pos q]
      · rw [if_pos (by omega), if_neg q, if_pos (by omega)]
theorem sl_le : ∀ (a : List Int), ∀ s ∈ sl a, 1 ≤ s ∧ s ≤ 2
  | [], s, h => by cases h
  | d :: r, s, h => by
    by_cases g : d = 0
    · rw [show sl (d :: r) = sl r from if_pos g] at h; exact sl_le r s h
    · rw [show sl (d :: r) = sOf d :: sl r from if_neg g] at h
      rcases List.mem_cons.1 h with rfl | h
      · have h1 := sOf_ne g
        have h2 : sOf d ≤ 2 := sg_le (by omega)
        omega
      · exact sl_le r s h
theorem cnt_map : ∀ a : List Nat, (∀ s ∈ a, 1 ≤ s ∧ s ≤ 2) → cnt (a.map fun s => 3 - s) = cnt a
  | [], _ => rfl
  | [_], _ => rfl
  | x :: y :: r, h => by
    have ih := cnt_map (y :: r) (fun s hs => h s (List.mem_cons_of_mem _ hs))
    have hx := h x (by simp)
    have hy := h y (by simp)
    show (if 3 - y = 3 - x then 0 else 1) + cnt ((y :: r).map fun s => 3 - s) = (if y = x then 0 else 1) + cnt (y :: r)
    rw [ih]
    by_cases q : y = x
    · rw [if_pos q, if_pos (by omega)]
    · rw [if_neg q, if_neg (by omega)]
theorem ab_neg (d : Int) : ab (-d) = ab d := by unfold ab; omega
theorem ch_ng (x : List Int) : chL (ngL x) = chL x := by rw [chL_cs, chL_cs, bds_ng, cs0_sl, cs0_sl, sl_ng, cnt_map _ (sl_le _)]
theorem be_ng (x : List Int) : beL (ngL x) = beL x := by
  rw [beL_sum, beL_sum, bds_ng, ngL, List.map_map]
  congr 1
  exact List.map_congr_left fun d _ => ab_neg d
theorem cost_ng (t : Int) (x : List Int) : costL t (ngL x) = costL t x := by unfold costL; rw [ch_ng, be_ng]
/-- a line that is tilted -/
def tlt (a m : Int) : List Int → List Int
  | [] => []
  | x :: r => (x + a) :: tlt (a + m) m r
theorem tlt_len (m : Int) : ∀ (x : List Int) (a : Int), (tlt a m x).length = x.length
  | [], _ => rfl
  | _ :: r, a => by simp [tlt, tlt_len m r]
theorem tlt_get (m : Int) : ∀ (x : List Int) (a : Int) (i : Nat), i < x.length → (tlt a m x).getD i 0 = x.getD i 0 + (a + m * (i : Int))
  | [], _, _, h => by simp at h
  | x :: r, a, 0, _ => by simp [tlt]
  | x :: r, a, i + 1, h => by
    have := tlt_get m r (a + m) i (by simpa using h)
    show (tlt (a + m) m r).getD i 0 = r.getD i 0 + _
    rw [this, Int.natCast_add, Int.mul_add]; simp; omega
theorem bds_tlt (a m : Int) (x : List Int) : bds (tlt a m x) = bds x := by
  refine ext_gD 0 (by rw [bds_len, bds_len, tlt_len]) fun i hi => ?_
  rw [bds_len, tlt_len] at hi
  rw [bds_get (by rw [tlt_len]; omega), tlt_get _ _ _ _ (by omega), tlt_get _ _ _ _ (by omega), tlt_get _ _ _ _ (by omega), bds_get (by omega)]
  have e1 : m * ((i + 1 : Nat) : Int) = m * (i : Int) + m := by rw [Int.natCast_add, Int.mul_add]; simp
  have e2 : m * ((i + 2 : Nat) : Int) = m * (i : Int) + 2 * m := by rw [Int.natCast_add, Int.mul_add]; simp; omega
  rw [e1, e2]
  omega
theorem ch_tlt (a m : Int) (x : List Int) : chL (tlt a m x) = chL x := by rw [chL_cs, chL_cs, bds_tlt]
theorem be_tlt (a m : Int) (x : List Int) : beL (tlt a m x) = beL x := by rw [beL_sum, beL_sum, bds_tlt]
theorem cost_tlt (t a m : Int) (x : List Int) : costL t (tlt a m x) = costL t x := by unfold costL; rw [ch_tlt, be_tlt]
theorem tlt_inv (m : Int) : ∀ (x : List Int) (a : Int), tlt a m (tlt (-a) (-m) x) = x
  | [], _ => rfl
  | x :: r, a => by
    show (x + -a + a) :: tlt (a + m) m (tlt (-a + -m) (-m) r) = _
    rw [show -a + -m = -(a + m) by omega, tlt_inv m r (a + m), show x + -a + a = x by omega]
theorem bfB_tlt (m : Int) : ∀ (x y : List Int) (a : Int), bfB (tlt a m x) (tlt a m y) = bfB x y
  | [], _, _ => by simp [tlt, bfB]
  | _ :: _, [], _ => by simp [tlt, bfB]
  | p :: x, q :: y, a => by
    show bfB ((p + a) :: tlt (a + m) m x) ((q + a) :: tlt (a + m) m y) = _
    unfold bfB
    by_cases g : p = q
    · rw [if_neg (by simp [g]), if_neg (by simp [g]), bfB_tlt m x y (a + m)]
    · rw [if_pos (by omega), if_pos g, decide_eq_decide]; omega
theorem bfB_tot : ∀ {x y : List Int}, x.length = y.length → bfB x y = false → bfB y x = false → x = y
  | [], [], _, _, _ => rfl
  | p :: x, q :: y, hl, h1, h2 => by
    unfold bfB at h1 h2
    by_cases g : p = q
    · subst g
      rw [if_neg (by simp)] at h1 h2
      rw [bfB_tot (by simpa using hl) h1 h2]
    · rw [if_pos g] at h1
      rw [if_pos (fun e => g e.symm)] at h2
      simp at h1 h2; omega
/-- spots that are tilted -/
def tltP (a m : Int) : List (Int × Int) → List (Int × Int)
  | [] => []
  | x :: r => (x.1 + a, x.2 + a) :: tltP (a + m) m r
theorem tltP_len (m : Int) : ∀ (x : List (Int × Int)) (a : Int), (tltP a m x).length = x.length
  | [], _ => rfl
  | _ :: r, a => by simp [tltP, tltP_len m r]
theorem tltP_get (m : Int) : ∀ (x : List (Int × Int)) (a : Int) (i : Nat), i < x.length → (tltP a m x).getD i (0, 0) = ((x.getD i (0, 0)).1 + (a + m * (i : Int)), (x.getD i (0, 0)).2 + (a + m * (i : Int)))
  | [], _, _, h => by simp at h
  | x :: r, a, 0, _ => by simp [tltP]
  | x :: r, a, i + 1, h => by
    have := tltP_get m r (a + m) i (by simpa using h)
    show (tltP (a + m) m r).getD i (0, 0) = ((r.getD i (0, 0)).1 + _, (r.getD i (0, 0)).2 + _)
    rw [this, Int.natCast_add, Int.mul_add]
    simp only [Int.natCast_one, Int.mul_one]
    exact Prod.ext (by simp only; omega) (by simp only; omega)
theorem tltP_inv (m : Int) : ∀ (x : List (Int × Int)) (a : Int), tltP (-a) (-m) (tltP a m x) = x
  | [], _ => rfl
  | x :: r, a => by
    show (x.1 + a + -a, x.2 + a + -a) :: tltP (-a + -m) (-m) (tltP (a + m) m r) = _
    rw [show -a + -m = -(a + m) by omega, tltP_inv m r (a + m), show x.1 + a + -a = x.1 by omega, show x.2 + a + -a = x.2 by omega]
theorem InS_tlt {l : List (Int × Int)} {x : List Int} (a m : Int) (h : InS l x) : InS (tltP a m l) (tlt a m x) := by
  refine ⟨by rw [tlt_len, tltP_len]; exact h.1, fun i hi => ?_⟩
  rw [tltP_len] at hi
  have := h.2 i hi
  rw [tltP_get _ _ _ _ hi, tlt_get _ _ _ _ (by rw [h.1]; exact hi)]
  simp only; omega
theorem InS_back {l : List (Int × Int)} {x : List Int} {a m : Int} (h : InS (tltP a m l) x) : InS l (tlt (-a) (-m) x) := by
  have := InS_tlt (-a) (-m) h
  rwa [tltP_inv] at this
theorem fa_tlt {l : List (Int × Int)} {t a m : Int} (h : chkF l t = 0) (h2 : chkF (tltP a m l) t = 0) : faC (tltP a m l) t = faC l t ∧ faL (tltP a m l) t = tlt a m (faL l t) := by
  have i1 := faC_in h
  have i2 := faC_in h2
  have c1 := faC_le h2 (InS_tlt a m i1.1)
  have c2 := faC_le h (InS_back i2.1)
  rw [cost_tlt] at c1 c2
  have e : faC (tltP a m l) t = faC l t := by omega
  refine ⟨e, bfB_tot (by rw [tlt_len, i2.1.1, i1.1.1, tltP_len]) ?_ ?_⟩
  · have f := best_first (t := t) (chkF0.1 h).2.2 (chkF0.1 h).1.1 (InS_back i2.1)
    rw [← show faC l t = bestC 1 t l from if_pos h, ← show faL l t = bestL 1 t l from if_pos h, cost_tlt] at f
    have g := f.2 (by omega)
    rw [← bfB_tlt m _ _ a, tlt_inv] at g
    exact g
  · have f := best_first (t := t) (chkF0.1 h2).2.2 (chkF0.1 h2).1.1 (InS_tlt a m i1.1)
    rw [← show faC (tltP a m l) t = bestC 1 t (tltP a m l) from if_pos h2, ← show faL (tltP a m l) t = bestL 1 t (tltP a m l) from if_pos h2, cost_tlt] at f
    exact f.2 (by omega)
theorem InS_rev {l : List (Int × Int)} {x : List Int} (h : InS l x) : InS l.reverse x.reverse := by
  refine ⟨by simpa using h.1, fun i hi => ?_⟩
  rw [List.length_reverse] at hi
  have := h.2 (l.length - 1 - i) (by omega)
  rw [getD_rev hi, getD_rev (by rw [h.1]; exact hi), h.1]; exact this
theorem chk_rev {l : List (Int × Int)} {t : Int} (h : chkF l t = 0) : chkF l.reverse t = 0 := by
  have h := chkF0.1 h
  exact chkF0.2 ⟨by simpa using h.1, h.2.1, fun p hp => h.2.2 p (List.mem_reverse.1 hp)⟩
theorem fa_rev {l : List (Int × Int)} {t : Int} (h : chkF l t = 0) : faC l.reverse t = faC l t := by
  have h2 := chk_rev h
  have i1 := faC_in h
  have i2 := faC_in h2
  have c1 := faC_le h2 (InS_rev i1.1)
  have c2 := faC_le h (by have := InS_rev i2.1; rwa [List.reverse_reverse] at this)
  rw [cost_rev] at c1 c2
  omega
/-- spots with the other sign -/
def ngP (l : List (Int × Int)) : List (Int × Int) := l.map fun p => (-p.2, -p.1)
theorem ngP_len (l : List (Int × Int)) : (ngP l).length = l.length := by simp [ngP]
theorem ngP_get {l : List (Int × Int)} {i : Nat} (h : i < l.length) : (ngP l).getD i (0, 0) = (-(l.getD i (0, 0)).2, -(l.getD i (0, 0)).1) := by
  simp [ngP, List.getD_eq_getElem?_getD, List.getElem?_map, List.getElem?_eq_getElem h]
theorem ngP_ngP : ∀ l : List (Int × Int), ngP (ngP l) = l
  | [] => rfl
  | p :: r => by
    show (- -p.1, - -p.2) :: ngP (ngP r) = _
    rw [ngP_ngP r, Int.neg_neg, Int.neg_neg]
theorem InS_ng {l : List (Int × Int)} {x : List Int} (h : InS l x) : InS (ngP l) (ngL x) := by
  refine ⟨by rw [ng_len, ngP_len]; exact h.1, fun i hi => ?_⟩
  rw [ngP_len] at hi
  have := h.2 i hi
  rw [ngP_get hi, ng_get (by rw [h.1]; exact hi)]
  simp only; omega
theorem chk_ng {l : List (Int × Int)} {t : Int} (h : chkF l t = 0) : chkF (ngP l) t = 0 := by
  have h := chkF0.1 h
  refine chkF0.2 ⟨by rw [ngP_len]; exact h.1, h.2.1, fun p hp => ?_⟩
  obtain ⟨q, hq, rfl⟩ := List.mem_map.1 hp
  have := h.2.2 q hq
  unfold OkG at this ⊢
  simp only; omega
theorem fa_ng {l : List (Int × Int)} {t : Int} (h : chkF l t = 0) : faC (ngP l) t = faC l t := by
  have h2 := chk_ng h
  have i1 := faC_in h
  have i2 := faC_in h2
  have c1 := faC_le h2 (InS_ng i1.1)
  have c2 := faC_le h (by have := InS_ng i2.1; rwa [ngP_ngP] at this)
  rw [cost_ng] at c1 c2
  omega
theorem take_next {α : Type} {x : List α} {i : Nat} {z y : α} (h : i < x.length) (e : x.getD i z = y) : x.take i ++ [y] = x.take (i + 1) := by
  rw [List.take_add_one, List.getElem?_eq_getElem h, ← e, List.getD_eq_getElem?_getD, List.getElem?_eq_getElem h]; rfl
theorem mul_bd24 {m : Int} (hm : -32768 ≤ m ∧ m ≤ 32767) {i : Nat} (hi : i ≤ 24) : -1000000 ≤ m * (i : Int) ∧ m * (i : Int) ≤ 1000000 := by
  have h1 := Int.mul_le_mul_of_nonneg_right hm.1 (Int.natCast_nonneg i)
  have h2 := Int.mul_le_mul_of_nonneg_right hm.2 (Int.natCast_nonneg i)
  omega
end Go.Proofs.Ytpecakgebhmnfaa
namespace Go.Proofs.Ytpecakgebhmnfaa
open Go Go.TH
attribute [local irreducible] W WO pt
set_option maxRecDepth 10000
set_option maxHeartbeats 1000000
theorem law_FairTilted (w : World) (o u : Value) (l : List (Int × Int)) (t : Int) (a m : Int) (bs : List Int) (hR : RdF encP 2 w.heap.size w o l) (hB : RdF encU 1 w.heap.size w u bs) (hb : ∀ x ∈ bs, 0 ≤ x ∧ x ≤ 255) (ha : -32768 ≤ a ∧ a ≤ 32767) (hm : -32768 ≤ m ∧ m ≤ 32767) : Ret Try.prog 8 [.agg #[o, .int .i64 t], .int .i16 a, .int .i16 m, u].toArray w (.bool true) := by
  refine Ret.of mixed tyTab Try.func8 rfl rfl ?_
  replace hR : RdF encP 2 (fnCx mixed tyTab Try.f8.ntmps w).B (fnCx mixed tyTab Try.f8.ntmps w).w0 o l := hR
  replace hB : RdF encU 1 (fnCx mixed tyTab Try.f8.ntmps w).B (fnCx mixed tyTab Try.f8.ntmps w).w0 u bs := hB
  have hoc := hR.sl.oc
  refine W.sreg ?_
  refine WO.boxA rfl rfl (fun b1 hb1 => ?_)
  refine WO.p rfl rfl ?_
  refine WO.nil ?_
  refine W.seq ?_
  refine W.sreg ?_
  refine WO.loadA rfl rfl (Cells.own Pick.head) rfl rfl ?_
  refine WO.callR rfl Try.call32 (fun L w hi => law_fine w _ l t (hR.later hi)) rfl ?_
  refine WO.p rfl rfl (WO.p rfl rfl ?_)
  refine WO.guard_nbl rfl rfl (fun c1 => ?_) (fun c1 => ?_)
  · first
    | (exfalso; omega)
    | (refine WO.no rfl rfl (WO.no rfl rfl (WO.no rfl rfl (WO.p rfl rfl ?_)))
       refine WO.nil ?_
       refine W.cond_t rfl ?_
       refine W.sreg ?_
       refine WO.callR rfl Try.call13 (fun L w hi => l_Works w) rfl ?_
       refine WO.p rfl rfl ?_
       refine WO.nil ?_
       refine W.ret ?_
       first | exact fin.ret (Res.one rfl (RV.tmp rfl)) rfl | (exfalso; omega))
  · first
    | (exfalso; omega)
    | (refine WO.pg rfl rfl rfl (WO.go' rfl ?_)
       refine' WO.len (n := _) rfl rfl ?hs rfl ?_
       case hs => (first | exact hB.sl)
       refine WO.pg rfl rfl rfl (WO.p rfl rfl ?_)
       refine WO.nil ?_
       refine W.cond_bl rfl (fun c2 => ?_) (fun c2 => ?_)
       · first
         | (exfalso; omega)
         | (refine W.sreg ?_
            refine WO.callR rfl Try.call13 (fun L w hi => l_Works w) rfl ?_
            refine WO.p rfl rfl ?_
            refine WO.nil ?_
            refine W.ret ?_
            first | exact fin.ret (Res.one rfl (RV.tmp rfl)) rfl | (exfalso; omega))
       · first
         | (exfalso; omega)
         | (refine W.skip ?_
            have hc0 : chkF l t = 0 := by omega
            have hcf := chkF0.1 hc0
            have hin := liL_in hcf.2.2 hb
            obtain ⟨x, hx⟩ : ∃ x, x = liL l bs := ⟨_, rfl⟩
            rw [← hx] at hin
            have hxl := hin.1
            obtain ⟨n, hn⟩ : ∃ n, n = l.length := ⟨_, rfl⟩
            rw [← hn] at hxl hcf
            refine W.sreg ?_
            refine WO.loadA rfl rfl (Cells.own Pick.head) rfl rfl (WO.p rfl rfl ?_)
            refine WO.call rfl Try.call33 (fun L w hi => law_Line w _ u l t bs (hR.later hi) (hB.later hi) hb hcf.2.2 (by omega)) rfl ?_
            rintro r3 _ ⟨_, rfl, rfl⟩
            rw [← hx]
            refine WO.fact (OwE.sl (enc := encI) (e := 2) (sz := 1) (xs := x) (v := r3) Pick.head) (fun hxs => ?_)
            rw [hxl] at hxs
            refine WO.p rfl rfl ?_
            refine WO.nil ?_
            refine W.sreg ?_
            refine WO.p rfl rfl ?_
            refine' WO.len (n := _) rfl rfl ?hs rfl ?_
            case hs => (first | exact hxs)
            refine WO.p rfl rfl ?_
            refine WO.nil ?_
            refine W.seq ?_
            refine W.drawD 14 [.r 0 [], .b 1 [], .r 2 [], .r 3 [], .b 4 [], .r 5 [], .r 6 [], .b 7 [], .r 8 [], .a 9 11 (.cells #[.slice none 0 0, .int .i64 0] 24 (0, 0)), .a 10 12 (.cells #[.slice none 0 0, .int .i64 0] 24 (0, 0)), .a 11 13 (.cells #[.slice none 0 0, .int .i64 0] 24 (0, 0)), .s 12 [], .s 13 []] [] (A0 := []) (Sub.refl _) (by kernel_rfl) ?_ ?_
            · exact (ALok.r (ALok.b (ALok.r (ALok.r (ALok.b (ALok.r (ALok.r (ALok.b (ALok.r (ALok.cons rfl rfl rfl rfl rfl (ALok.cons rfl rfl rfl rfl rfl (ALok.cons rfl rfl rfl rfl rfl (ALok.s (ALok.s ALok.nil))))))))))))))
            refine' DT.r rfl rfl rfl ?hq ?_
            case hq =>
              refine WO.fieldL rfl rfl rfl ?_
              exact WO.nil ⟨rfl, rfl⟩
            refine' DT.b rfl rfl rfl ?hq ?_
            case hq =>
              refine WO.load rfl rfl (Cell.own (Pick.tail (Pick.head)) rfl) rfl ?_
              exact WO.nil ⟨rfl, rfl⟩
            refine' DT.r rfl rfl rfl ?hq ?_
            case hq =>
              refine' WO.build (cs := _) rfl rfl rfl ?hf rfl ?_
              case hf => (conv => lhs; simp [-List.getD_eq_getElem?_getD, fillL, vcl, wrl, TTab.pl?.lget']) <;> rfl
              exact WO.nil ⟨rfl, rfl⟩
            refine' DT.r rfl rfl rfl ?hq ?_
            case hq =>
              refine WO.fieldL rfl rfl rfl ?_
              exact WO.nil ⟨rfl, rfl⟩
            refine' DT.b rfl rfl rfl ?hq ?_
            case hq =>
              refine WO.load rfl rfl (Cell.own (Pick.tail (Pick.head)) rfl) rfl ?_
              exact WO.nil ⟨rfl, rfl⟩
            refine' DT.r rfl rfl rfl ?hq ?_
            case hq =>
              refine' WO.build (cs := _) rfl rfl rfl ?hf rfl ?_
              case hf => (conv => lhs; simp [-List.getD_eq_getElem?_getD, fillL, vcl, wrl, TTab.pl?.lget']) <;> rfl
              exact WO.nil ⟨rfl, rfl⟩
            refine' DT.r rfl rfl rfl ?hq ?_
            case hq =>
              refine WO.fieldL rfl rfl rfl ?_
              exact WO.nil ⟨rfl, rfl⟩
            refine' DT.b rfl rfl rfl ?hq ?_
            case hq =>
              refine WO.load rfl rfl (Cell.own (Pick.tail (Pick.head)) rfl) rfl ?_
              exact WO.nil ⟨rfl, rfl⟩
            refine' DT.r rfl rfl rfl ?hq ?_
            case hq =>
              refine' WO.build (cs := _) rfl rfl rfl ?hf rfl ?_
              case hf => (conv => lhs; simp [-List.getD_eq_getElem?_getD, fillL, vcl, wrl, TTab.pl?.lget']) <;> rfl
              exact WO.nil ⟨rfl, rfl⟩
            refine DT.a (fun b2 => ?_)
            refine DT.a (fun b3 => ?_)
            refine DT.a (fun b4 => ?_)
            refine DT.s [_, _, _, _, _] rfl rfl rfl ?_
            refine WO.storeA rfl rfl rfl rfl (Pick.tail (Pick.tail (Pick.head))) rfl rfl ?_
            refine WO.nil ⟨[_, _, _], rfl, rfl, (Keep.a (Keep.a (Keep.a (Keep.r (Keep.b (Keep.r (Keep.r (Keep.b (Keep.r (Keep.r (Keep.b (Keep.r Keep.nil)))))))))))), ?_⟩
            refine DT.s [_, _, _, _, _] rfl rfl rfl ?_
            refine WO.storeA rfl rfl rfl rfl (Pick.tail (Pick.tail (Pick.head))) rfl rfl ?_
            refine WO.nil ⟨[_, _, _], rfl, rfl, (Keep.s (Keep.a (Keep.a (Keep.a (Keep.r (Keep.b (Keep.r (Keep.r (Keep.b (Keep.r (Keep.r (Keep.b (Keep.r Keep.nil))))))))))))), ?_⟩
            refine DT.nil [_, _, _, _, _] rfl ?_
            refine WO.storeA rfl rfl rfl rfl (Pick.tail (Pick.tail (Pick.head))) rfl rfl ?_
            refine WO.nil ?_
            refine W.sreg ?_
            refine WO.p rfl rfl (WO.p rfl rfl (WO.p rfl rfl ?_))
            refine WO.nil ?_
            refine W.seq ?_
            refine W.sreg ?_
            refine WO.p rfl rfl ?_
            refine WO.nil ?_
            refine W.block ?_
            refine W.chg (owNil (enc := encP) (e := 51) (sz := 2)) (W.chg (owNil (enc := encP) (e := 51) (sz := 2)) (W.chg (owNil (enc := encP) (e := 51) (sz := 2)) (W.chg (owNil (enc := encI) (e := 2) (sz := 1)) (W.chg (owNil (enc := encI) (e := 2) (sz := 1)) (W.chg (owNil (enc := encI) (e := 2) (sz := 1)) ?_)))))
            refine W.loop7 (fun (i : Nat) (tv : Value) (bv : Value) (mv : Value) (av : Value) (rv : Value) (nv : Value) => i ≤ n)
              (fun (i : Nat) (tv : Value) (bv : Value) (mv : Value) (av : Value) (rv : Value) (nv : Value) => [(1, .int .i16 a), (2, .int .i16 m), (4, .pointer (some ⟨b1, 0, none⟩)), (9, r3), (10, .int .i64 (n : Int)), (11, .pointer (some ⟨b2, 0, none⟩)), (12, .pointer (some ⟨b3, 0, none⟩)), (13, .pointer (some ⟨b4, 0, none⟩)), (14, av), (15, rv), (16, nv), (17, .int .i64 (i : Int))])
              (fun (i : Nat) (tv : Value) (bv : Value) (mv : Value) (av : Value) (rv : Value) (nv : Value) => [pt b1 (.cells #[o, .int .i64 t] 24 (0, 0)), pt b2 (.cells #[tv, .int .i64 t] 24 (0, 0)), pt b3 (.cells #[bv, .int .i64 t] 24 (0, 0)), pt b4 (.cells #[mv, .int .i64 t] 24 (0, 0)), OwE encI 2 1 r3 x, OwE encP 51 2 tv ((tltP a m l).take i), OwE encP 51 2 bv (l.reverse.take i), OwE encP 51 2 mv ((ngP l).take i), OwE encI 2 1 av ((tlt a m x).take i), OwE encI 2 1 rv (x.reverse.take i), OwE encI 2 1 nv ((ngL x).take i)])
              (fun (i : Nat) (tv : Value) (bv : Value) (mv : Value) (av : Value) (rv : Value) (nv : Value) => n - i) 0 (.slice none 0 0) (.slice none 0 0) (.slice none 0 0) (.slice none 0 0) (.slice none 0 0) (.slice none 0 0)
              (by exact Nat.zero_le _) ⟨rfl, rfl, rfl, rfl, rfl, rfl, rfl, rfl, rfl, rfl, rfl, rfl, trivial⟩ (by repeat (first | exact Sub.nil | refine Sub.cons (by repeat (first | exact Pick.head | apply Pick.tail)) ?_)) ?_
            rintro i tv bv mv av rv nv hi
            refine W.seq ?_
            refine W.sreg ?_
            refine WO.p rfl rfl (WO.p rfl rfl (WO.p rfl rfl ?_))
            refine WO.nil ?_
            refine W.cond_bl rfl (fun c3 => ?_) (fun c3 => ?_)
            · first
              | (exfalso; omega)
              | (refine W.skip ?_
                 refine W.seq ?_
                 refine W.block ?_
                 have hml := mul_bd24 hm (i := i) (by omega)
                 obtain ⟨q, hq⟩ : ∃ q, q = a + m * (i : Int) := ⟨_, rfl⟩
                 have hgi := hcf.2.2 _ (getD_mem (l := l) (i := i) (by omega) (0, 0))
                 unfold OkG at hgi
                 have hxi := InS.ok hin hcf.2.2 (x.getD i 0) (getD_mem (l := x) (i := i) (by omega) 0)
                 obtain ⟨j, hj⟩ : ∃ j, j = n - 1 - i := ⟨_, rfl⟩
                 refine W.sreg ?_
                 refine WO.p rfl rfl (WO.conv64 rfl rfl rfl (by (first | (unfold in64; omega) | (unfold in64; omega))) rfl (WO.p rfl rfl (WO.conv64 rfl rfl rfl (by (first | (unfold in64; omega) | (unfold in64; omega))) rfl (WO.p rfl rfl (WO.ar rfl rfl rfl (by (first | (unfold in64; omega) | (unfold in64; omega))) rfl ?_)))))
                 refine WO.add rfl rfl (by unfold in64; omega) rfl ?_
                 rw [← hq]
                 refine WO.p rfl rfl ?_
                 refine WO.nil ?_
                 refine W.sreg ?_
                 refine WO.field0 rfl rfl rfl (WO.load rfl rfl (Cell.own Pick.head rfl) rfl (WO.p rfl rfl ?_))
                 refine' WO.indexAddr (n := _) (i := _) rfl rfl rfl ?hs ?h1 rfl ?_
                 case hs => (first | exact hR.sl)
                 case h1 => (first | omega | (simp; omega))
                 refine' WO.loadA (vs := _) rfl rfl ?hc ?hl rfl ?_
                 case hc => (first | exact RdF.cells2 hR (i := i) (by omega))
                 case hl => rfl
                 refine WO.alloc rfl rfl rfl (fun b5 hb5 => ?_)
                 refine WO.storeA rfl rfl rfl rfl Pick.head rfl rfl ?_
                 refine WO.nil ?_
                 refine W.sreg ?_
                 refine WO.field0 rfl rfl rfl (WO.load rfl rfl (Cell.own (Pick.tail (Pick.tail (Pick.head))) rfl) rfl (WO.field0 rfl rfl rfl (WO.load rfl rfl (Cell.own Pick.head rfl) rfl (WO.p rfl rfl (WO.ar rfl rfl rfl (by (first | (unfold in64; omega) | (unfold in64; omega))) rfl (WO.fieldL rfl rfl rfl (WO.load rfl rfl (Cell.own Pick.head rfl) rfl (WO.p rfl rfl (WO.ar rfl rfl rfl (by (first | (unfold in64; omega) | (unfold in64; omega))) rfl ?_)))))))))
                 refine' WO.build (cs := _) rfl rfl rfl ?hf rfl ?_
                 case hf => (conv => lhs; simp [-List.getD_eq_getElem?_getD, fillL, vcl, wrl, TTab.pl?.lget']) <;> rfl
                 refine' WO.buildSl (cs := _) rfl rfl rfl rfl ?hf rfl rfl ?hl rfl (fun v6 => ?_)
                 case hf => (conv => lhs; simp [-List.getD_eq_getElem?_getD, fillL, vcl, wrl, TTab.pl?.lget']) <;> rfl
                 case hl => rfl
                 refine' WO.appendE (enc := encP) (m := 1) (xs := (tltP a m l).take i) (ys := [((l.getD i (0, 0)).1 + q, (l.getD i (0, 0)).2 + q)]) encP_ok rfl rfl rfl rfl rfl (by repeat (first | exact Pick.head | apply Pick.tail)) (isSl_lit (by omega) (fun _ => ⟨_, _, rfl⟩)) (by omega) rfl (OwC.cells .head) (by rw [List.length_take, tltP_len]; omega) (by rw [List.length_take, tltP_len]; omega) rfl (fun g c => ?_)
                 rw [take_next (z := ((0 : Int), (0 : Int))) (x := tltP a m l) (i := i) (by rw [tltP_len]; omega) (by rw [tltP_get _ _ _ _ (by omega), hq])]
                 refine WO.field0 rfl rfl rfl (WO.store1 rfl rfl rfl (by first | rfl | assumption) (Pick.tail (Pick.tail (Pick.tail (Pick.tail (Pick.head))))) rfl ?_)
                 refine WO.nil ?_
                 refine W.seq ?_
                 refine W.drawD 11 [.r 0 [], .b 1 [], .r 2 [], .b 3 [], .r 4 [], .r 5 [], .r 6 [], .r 7 [], .r 8 [], .b 9 [], .c 10 []] [] (A0 := [_]) (H0 := [_, _, _, _, _, _, _, _, _, _, _, _]) (.cons (Pick.tail (Pick.tail (Pick.tail (Pick.tail (Pick.tail (Pick.tail (Pick.tail (Pick.tail .head)))))))) (.cons .head (.cons .head (.cons .head (.cons .head (.cons .head (.cons .head (.cons .head (.cons .head (.cons .head (.cons .head (.cons .head (.cons .head .nil))))))))))))) (by kernel_rfl) ?_ ?_
                 · exact (ALok.r (ALok.b (ALok.r (ALok.b (ALok.r (ALok.r (ALok.r (ALok.r (ALok.r (ALok.b (ALok.c ALok.nil)))))))))))
                 refine' DT.r rfl rfl rfl ?hq ?_
                 case hq =>
                   refine WO.field0 rfl rfl rfl ?_
                   exact WO.nil ⟨rfl, rfl⟩
                 refine' DT.b rfl rfl rfl ?hq ?_
                 case hq =>
                   refine WO.load rfl rfl (Cell.own (Pick.tail (Pick.tail (Pick.tail (Pick.tail (Pick.tail (Pick.head)))))) rfl) rfl ?_
                   exact WO.nil ⟨rfl, rfl⟩
                 refine' DT.r rfl rfl rfl ?hq ?_
                 case hq =>
                   refine WO.field0 rfl rfl rfl ?_
                   exact WO.nil ⟨rfl, rfl⟩
                 refine' DT.b rfl rfl rfl ?hq ?_
                 case hq =>
                   refine WO.load rfl rfl (Cell.own (Pick.tail (Pick.tail (Pick.tail (Pick.tail (Pick.head))))) rfl) rfl ?_
                   exact WO.nil ⟨rfl, rfl⟩
                 refine' DT.r rfl rfl rfl ?hq ?_
                 case hq =>
                   refine WO.p rfl rfl ?_
                   exact WO.nil ⟨rfl, rfl⟩
                 refine' DT.r rfl rfl rfl ?hq ?_
                 case hq =>
                   refine WO.ar rfl rfl rfl (by (first | (unfold in64; omega) | (unfold in64; omega))) rfl ?_
                   exact WO.nil ⟨rfl, rfl⟩
                 refine' DT.r rfl rfl rfl ?hq ?_
                 case hq =>
                   refine WO.p rfl rfl ?_
                   exact WO.nil ⟨rfl, rfl⟩
                 refine' DT.r rfl rfl rfl ?hq ?_
                 case hq =>
                   refine WO.sub rfl rfl (by unfold in64; omega) rfl ?_
                   rw [show (n : Int) - 1 - (i : Int) = (j : Int) by omega]
                   exact WO.nil ⟨rfl, rfl⟩
                 refine' DT.r rfl rfl rfl ?hq ?_
                 case hq =>
                   refine' WO.indexAddr (n := _) (i := _) rfl rfl rfl ?hs ?h1 rfl ?_
                   case hs => (first | exact hR.sl)
                   case h1 => (first | omega | (simp; omega))
                   exact WO.nil ⟨rfl, rfl⟩
                 refine' DT.b rfl rfl rfl ?hq ?_
                 case hq =>
                   refine' WO.loadA (vs := _) rfl rfl ?hc ?hl rfl ?_
                   case hc => (first | exact RdF.cells2 hR (i := j) (by omega))
                   case hl => rfl
                   exact WO.nil ⟨rfl, rfl⟩
                 refine DT.c [_, _, _, _, _, _, _, _, _, _, _, _, _] rfl rfl rfl rfl ?_
                 refine' WO.buildSl (cs := _) rfl rfl rfl rfl ?hf rfl rfl ?hl rfl (fun v7 => ?_)
                 case hf => (conv => lhs; simp [-List.getD_eq_getElem?_getD, fillL, vcl, wrl, TTab.pl?.lget']) <;> rfl
                 case hl => rfl
                 refine WO.nil ⟨_, [_, _], rfl, rfl, (Keep.b (Keep.r (Keep.r (Keep.r (Keep.r (Keep.r (Keep.b (Keep.r (Keep.b (Keep.r Keep.nil)))))))))), ?_⟩
                 refine DT.nil [_, _, _, _, _, _, _, _, _, _, _, _, _, _] rfl ?_
                 refine' WO.appendE (enc := encP) (m := 1) (xs := (l.reverse).take i) (ys := [l.getD j (0, 0)]) encP_ok rfl rfl rfl rfl rfl (by repeat (first | exact Pick.head | apply Pick.tail)) (isSl_lit (by omega) (fun _ => ⟨_, _, rfl⟩)) (by omega) rfl (OwC.cells .head) (by rw [List.length_take, List.length_reverse]; omega) (by rw [List.length_take, List.length_reverse]; omega) rfl (fun g c => ?_)
                 rw [take_next (z := ((0 : Int), (0 : Int))) (x := l.reverse) (i := i) (by rw [List.length_reverse]; omega) (by rw [getD_rev (by omega), hj, hn])]
                 refine WO.field0 rfl rfl rfl (WO.store1 rfl rfl rfl (by first | rfl | assumption) (Pick.tail (Pick.tail (Pick.tail (Pick.tail (Pick.tail (Pick.tail (Pick.tail (Pick.head)))))))) rfl ?_)
                 refine WO.nil ?_
                 refine W.sreg ?_
                 refine WO.field0 rfl rfl rfl (WO.load rfl rfl (Cell.own (Pick.tail (Pick.tail (Pick.tail (Pick.tail (Pick.tail (Pick.tail (Pick.tail (Pick.tail (Pick.head))))))))) rfl) rfl (WO.fieldL rfl rfl rfl (WO.load rfl rfl (Cell.own (Pick.tail (Pick.tail (Pick.tail (Pick.tail (Pick.tail (Pick.tail (Pick.head))))))) rfl) rfl (WO.neg rfl (by (first | (unfold in64; omega) | (unfold in64; omega))) rfl (WO.field0 rfl rfl rfl (WO.load rfl rfl (Cell.own (Pick.tail (Pick.tail (Pick.tail (Pick.tail (Pick.tail (Pick.tail (Pick.head))))))) rfl) rfl (WO.neg rfl (by (first | (unfold in64; omega) | (unfold in64; omega))) rfl ?_)))))))
                 refine' WO.build (cs := _) rfl rfl rfl ?hf rfl ?_
                 case hf => (conv => lhs; simp [-List.getD_eq_getElem?_getD, fillL, vcl, wrl, TTab.pl?.lget']) <;> rfl
                 refine' WO.buildSl (cs := _) rfl rfl rfl rfl ?hf rfl rfl ?hl rfl (fun v8 => ?_)
                 case hf => (conv => lhs; simp [-List.getD_eq_getElem?_getD, fillL, vcl, wrl, TTab.pl?.lget']) <;> rfl
                 case hl => rfl
                 refine' WO.appendE (enc := encP) (m := 1) (xs := (ngP l).take i) (ys := [(-(l.getD i (0, 0)).2, -(l.getD i (0, 0)).1)]) encP_ok rfl rfl rfl rfl rfl (by repeat (first | exact Pick.head | apply Pick.tail)) (isSl_lit (by omega) (fun _ => ⟨_, _, rfl⟩)) (by omega) rfl (OwC.cells .head) (by rw [List.length_take, ngP_len]; omega) (by rw [List.length_take, ngP_len]; omega) rfl (fun g c => ?_)
                 rw [take_next (z := ((0 : Int), (0 : Int))) (x := ngP l) (i := i) (by rw [ngP_len]; omega) (ngP_get (by omega))]
                 refine WO.field0 rfl rfl rfl (WO.store1 rfl rfl rfl (by first | rfl | assumption) (Pick.tail (Pick.tail (Pick.tail (Pick.tail (Pick.tail (Pick.tail (Pick.tail (Pick.tail (Pick.tail (Pick.tail (Pick.head))))))))))) rfl ?_)
                 refine WO.nil ?_
                 refine W.sreg ?_
                 refine WO.p rfl rfl (WO.p rfl rfl (WO.p rfl rfl ?_))
                 refine' WO.indexAddr (n := _) (i := _) rfl rfl rfl ?hs ?h1 rfl ?_
                 case hs => (first | exact hxs)
                 case h1 => (first | omega | (simp; omega))
                 refine' WO.load (v := _) rfl rfl ?hc rfl ?_
                 case hc => (first | (refine owE_cellS (e := 2) (xs := x) (x := x.getD i 0) (i := i) ?_ (by omega) rfl rfl; exact (by repeat (first | exact Sub.nil | refine Sub.cons (by repeat (first | exact Pick.head | apply Pick.tail)) ?_))))
                 refine WO.p rfl rfl (WO.ar rfl rfl rfl (by (first | (unfold in64; omega) | (unfold in64; omega))) rfl ?_)
                 refine' WO.buildSl (cs := _) rfl rfl rfl rfl ?hf rfl rfl ?hl rfl (fun v9 => ?_)
                 case hf => (conv => lhs; simp [-List.getD_eq_getElem?_getD, fillL, vcl, wrl, TTab.pl?.lget']) <;> rfl
                 case hl => rfl
                 refine' WO.appendE (enc := encI) (m := 1) (xs := (tlt a m x).take i) (ys := [x.getD i 0 + q]) encI_ok rfl rfl rfl rfl rfl (by repeat (first | exact Pick.head | apply Pick.tail)) (isSl_lit (by omega) (fun _ => ⟨_, _, rfl⟩)) (by omega) rfl (OwC.cells .head) (by rw [List.length_take, tlt_len]; omega) (by rw [List.length_take, tlt_len]; omega) rfl (fun g c => ?_)
                 rw [take_next (z := (0 : Int)) (x := tlt a m x) (i := i) (by rw [tlt_len]; omega) (by rw [tlt_get _ _ _ _ (by omega), hq])]
                 refine WO.p rfl rfl ?_
                 refine WO.nil ?_
                 refine W.sreg ?_
                 refine WO.p rfl rfl (WO.p rfl rfl (WO.p rfl rfl (WO.ar rfl rfl rfl (by (first | (unfold in64; omega) | (unfold in64; omega))) rfl (WO.p rfl rfl ?_))))
                 refine WO.sub rfl rfl (by unfold in64; omega) rfl ?_
                 rw [show (n : Int) - 1 - (i : Int) = (j : Int) by omega]
                 refine' WO.indexAddr (n := _) (i := _) rfl rfl rfl ?hs ?h1 rfl ?_
                 case hs => (first | exact hxs)
                 case h1 => (first | omega | (simp; omega))
                 refine' WO.load (v := _) rfl rfl ?hc rfl ?_
                 case hc => (first | (refine owE_cellS (e := 2) (xs := x) (x := x.getD j 0) (i := j) ?_ (by omega) rfl rfl; exact (by repeat (first | exact Sub.nil | refine Sub.cons (by repeat (first | exact Pick.head | apply Pick.tail)) ?_))))
                 refine' WO.buildSl (cs := _) rfl rfl rfl rfl ?hf rfl rfl ?hl rfl (fun v10 => ?_)
                 case hf => (conv => lhs; simp [-List.getD_eq_getElem?_getD, fillL, vcl, wrl, TTab.pl?.lget']) <;> rfl
                 case hl => rfl
                 refine' WO.appendE (enc := encI) (m := 1) (xs := (x.reverse).take i) (ys := [x.getD j 0]) encI_ok rfl rfl rfl rfl rfl (by repeat (first | exact Pick.head | apply Pick.tail)) (isSl_lit (by omega) (fun _ => ⟨_, _, rfl⟩)) (by omega) rfl (OwC.cells .head) (by rw [List.length_take, List.length_reverse]; omega) (by rw [List.length_take, List.length_reverse]; omega) rfl (fun g c => ?_)
                 rw [take_next (z := (0 : Int)) (x := x.reverse) (i := i) (by rw [List.length_reverse]; omega) (by rw [getD_rev (by omega), hj, hxl])]
                 refine WO.p rfl rfl ?_
                 refine WO.nil ?_
                 refine W.region ?_
                 refine WO.p rfl rfl (WO.p rfl rfl (WO.p rfl rfl ?_))
                 refine' WO.indexAddr (n := _) (i := _) rfl rfl rfl ?hs ?h1 rfl ?_
                 case hs => (first | exact hxs)
                 case h1 => (first | omega | (simp; omega))
                 refine' WO.load (v := _) rfl rfl ?hc rfl ?_
                 case hc => (first | (refine owE_cellS (e := 2) (xs := x) (x := x.getD i 0) (i := i) ?_ (by omega) rfl rfl; exact (by repeat (first | exact Sub.nil | refine Sub.cons (by repeat (first | exact Pick.head | apply Pick.tail)) ?_))))
                 refine WO.neg rfl (by (first | (unfold in64; omega) | (unfold in64; omega))) rfl ?_
                 refine' WO.buildSl (cs := _) rfl rfl rfl rfl ?hf rfl rfl ?hl rfl (fun v11 => ?_)
                 case hf => (conv => lhs; simp [-List.getD_eq_getElem?_getD, fillL, vcl, wrl, TTab.pl?.lget']) <;> rfl
                 case hl => rfl
                 refine' WO.appendE (enc := encI) (m := 1) (xs := (ngL x).take i) (ys := [-(x.getD i 0)]) encI_ok rfl rfl rfl rfl rfl (by repeat (first | exact Pick.head | apply Pick.tail)) (isSl_lit (by omega) (fun _ => ⟨_, _, rfl⟩)) (by omega) rfl (OwC.cells .head) (by rw [List.length_take, ng_len]; omega) (by rw [List.length_take, ng_len]; omega) rfl (fun g c => ?_)
                 rw [take_next (z := (0 : Int)) (x := ngL x) (i := i) (by rw [ng_len]; omega) (ng_get (by omega))]
                 refine WO.p rfl rfl ?_
                 refine WO.nil ?_
                 refine W.region ?_
                 refine WO.p rfl rfl (WO.ar rfl rfl rfl (by (first | (unfold in64; omega) | (unfold in64; omega))) rfl (WO.p rfl rfl ?_))
                 refine WO.nil ?_
                 refine' ⟨i + 1, _, _, _, _, _, _, ?hp, ?hmu, ⟨rfl, rfl, rfl, rfl, rfl, rfl, rfl, rfl, rfl, rfl, rfl, rfl, trivial⟩, ?hS⟩
                 case hS => repeat (first | exact Sub.nil | refine Sub.cons (by repeat (first | exact Pick.head | apply Pick.tail)) ?_)
                 case hp => omega
                 case hmu => omega)
            · first
              | (exfalso; omega)
              | (refine W.exit (blk_same ?_)
                 refine W.seq ?_
                 obtain rfl : i = n := by omega
                 rw [List.take_of_length_le (l := tltP a m l) (by rw [tltP_len]; omega), List.take_of_length_le (l := l.reverse) (by rw [List.length_reverse]; omega), List.take_of_length_le (l := ngP l) (by rw [ngP_len]; omega), List.take_of_length_le (l := tlt a m x) (by rw [tlt_len]; omega), List.take_of_length_le (l := x.reverse) (by rw [List.length_reverse]; omega), List.take_of_length_le (l := ngL x) (by rw [ng_len]; omega)]
                 refine W.sreg ?_
                 refine WO.loadA rfl rfl (Cells.own (Pick.tail (Pick.head))) rfl rfl ?_
                 refine WO.callR rfl Try.call32 (fun L w hi => law_fine w _ (tltP a m l) t (RdF.of_ow (e := 51) encP_ok (by repeat (first | exact Pick.head | apply Pick.tail)) hi)) rfl ?_
                 refine WO.p rfl rfl ?_
                 refine WO.nil ?_
                 refine W.cond_nbl rfl (fun c4 => ?_) (fun c4 => ?_)
                 · first
                   | (exfalso; omega)
                   | (refine W.sreg ?_
                      refine WO.callR rfl Try.call13 (fun L w hi => l_Works w) rfl ?_
                      refine WO.p rfl rfl ?_
                      refine WO.nil ?_
                      refine W.ret ?_
                      first | exact fin.ret (Res.one rfl (RV.tmp rfl)) rfl | (exfalso; omega))
                 · first
                   | (exfalso; omega)
                   | (refine W.skip ?_
                      have hc1 : chkF (tltP a m l) t = 0 := by assumption
                      have hc2 := chk_rev hc0
                      have hc3 := chk_ng hc0
                      have hm0 := meaV_in hc0 hin
                      have hm1 := meaV_in hc1 (InS_tlt a m hin)
                      have hm2 := meaV_in hc2 (InS_rev hin)
                      have hm3 := meaV_in hc3 (InS_ng hin)
                      rw [ch_tlt, be_tlt] at hm1
                      rw [ch_rev, be_rev] at hm2
                      rw [ch_ng, be_ng] at hm3
                      have hf1 := fa_tlt hc0 hc1
                      have hf2 := fa_rev hc0
                      have hf3 := fa_ng hc0
                      have hf0 := faC_in hc0
                      have hfl0 := hf0.1.1
                      refine W.sreg ?_
                      refine WO.p rfl rfl ?_
                      refine WO.callR (r := .tuple #[.int .i64 (chL x : Int), .int .i64 (beL x), .int .i64 0]) rfl Try.call14 (fun L w hi => by rw [← hm0]; exact c_Measure w _ x (RdF.of_ow (e := 2) encI_ok (by repeat (first | exact Pick.head | apply Pick.tail)) hi)) rfl ?_
                      refine WO.p rfl rfl (WO.p rfl rfl (WO.p rfl rfl (WO.p rfl rfl (WO.p rfl rfl (WO.p rfl rfl (WO.p rfl rfl ?_))))))
                      refine WO.nil ?_
                      refine W.fact (OwE.form (enc := encI) (e := 2) (sz := 1) (v := av) (xs := tlt a m x) (by repeat (first | exact Pick.head | apply Pick.tail))) (fun hav => ?_)
                      obtain ⟨aa, ac, rfl⟩ := hav
                      refine W.fact (OwE.form (enc := encI) (e := 2) (sz := 1) (v := rv) (xs := x.reverse) (by repeat (first | exact Pick.head | apply Pick.tail))) (fun hav => ?_)
                      obtain ⟨ra, rc, rfl⟩ := hav
                      refine W.fact (OwE.form (enc := encI) (e := 2) (sz := 1) (v := nv) (xs := ngL x) (by repeat (first | exact Pick.head | apply Pick.tail))) (fun hav => ?_)
                      obtain ⟨na, nc, rfl⟩ := hav
                      simp only [tlt_len, List.length_reverse, ng_len]
                      refine W.sreg ?_
                      refine WO.p rfl rfl (WO.p rfl rfl (WO.p rfl rfl ?_))
                      refine' WO.buildSl (cs := _) rfl rfl rfl rfl ?hf rfl rfl ?hl rfl (fun v5 => ?_)
                      case hf => (conv => lhs; simp [-List.getD_eq_getElem?_getD, fillL, vcl, wrl, TTab.pl?.lget']) <;> rfl
                      case hl => rfl
                      refine WO.p rfl rfl ?_
                      refine WO.nil ?_
                      refine W.seq ?_
                      refine W.sreg ?_
                      refine WO.p rfl rfl ?_
                      refine WO.nil ?_
                      refine W.block ?_
                      refine W.loop (fun (k : Nat) => k ≤ 3)
                        (fun (k : Nat) => [(1, .int .i16 a), (2, .int .i16 m), (4, .pointer (some ⟨b1, 0, none⟩)), (10, .int .i64 (i : Int)), (11, .pointer (some ⟨b2, 0, none⟩)), (12, .pointer (some ⟨b3, 0, none⟩)), (13, .pointer (some ⟨b4, 0, none⟩)), (20, .int .i64 (chL x : Int)), (21, .int .i64 (beL x)), (22, .int .i64 0), (23, .slice (some ⟨v5, 0, none⟩) 3 3), (24, .int .i64 (k : Int))])
                        (fun (k : Nat) => [OwC 25 1 (.slice (some ⟨v5, 0, none⟩) 3 3) 3 [.slice aa x.length ac, .slice ra x.length rc, .slice na x.length nc], pt b1 (.cells #[o, .int .i64 t] 24 (0, 0)), pt b2 (.cells #[tv, .int .i64 t] 24 (0, 0)), pt b3 (.cells #[bv, .int .i64 t] 24 (0, 0)), pt b4 (.cells #[mv, .int .i64 t] 24 (0, 0)), OwE encP 51 2 tv (tltP a m l), OwE encP 51 2 bv l.reverse, OwE encP 51 2 mv (ngP l), OwE encI 2 1 (.slice aa x.length ac) (tlt a m x), OwE encI 2 1 (.slice ra x.length rc) x.reverse, OwE encI 2 1 (.slice na x.length nc) (ngL x)])
                        (fun (k : Nat) => 3 - k) 0
                        (by exact Nat.zero_le _) ⟨rfl, rfl, rfl, rfl, rfl, rfl, rfl, rfl, rfl, rfl, rfl, rfl, trivial⟩ (by repeat (first | exact Sub.nil | refine Sub.cons (by repeat (first | exact Pick.head | apply Pick.tail)) ?_)) ?_
                      rintro k hk
                      refine W.seq ?_
                      refine W.sreg ?_
                      refine WO.p rfl rfl (WO.p rfl rfl ?_)
                      refine WO.nil ?_
                      refine W.cond_bl rfl (fun c5 => ?_) (fun c5 => ?_)
                      · first
                        | (exfalso; omega)
                        | (refine W.skip ?_
                           refine W.seq ?_
                           refine W.block ?_
                           have hk3 : k = 0 ∨ k = 1 ∨ k = 2 := by omega
                           refine W.sreg ?_
                           refine WO.p rfl rfl (WO.p rfl rfl ?_)
                           refine' WO.indexAddr (n := _) (i := _) rfl rfl rfl ?hs ?h1 rfl ?_
                           case hs => (first | exact isSl_lit (n := 3) (c := 3) (by omega) (fun _ => ⟨_, _, rfl⟩))
                           case h1 => (first | omega | (simp; omega))
                           refine' WO.load (v := _) rfl rfl ?hc rfl ?_
                           case hc => (first | (refine OwC.cell1s (e := 25) (n := 3) (v := .slice (some ⟨v5, 0, none⟩) 3 3) (cs := [.slice aa x.length ac, .slice ra x.length rc, .slice na x.length nc]) (i := k) ?_ (by simp only [List.length_cons, List.length_nil]; omega); exact (by repeat (first | exact Sub.nil | refine Sub.cons (by repeat (first | exact Pick.head | apply Pick.tail)) ?_))))
                           refine WO.callR (r := .tuple #[.int .i64 (chL x : Int), .int .i64 (beL x), .int .i64 0]) rfl Try.call14 (fun L w hi => by (rcases hk3 with rfl | rfl | rfl; (rw [← hm1]; exact c_Measure w _ (tlt a m x) (RdF.of_ow (e := 2) (v := .slice aa x.length ac) encI_ok (by repeat (first | exact Pick.head | apply Pick.tail)) hi)); (rw [← hm2]; exact c_Measure w _ x.reverse (RdF.of_ow (e := 2) (v := .slice ra x.length rc) encI_ok (by repeat (first | exact Pick.head | apply Pick.tail)) hi)); (rw [← hm3]; exact c_Measure w _ (ngL x) (RdF.of_ow (e := 2) (v := .slice na x.length nc) encI_ok (by repeat (first | exact Pick.head | apply Pick.tail)) hi)))) rfl ?_
                           refine WO.p rfl rfl (WO.p rfl rfl (WO.p rfl rfl (WO.p rfl rfl (WO.p rfl rfl (WO.p rfl rfl (WO.p rfl rfl ?_))))))
                           refine WO.nil ?_
                           refine W.sreg ?_
                           refine WO.p rfl rfl (WO.p rfl rfl ?_)
                           refine WO.neqF rfl rfl (by omega) rfl ?_
                           refine WO.p rfl rfl (WO.pg rfl rfl rfl (WO.pg rfl rfl rfl (WO.go' rfl ?_)))
                           refine WO.neqF rfl rfl (by omega) rfl ?_
                           refine WO.p rfl rfl (WO.p rfl rfl (WO.pg rfl rfl rfl (WO.pg rfl rfl rfl (WO.go' rfl ?_))))
                           refine WO.neqF rfl rfl (by omega) rfl ?_
                           refine WO.p rfl rfl (WO.p rfl rfl (WO.pg rfl rfl rfl (WO.go' rfl ?_)))
                           refine WO.neqF rfl rfl (by omega) rfl ?_
                           refine WO.p rfl rfl ?_
                           refine WO.nil ?_
                           refine W.cond_f rfl ?_
                           refine W.skip ?_
                           refine W.region ?_
                           refine WO.p rfl rfl (WO.ar rfl rfl rfl (by (first | (unfold in64; omega) | (unfold in64; omega))) rfl (WO.p rfl rfl ?_))
                           refine WO.nil ?_
                           refine' ⟨k + 1, ?hp, ?hmu, ⟨rfl, rfl, rfl, rfl, rfl, rfl, rfl, rfl, rfl, rfl, rfl, rfl, trivial⟩, ?hS⟩
                           case hS => repeat (first | exact Sub.nil | refine Sub.cons (by repeat (first | exact Pick.head | apply Pick.tail)) ?_)
                           case hp => omega
                           case hmu => omega)
                      · first
                        | (exfalso; omega)
                        | (refine W.exit (blk_same ?_)
                           refine W.sreg ?_
                           refine WO.loadA rfl rfl (Cells.own (Pick.tail (Pick.head))) rfl rfl ?_
                           refine WO.call (Post := fun r Hq => ∃ x : Value, r = .tuple #[x, .int .i64 (faC l t), .int .i64 0] ∧ Hq = [OwE encI 2 1 x (faL l t)]) rfl Try.call21 (fun L w hi => by have h := c_Fairest w _ l t (hR.later hi); rw [hc0] at h; exact h) rfl ?_
                           rintro _ _ ⟨f1, rfl, rfl⟩
                           refine WO.fact (OwE.sl (enc := encI) (e := 2) (sz := 1) (xs := faL l t) (v := f1) Pick.head) (fun hsf1 => ?_)
                           refine WO.p rfl rfl (WO.p rfl rfl (WO.p rfl rfl (WO.p rfl rfl (WO.p rfl rfl (WO.p rfl rfl (WO.p rfl rfl ?_))))))
                           refine WO.nil ?_
                           refine W.sreg ?_
                           refine WO.loadA rfl rfl (Cells.own (Pick.tail (Pick.tail (Pick.tail (Pick.head))))) rfl rfl ?_
                           refine WO.call (Post := fun r Hq => ∃ x : Value, r = .tuple #[x, .int .i64 (faC l t), .int .i64 0] ∧ Hq = [OwE encI 2 1 x (tlt a m (faL l t))]) rfl Try.call21 (fun L w hi => by have h := c_Fairest w _ (tltP a m l) t (RdF.of_ow (e := 51) encP_ok (by repeat (first | exact Pick.head | apply Pick.tail)) hi); rw [hc1, hf1.1, hf1.2] at h; exact h) rfl ?_
                           rintro _ _ ⟨f2, rfl, rfl⟩
                           refine WO.fact (OwE.sl (enc := encI) (e := 2) (sz := 1) (xs := tlt a m (faL l t)) (v := f2) Pick.head) (fun hsf2 => ?_)
                           refine WO.p rfl rfl (WO.p rfl rfl (WO.p rfl rfl (WO.p rfl rfl (WO.p rfl rfl (WO.p rfl rfl (WO.p rfl rfl ?_))))))
                           refine WO.nil ?_
                           refine W.sreg ?_
                           refine WO.loadA rfl rfl (Cells.own (Pick.tail (Pick.tail (Pick.tail (Pick.tail (Pick.tail (Pick.head))))))) rfl rfl ?_
                           refine WO.call (Post := fun r Hq => ∃ x : Value, r = .tuple #[x, .int .i64 (faC l t), .int .i64 0] ∧ Hq = [OwE encI 2 1 x (faL l.reverse t)]) rfl Try.call21 (fun L w hi => by have h := c_Fairest w _ l.reverse t (RdF.of_ow (e := 51) encP_ok (by repeat (first | exact Pick.head | apply Pick.tail)) hi); rw [hc2, hf2] at h; exact h) rfl ?_
                           rintro _ _ ⟨f3, rfl, rfl⟩
                           refine WO.p rfl rfl (WO.p rfl rfl (WO.p rfl rfl (WO.p rfl rfl (WO.p rfl rfl (WO.p rfl rfl (WO.p rfl rfl ?_))))))
                           refine WO.nil ?_
                           refine W.sreg ?_
                           refine WO.loadA rfl rfl (Cells.own (Pick.tail (Pick.tail (Pick.tail (Pick.tail (Pick.tail (Pick.tail (Pick.tail (Pick.head))))))))) rfl rfl ?_
                           refine WO.call (Post := fun r Hq => ∃ x : Value, r = .tuple #[x, .int .i64 (faC l t), .int .i64 0] ∧ Hq = [OwE encI 2 1 x (faL (ngP l) t)]) rfl Try.call21 (fun L w hi => by have h := c_Fairest w _ (ngP l) t (RdF.of_ow (e := 51) encP_ok (by repeat (first | exact Pick.head | apply Pick.tail)) hi); rw [hc3, hf3] at h; exact h) rfl ?_
                           rintro _ _ ⟨f4, rfl, rfl⟩
                           refine WO.p rfl rfl (WO.p rfl rfl (WO.p rfl rfl (WO.p rfl rfl (WO.p rfl rfl (WO.p rfl rfl (WO.p rfl rfl ?_))))))
                           refine WO.nil ?_
                           refine W.seq ?_
                           refine W.sreg ?_
                           refine WO.p rfl rfl ?_
                           refine WO.neqF rfl rfl (by omega) rfl ?_
                           refine WO.p rfl rfl (WO.pg rfl rfl rfl (WO.go' rfl ?_))
                           refine WO.neqF rfl rfl (by omega) rfl ?_
                           refine WO.p rfl rfl (WO.p rfl rfl (WO.pg rfl rfl rfl (WO.go' rfl ?_)))
                           refine WO.neqF rfl rfl (by omega) rfl ?_
                           refine WO.p rfl rfl (WO.p rfl rfl (WO.pg rfl rfl rfl (WO.go' rfl ?_)))
                           refine WO.neqF rfl rfl (by omega) rfl ?_
                           refine WO.p rfl rfl (WO.p rfl rfl (WO.pg rfl rfl rfl (WO.pg rfl rfl rfl (WO.go' rfl ?_))))
                           refine WO.neqF rfl rfl (by omega) rfl ?_
                           refine WO.p rfl rfl (WO.p rfl rfl (WO.pg rfl rfl rfl (WO.pg rfl rfl rfl (WO.go' rfl ?_))))
                           refine WO.neqF rfl rfl (by omega) rfl ?_
                           refine WO.p rfl rfl (WO.p rfl rfl (WO.pg rfl rfl rfl (WO.pg rfl rfl rfl (WO.go' rfl ?_))))
                           refine WO.neqF rfl rfl (by omega) rfl ?_
                           refine WO.p rfl rfl (WO.p rfl rfl (WO.pg rfl rfl rfl (WO.go' rfl ?_)))
                           refine' WO.len (n := _) rfl rfl ?hs rfl ?_
                           case hs => (first | exact hsf1)
                           refine WO.pg rfl rfl rfl (WO.go' rfl ?_)
                           refine WO.neqF rfl rfl (by first | omega | (rw [tlt_len]; omega)) rfl ?_
                           refine WO.p rfl rfl (WO.p rfl rfl (WO.pg rfl rfl rfl (WO.go' rfl ?_)))
                           refine' WO.len (n := _) rfl rfl ?hs rfl ?_
                           case hs => (first | exact hsf2)
                           refine WO.pg rfl rfl rfl (WO.go' rfl ?_)
                           refine WO.neqF rfl rfl (by first | omega | (rw [tlt_len]; omega)) rfl ?_
                           refine WO.p rfl rfl ?_
                           refine WO.nil ?_
                           refine W.cond_f rfl ?_
                           refine W.skip ?_
                           refine W.seq ?_
                           refine W.sreg ?_
                           refine WO.p rfl rfl ?_
                           refine WO.nil ?_
                           refine W.block ?_
                           refine W.loop (fun (g : Nat) => g ≤ i)
                             (fun (g : Nat) => [(1, .int .i16 a), (2, .int .i16 m), (10, .int .i64 (i : Int)), (28, f1), (30, f2), (39, .int .i64 (g : Int))])
                             (fun (g : Nat) => [OwE encI 2 1 f1 (faL l t), OwE encI 2 1 f2 (tlt a m (faL l t))])
                             (fun (g : Nat) => i - g) 0
                             (by exact Nat.zero_le _) ⟨rfl, rfl, rfl, rfl, rfl, rfl, trivial⟩ (by repeat (first | exact Sub.nil | refine Sub.cons (by repeat (first | exact Pick.head | apply Pick.tail)) ?_)) ?_
                           rintro g hg
                           refine W.seq ?_
                           refine W.sreg ?_
                           refine WO.p rfl rfl (WO.p rfl rfl (WO.p rfl rfl ?_))
                           refine WO.nil ?_
                           refine W.cond_bl rfl (fun c6 => ?_) (fun c6 => ?_)
                           · first
                             | (exfalso; omega)
                             | (refine W.skip ?_
                                refine W.seq ?_
                                refine W.block ?_
                                refine W.seq ?_
                                have hml := mul_bd24 hm (i := g) (by omega)
                                have htg := tlt_get m (faL l t) a g (by omega)
                                have hgb := InS.ok hf0.1 hcf.2.2 ((faL l t).getD g 0) (getD_mem (l := faL l t) (i := g) (by omega) 0)
                                have htl := tlt_len m (faL l t) a
                                refine W.drawD 16 [.r 0 [], .r 1 [], .r 2 [], .b 3 [], .r 4 [], .r 5 [], .r 6 [], .b 7 [], .r 8 [], .r 9 [], .r 10 [], .r 11 [], .r 12 [], .r 13 [], .r 14 [], .r 15 []] [] (A0 := []) (Sub.refl _) (by kernel_rfl) ?_ ?_
                                · exact (ALok.r (ALok.r (ALok.r (ALok.b (ALok.r (ALok.r (ALok.r (ALok.b (ALok.r (ALok.r (ALok.r (ALok.r (ALok.r (ALok.r (ALok.r (ALok.r ALok.nil))))))))))))))))
                                refine' DT.r rfl rfl rfl ?hq ?_
                                case hq =>
                                  refine WO.p rfl rfl ?_
                                  exact WO.nil ⟨rfl, rfl⟩
                                refine' DT.r rfl rfl rfl ?hq ?_
                                case hq =>
                                  refine WO.p rfl rfl ?_
                                  exact WO.nil ⟨rfl, rfl⟩
                                refine' DT.r rfl rfl rfl ?hq ?_
                                case hq =>
                                  refine' WO.indexAddr (n := _) (i := _) rfl rfl rfl ?hs ?h1 rfl ?_
                                  case hs => (first | exact hsf2)
                                  case h1 => (first | omega | (simp; omega))
                                  exact WO.nil ⟨rfl, rfl⟩
                                refine' DT.b rfl rfl rfl ?hq ?_
                                case hq =>
                                  refine' WO.load (v := _) rfl rfl ?hc rfl ?_
                                  case hc => (first | (refine owE_cellS (e := 2) (xs := tlt a m (faL l t)) (x := (tlt a m (faL l t)).getD g 0) (i := g) ?_ (by omega) rfl rfl; exact (by repeat (first | exact Sub.nil | refine Sub.cons (by repeat (first | exact Pick.head | apply Pick.tail)) ?_))))
                                  exact WO.nil ⟨rfl, rfl⟩
                                refine' DT.r rfl rfl rfl ?hq ?_
                                case hq =>
                                  refine WO.p rfl rfl ?_
                                  exact WO.nil ⟨rfl, rfl⟩
                                refine' DT.r rfl rfl rfl ?hq ?_
                                case hq =>
                                  refine WO.p rfl rfl ?_
                                  exact WO.nil ⟨rfl, rfl⟩
                                refine' DT.r rfl rfl rfl ?hq ?_
                                case hq =>
                                  refine' WO.indexAddr (n := _) (i := _) rfl rfl rfl ?hs ?h1 rfl ?_
                                  case hs => (first | exact hsf1)
                                  case h1 => (first | omega | (simp; omega))
                                  exact WO.nil ⟨rfl, rfl⟩
                                refine' DT.b rfl rfl rfl ?hq ?_
                                case hq =>
                                  refine' WO.load (v := _) rfl rfl ?hc rfl ?_
                                  case hc => (first | (refine owE_cellS (e := 2) (xs := faL l t) (x := (faL l t).getD g 0) (i := g) ?_ (by omega) rfl rfl; exact (by repeat (first | exact Sub.nil | refine Sub.cons (by repeat (first | exact Pick.head | apply Pick.tail)) ?_))))
                                  exact WO.nil ⟨rfl, rfl⟩
                                refine' DT.r rfl rfl rfl ?hq ?_
                                case hq =>
                                  refine WO.p rfl rfl ?_
                                  exact WO.nil ⟨rfl, rfl⟩
                                refine' DT.r rfl rfl rfl ?hq ?_
                                case hq =>
                                  refine WO.conv64 rfl rfl rfl (by (first | (unfold in64; omega) | (unfold in64; omega))) rfl ?_
                                  exact WO.nil ⟨rfl, rfl⟩
                                refine' DT.r rfl rfl rfl ?hq ?_
                                case hq =>
                                  refine WO.ar rfl rfl rfl (by (first | (unfold in64; omega) | (unfold in64; omega))) rfl ?_
                                  exact WO.nil ⟨rfl, rfl⟩
                                refine' DT.r rfl rfl rfl ?hq ?_
                                case hq =>
                                  refine WO.p rfl rfl ?_
                                  exact WO.nil ⟨rfl, rfl⟩
                                refine' DT.r rfl rfl rfl ?hq ?_
                                case hq =>
                                  refine WO.conv64 rfl rfl rfl (by (first | (unfold in64; omega) | (unfold in64; omega))) rfl ?_
                                  exact WO.nil ⟨rfl, rfl⟩
                                refine' DT.r rfl rfl rfl ?hq ?_
                                case hq =>
                                  refine WO.p rfl rfl ?_
                                  exact WO.nil ⟨rfl, rfl⟩
                                refine' DT.r rfl rfl rfl ?hq ?_
                                case hq =>
                                  refine WO.ar rfl rfl rfl (by (first | (unfold in64; omega) | (unfold in64; omega))) rfl ?_
                                  exact WO.nil ⟨rfl, rfl⟩
                                refine' DT.r rfl rfl rfl ?hq ?_
                                case hq =>
                                  refine WO.ar rfl rfl rfl (by (first | (unfold in64; omega) | (unfold in64; omega))) rfl ?_
                                  exact WO.nil ⟨rfl, rfl⟩
                                refine DT.nil [_, _] rfl ?_
                                refine WO.neqF rfl rfl (by omega) rfl ?_
                                refine WO.nil ?_
                                refine W.cond_f rfl ?_
                                refine W.skip ?_
                                refine W.region ?_
                                refine WO.p rfl rfl (WO.ar rfl rfl rfl (by (first | (unfold in64; omega) | (unfold in64; omega))) rfl (WO.p rfl rfl ?_))
                                refine WO.nil ?_
                                refine' ⟨g + 1, ?hp, ?hmu, ⟨rfl, rfl, rfl, rfl, rfl, rfl, trivial⟩, ?hS⟩
                                case hS => repeat (first | exact Sub.nil | refine Sub.cons (by repeat (first | exact Pick.head | apply Pick.tail)) ?_)
                                case hp => omega
                                case hmu => omega)
                           · first
                             | (exfalso; omega)
                             | (refine W.exit (blk_same ?_)
                                refine W.sreg ?_
                                refine WO.callR rfl Try.call13 (fun L w hi => l_Works w) rfl ?_
                                refine WO.p rfl rfl ?_
                                refine WO.nil ?_
                                refine W.ret ?_
                                first | exact fin.ret (Res.one rfl (RV.tmp rfl)) rfl | (exfalso; omega)))))))
end Go.Proofs.Ytpecakgebhmnfaa
