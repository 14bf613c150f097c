/-
  What is proved here: smallest circles of points that are moved, turned or mirrored (no program in sight). Conditions: none; each theorem states its own.
  What is proved here: the law TurnMoved. Conditions: none; each contract states its own.
-/
import Derived.Test.YtkhplcncfogolaaM10
namespace Go.Proofs.Ytkhplcncfogolaa
open Go Go.TH Go.TH.Dsc
theorem best_iso {l : List (Rat × Rat)} {D : Dsc} {φ : Rat × Rat → Rat × Rat} {Φ Ψ : Dsc → Dsc} (h : Best l [] D) (h1 : ∀ D p, f (Φ D) (φ p) = f D p) (h2 : ∀ E p, f (Ψ E) p = f E (φ p)) (s1 : ∀ D, (Φ D).s = D.s) (s2 : ∀ E, (Ψ E).s = E.s) : Best (l.map φ) [] (Φ D) := by
  refine ⟨fun q hq => ?_, fun q hq => by simp at hq, fun E hE oE => ?_⟩
  · obtain ⟨p, hp, rfl⟩ := List.mem_map.1 hq
    rw [h1]; exact h.hold p hp
  · rw [s1, ← s2 E]
    exact h.min _ (fun p hp => by rw [h2]; exact hE _ (List.mem_map_of_mem hp)) (fun p hp => by simp at hp)
theorem lst_iso {l : Pts} {t : Int × Int → Int × Int} {c' : Cir} (φ : Rat × Rat → Rat × Rat) (Φ Ψ : Dsc → Dsc) (hl : OkL l) (h0 : l ≠ []) (ht : OkL (l.map t)) (hφ : ∀ p, toQ (t p) = φ (toQ p)) (h1 : ∀ D p, f (Φ D) (φ p) = f D p) (h2 : ∀ E p, f (Ψ E) p = f E (φ p)) (s1 : ∀ D, (Φ D).s = D.s) (s2 : ∀ E, (Ψ E).s = E.s) (hc : Can c') (hD : toD c' = Φ (toD (lst l))) : lst (l.map t) = c' := by
  refine (lst_eqD ht (fun e => h0 (List.map_eq_nil_iff.1 e)) hc ?_).symm
  have h := best_iso (lst_sm hl h0).best h1 h2 s1 s2
  rw [hD]
  have e : (l.map t).map toQ = (l.map toQ).map φ := by rw [List.map_map, List.map_map]; exact List.map_congr_left fun p _ => hφ p
  rw [e]; exact h
theorem gcd3_neg (x y d : Int) : gcd3 (-x) y d = gcd3 x y d := by rw [gcd3_nat, gcd3_nat, Int.natAbs_neg]
theorem gcd3_swap (x y d : Int) : gcd3 x y d = gcd3 y x d := by rw [gcd3_nat, gcd3_nat, Nat.gcd_comm x.natAbs]
theorem gcd3_add {x y d a b : Int} (hd : 0 < d) (h : gcd3 x y d = 1) : gcd3 (x + a * d) (y + b * d) d = 1 := by
  obtain ⟨h1, h2, h3⟩ := gcd3_dvd (x + a * d) (y + b * d) hd
  have hp := gcd3_pos (x := x + a * d) (y := y + b * d) hd
  generalize gcd3 (x + a * d) (y + b * d) d = g at h1 h2 h3 hp
  have h4 : g ∣ x := by
    have := Int.dvd_sub h1 (Int.dvd_trans h3 (Int.dvd_mul_left a d))
    rwa [Int.add_sub_cancel] at this
  have h5 : g ∣ y := by
    have := Int.dvd_sub h2 (Int.dvd_trans h3 (Int.dvd_mul_left b d))
    rwa [Int.add_sub_cancel] at this
  rw [gcd3_nat] at h
  have h6 : g.natAbs ∣ Nat.gcd (Nat.gcd x.natAbs y.natAbs) d.toNat := Nat.dvd_gcd (Nat.dvd_gcd (Int.natAbs_dvd_natAbs.2 h4) (Int.natAbs_dvd_natAbs.2 h5)) (by rw [show d.toNat = d.natAbs by omega]; exact Int.natAbs_dvd_natAbs.2 h3)
  rw [show Nat.gcd (Nat.gcd x.natAbs y.natAbs) d.toNat = 1 by exact_mod_cast h] at h6
  have := Nat.dvd_one.1 h6
  omega
def turnP (p : Int × Int) : Int × Int := (-p.2, p.1)
def mirrP (p : Int × Int) : Int × Int := (-p.1, p.2)
def moveP (a b : Int) (p : Int × Int) : Int × Int := (p.1 + a, p.2 + b)
def turnC (c : Cir) : Cir := ⟨-c.y, c.x, c.den, c.n, c.d⟩
def mirrC (c : Cir) : Cir := ⟨-c.x, c.y, c.den, c.n, c.d⟩
def moveC (a b : Int) (c : Cir) : Cir := ⟨c.x + a * c.den, c.y + b * c.den, c.den, c.n, c.d⟩
theorem turn_ok {l : Pts} (h : OkL l) : OkL (l.map turnP) := fun q hq => by
  obtain ⟨p, hp, rfl⟩ := List.mem_map.1 hq
  have := h p hp; unfold OkP at this; unfold OkP turnP; omega
theorem mirr_ok {l : Pts} (h : OkL l) : OkL (l.map mirrP) := fun q hq => by
  obtain ⟨p, hp, rfl⟩ := List.mem_map.1 hq
  have := h p hp; unfold OkP at this; unfold OkP mirrP; omega
theorem lst_turn {l : Pts} (hl : OkL l) (h0 : l ≠ []) : lst (l.map turnP) = turnC (lst l) := by
  have h := (lst_sm hl h0).can
  refine lst_iso (fun p => (-p.2, p.1)) (fun D => ⟨-D.y, D.x, D.s⟩) (fun E => ⟨E.y, -E.x, E.s⟩) hl h0 (turn_ok hl) (fun p => ?_) (fun D p => ?_) (fun E p => ?_) (fun _ => rfl) (fun _ => rfl) ⟨h.den, ?_, h.d, h.n, h.h⟩ ?_
  · simp [toQ, turnP]
  · simp only [f]; grind
  · simp only [f]; grind
  · show gcd3 (-(lst l).y) (lst l).x (lst l).den = 1
    rw [gcd3_neg, gcd3_swap]; exact h.g
  · simp [toD, turnC, Rat.neg_mul]
theorem lst_mirr {l : Pts} (hl : OkL l) (h0 : l ≠ []) : lst (l.map mirrP) = mirrC (lst l) := by
  have h := (lst_sm hl h0).can
  refine lst_iso (fun p => (-p.1, p.2)) (fun D => ⟨-D.x, D.y, D.s⟩) (fun E => ⟨-E.x, E.y, E.s⟩) hl h0 (mirr_ok hl) (fun p => ?_) (fun D p => ?_) (fun E p => ?_) (fun _ => rfl) (fun _ => rfl) ⟨h.den, ?_, h.d, h.n, h.h⟩ ?_
  · simp [toQ, mirrP]
  · simp only [f]; grind
  · simp only [f]; grind
  · show gcd3 (-(lst l).x) (lst l).y (lst l).den = 1
    rw [gcd3_neg]; exact h.g
  · simp [toD, mirrC, Rat.neg_mul]
theorem lst_move {l : Pts} {a b : Int} (hl : OkL l) (h0 : l ≠ []) (ht : OkL (l.map (moveP a b))) : lst (l.map (moveP a b)) = moveC a b (lst l) := by
  have h := (lst_sm hl h0).can
  have hi := inv_of h.den
  refine lst_iso (fun p => (p.1 + a, p.2 + b)) (fun D => ⟨D.x + a, D.y + b, D.s⟩) (fun E => ⟨E.x - a, E.y - b, E.s⟩) hl h0 ht (fun p => ?_) (fun D p => ?_) (fun E p => ?_) (fun _ => rfl) (fun _ => rfl) ⟨h.den, ?_, h.d, h.n, h.h⟩ ?_
  · simp [toQ, moveP]
  · simp only [f]; grind
  · simp only [f]; grind
  · exact gcd3_add h.den h.g
  · simp only [toD, moveC]
    congr 1
    · rw [Rat.intCast_add, Rat.intCast_mul]; grind
    · rw [Rat.intCast_add, Rat.intCast_mul]; grind
/-- the points in another order -/
def othI (n f i : Nat) : Nat := n - 1 - (i + f) % n
theorem othI_lt {n f i : Nat} (h : 0 < n) : othI n f i < n := by unfold othI; omega
theorem othI_ex {n f j : Nat} (h : j < n) : ∃ i, i < n ∧ othI n f i = j := by
  refine ⟨(n - 1 - j + (n - f % n)) % n, Nat.mod_lt _ (by omega), ?_⟩
  unfold othI
  have h1 := Nat.mod_lt f (show 0 < n by omega)
  have h2 := Nat.div_add_mod f n
  have e : (n - 1 - j + (n - f % n) + f) = n - 1 - j + n * (f / n + 1) := by rw [Nat.mul_add]; omega
  rw [Nat.mod_add_mod, e, Nat.add_mul_mod_self_left, Nat.mod_eq_of_lt (by omega)]
  omega
def othL (l : Pts) (f k : Nat) : Pts := (List.range k).map fun i => l.at (othI l.length f i)
theorem othL_succ (l : Pts) (f k : Nat) : othL l f (k + 1) = othL l f k ++ [l.at (othI l.length f k)] := by
  unfold othL; rw [List.range_succ, List.map_append]; rfl
theorem othL_len (l : Pts) (f k : Nat) : (othL l f k).length = k := by unfold othL; simp
theorem othL_mem {l : Pts} {f : Nat} (h0 : l ≠ []) (q : Int × Int) : q ∈ l ↔ q ∈ othL l f l.length := by
  have hn := List.length_pos_iff.2 h0
  constructor
  · intro h
    obtain ⟨j, hj, rfl⟩ := List.getElem_of_mem h
    obtain ⟨i, hi, e⟩ := othI_ex (f := f) hj
    refine List.mem_map.2 ⟨i, List.mem_range.2 hi, ?_⟩
    rw [e]; simp [Pts.at, hj]
  · intro h
    obtain ⟨i, _, rfl⟩ := List.mem_map.1 h
    exact getD_mem (othI_lt hn) _
theorem oth_set {l : Pts} {f : Nat} (h0 : l ≠ []) {e : Int × Int} (he : e ∈ l) (q : Int × Int) : q ∈ l ↔ q ∈ othL l f l.length ++ [e] := by
  rw [List.mem_append, ← othL_mem h0, List.mem_singleton]
  constructor
  · exact .inl
  · rintro (h | rfl)
    · exact h
    · exact he
end Go.Proofs.Ytkhplcncfogolaa
namespace Go.Proofs.Ytkhplcncfogolaa
open Go Go.TH Go.TH.Dsc
attribute [local irreducible] W WO pt
set_option maxRecDepth 10000
set_option maxHeartbeats 1000000
theorem map_take {l : Pts} {t : Int × Int → Int × Int} {k : Nat} (h : k < l.length) : (l.take (k + 1)).map t = (l.take k).map t ++ [t (l.at k)] := by
  rw [List.take_succ_eq_append_getElem h, List.map_append]
  simp [Pts.at, h]
theorem mv_b {x d : Int} (hx : -128 ≤ x ∧ x ≤ 127) (hd : 1 ≤ d ∧ d ≤ 262144) : -33554432 ≤ x * d ∧ x * d ≤ 33554432 := by
  have h1 := Int.mul_le_mul_of_nonneg_right hx.1 (show 0 ≤ d by omega)
  have h2 := Int.mul_le_mul_of_nonneg_right hx.2 (show 0 ≤ d by omega)
  omega
theorem law_moved (w : World) (c : Cir) (x y : Int) (hc : OkR c) (hx : -128 ≤ x ∧ x ≤ 127) (hy : -128 ≤ y ∧ y ≤ 127) : Ret Try.prog 23 [cirV c, .int .i64 x, .int .i64 y].toArray w (cirV (moveC x y c)) := by
  refine Ret.of mixed tyTab Try.func23 rfl rfl ?_
  have b1 := mv_b hx hc.den
  have b2 := mv_b hy hc.den
  have b3 := hc.x
  have b4 := hc.y
  refine W.sreg ?_
  refine WO.boxA rfl rfl (fun b1 hb1 => ?_)
  refine WO.alloc rfl rfl rfl (fun b2 hb2 => ?_)
  refine WO.nil ?_
  refine W.sreg ?_
  refine WO.field0 rfl rfl rfl (WO.load rfl rfl (Cell.own (Pick.tail (Pick.head)) rfl) rfl (WO.p rfl rfl (WO.fieldL rfl rfl rfl (WO.load rfl rfl (Cell.own (Pick.tail (Pick.head)) rfl) rfl (WO.ar rfl rfl rfl (by (first | (unfold in64; omega) | (unfold in64; omega))) rfl (WO.ar rfl rfl rfl (by (first | (unfold in64; omega) | (unfold in64; omega))) rfl (WO.fieldL rfl rfl rfl (WO.load rfl rfl (Cell.own (Pick.tail (Pick.head)) rfl) rfl (WO.p rfl rfl (WO.fieldL rfl rfl rfl (WO.load rfl rfl (Cell.own (Pick.tail (Pick.head)) rfl) rfl ?_)))))))))))
  refine WO.ar rfl rfl rfl (by (first | (unfold in64; omega) | (unfold in64; omega))) rfl (WO.ar rfl rfl rfl (by (first | (unfold in64; omega) | (unfold in64; omega))) rfl (WO.fieldL rfl rfl rfl (WO.load rfl rfl (Cell.own (Pick.tail (Pick.head)) rfl) rfl (WO.fieldL rfl rfl rfl (WO.loadA rfl rfl (Cells.ownAt (n := 2) (Pick.tail (Pick.head)) rfl) rfl rfl ?_)))))
  refine' WO.build (cs := _) rfl rfl rfl ?hf rfl ?_
  case hf => (conv => lhs; simp [-List.getD_eq_getElem?_getD, fillL, vcl, wrl, TTab.pl?.lget']) <;> rfl
  refine WO.storeA rfl rfl rfl rfl Pick.head rfl rfl ?_
  refine WO.nil ?_
  refine W.ret ?_
  exact fin.ret (Res.one rfl (RV.cell rfl rfl rfl (Cells.own (by repeat (first | exact Pick.head | apply Pick.tail))))) rfl
theorem oth_ex {n f i : Nat} (h : 0 < n) : ∃ o : Nat, ((i : Int) + (f : Int)).tmod (n : Int) = (o : Int) ∧ o < n ∧ othI n f i = n - 1 - o :=
  ⟨(i + f) % n, by rw [← Int.natCast_add, ← Int.ofNat_tmod], Nat.mod_lt _ h, rfl⟩
theorem tm_ex {n f : Nat} (h : 0 < n) : ∃ o : Nat, (f : Int).tmod (n : Int) = (o : Int) ∧ o < n := ⟨f % n, by rw [← Int.ofNat_tmod], Nat.mod_lt _ h⟩
theorem oth_more {l : Pts} {f : Nat} (hok : (1 ≤ l.length ∧ l.length ≤ 24) ∧ OkL l) (h : l.length < 24) {j : Nat} (hj : j < l.length) : chkL (othL l f l.length ++ [l.at j]) = 0 ∧ lst l = lst (othL l f l.length ++ [l.at j]) := by
  have hne : l ≠ [] := List.length_pos_iff.1 (by omega)
  have he := getD_mem (l := l) hj (0, 0)
  exact ⟨chkL0.2 ⟨by rw [List.length_append, othL_len, List.length_singleton]; omega, fun q hq => hok.2 q ((oth_set hne he q).2 hq)⟩, lst_set hok.2 hne (oth_set hne he)⟩
theorem law_TurnMoved (w : World) (v : Value) (l : Pts) (x y : Int) (f : Nat) (hR : RdF encP 2 w.heap.size w v l) (hx : -128 ≤ x ∧ x ≤ 127) (hy : -128 ≤ y ∧ y ≤ 127) (hf : f ≤ 255) : Ret Try.prog 5 [v, .int .i8 x, .int .i8 y, .int .u8 (f : Int)].toArray w (.bool true) := by
  refine Ret.of mixed tyTab Try.func5 rfl rfl ?_
  replace hR : RdF encP 2 (fnCx mixed tyTab Try.f5.ntmps w).B (fnCx mixed tyTab Try.f5.ntmps w).w0 v l := hR
  have hle := hR.sl.le
  refine W.sreg ?_
  refine WO.p rfl rfl ?_
  refine WO.nil ?_
  refine W.seq ?_
  refine W.sreg ?_
  refine WO.p rfl rfl ?_
  refine WO.callR rfl Try.call21 (fun L w hi => law_fine w v l (hR.later hi)) rfl ?_
  refine WO.p rfl rfl ?_
  refine WO.nil ?_
  refine W.cond_nbl rfl (fun c1 => ?_) (fun c1 => ?_)
  · first
    | (exfalso; omega)
    | (refine W.sreg ?_
       refine WO.callR rfl Try.call14 (fun L w hi => law_Works w) rfl ?_
       refine WO.p rfl rfl ?_
       refine WO.nil ?_
       refine W.ret ?_
       exact fin.ret (Res.one rfl (RV.tmp rfl)) rfl)
  · first
    | (exfalso; omega)
    | (refine W.skip ?_
       have h00 : chkL l = 0 := by assumption
       have hok := chkL0.1 h00
       have hne : l ≠ [] := List.length_pos_iff.1 (by omega)
       have hsm := lst_sm hok.2 hne
       refine W.sreg ?_
       refine WO.p rfl rfl ?_
       refine WO.callR (r := .tuple #[cirV (lst l), .int .i64 0]) rfl Try.call15 (fun L w hi => by have h := c_Smallest w v l (hR.later hi); rw [h00, if_pos rfl] at h; exact h) rfl ?_
       refine WO.p rfl rfl (WO.p rfl rfl (WO.p rfl rfl ?_))
       refine WO.alloc rfl rfl rfl (fun b1 hb1 => ?_)
       refine WO.storeA rfl rfl rfl rfl Pick.head rfl rfl (WO.p rfl rfl ?_)
       refine WO.nil ?_
       refine W.seq ?_
       refine W.sreg ?_
       refine WO.p rfl rfl (WO.p rfl rfl (WO.p rfl rfl ?_))
       refine WO.guard_bl rfl rfl (fun c2 => ?_) (fun c2 => ?_)
       · first
         | (exfalso; omega)
         | (refine WO.no rfl rfl (WO.no rfl rfl (WO.no rfl rfl (WO.p rfl rfl ?_)))
            refine WO.nil ?_
            refine W.cond_t rfl ?_
            refine W.sreg ?_
            refine WO.p rfl rfl ?_
            refine WO.nil ?_
            refine W.ret ?_
            exact fin.ret (Res.one rfl (RV.tmp rfl)) rfl)
       · first
         | (exfalso; omega)
         | (refine WO.go' rfl (WO.loadA rfl rfl (Cells.own Pick.head) rfl rfl (WO.go' rfl ?_))
            refine WO.callR (r := .int .i64 0) rfl Try.call22 (fun L w hi => by have h := ref_CheckCircle w (lst l); rw [chkR0.2 hsm.ok] at h; exact h) rfl ?_
            refine WO.pg rfl rfl rfl (WO.p rfl rfl ?_)
            refine WO.nil ?_
            refine W.cond_bl rfl (fun c3 => ?_) (fun c3 => ?_)
            · first
              | (exfalso; omega)
              | (refine W.sreg ?_
                 refine WO.p rfl rfl ?_
                 refine WO.nil ?_
                 refine W.ret ?_
                 exact fin.ret (Res.one rfl (RV.tmp rfl)) rfl)
            · first
              | (exfalso; omega)
              | (refine W.skip ?_
                 refine W.sreg ?_
                 refine WO.p rfl rfl (WO.p rfl rfl (WO.p rfl rfl (WO.p rfl rfl ?_)))
                 refine WO.nil ?_
                 refine W.seq ?_
                 refine W.sreg ?_
                 refine WO.p rfl rfl ?_
                 refine WO.nil ?_
                 refine W.block ?_
                 refine W.chg (owNil (enc := encP) (e := 39) (sz := 2)) ?_
                 refine W.chg (owNil (enc := encP) (e := 39) (sz := 2)) ?_
                 refine W.chg (owNil (enc := encP) (e := 39) (sz := 2)) ?_
                 refine W.chg (owNil (enc := encP) (e := 39) (sz := 2)) ?_
                 refine W.loop5 (fun (i : Nat) (a1 : Value) (a2 : Value) (a3 : Value) (a4 : Value) => i ≤ l.length)
                   (fun (i : Nat) (a1 : Value) (a2 : Value) (a3 : Value) (a4 : Value) => [(15, .int .i64 (i : Int)), (14, a4), (13, a3), (12, a2), (11, a1), (9, .pointer (some ⟨b1, 0, none⟩)), (0, v), (1, .int .i8 x), (2, .int .i8 y), (3, .int .u8 (f : Int))])
                   (fun (i : Nat) (a1 : Value) (a2 : Value) (a3 : Value) (a4 : Value) => [pt b1 (.cells #[.int .i64 (lst l).x, .int .i64 (lst l).y, .int .i64 (lst l).den, .int .i64 (lst l).n, .int .i64 (lst l).d] 27 (0, 0)), OwE encP 39 2 a1 ((l.take i).map (moveP x y)), OwE encP 39 2 a2 ((l.take i).map turnP), OwE encP 39 2 a3 ((l.take i).map mirrP), OwE encP 39 2 a4 (othL l f i)])
                   (fun (i : Nat) (a1 : Value) (a2 : Value) (a3 : Value) (a4 : Value) => l.length - i) 0 (.slice none 0 0) (.slice none 0 0) (.slice none 0 0) (.slice none 0 0)
                   (by omega) ⟨rfl, rfl, rfl, rfl, rfl, rfl, rfl, rfl, rfl, rfl, trivial⟩ (by repeat (first | exact Sub.nil | refine Sub.cons (by repeat (first | exact Pick.head | apply Pick.tail)) ?_)) ?_
                 rintro i a1 a2 a3 a4 hi0
                 refine W.seq ?_
                 refine W.sreg ?_
                 refine WO.p rfl rfl (WO.p rfl rfl ?_)
                 refine' WO.len (n := _) rfl rfl ?hs rfl ?_
                 case hs => (first | exact hR.sl)
                 refine WO.p rfl rfl ?_
                 refine WO.nil ?_
                 refine W.cond_bl rfl (fun c4 => ?_) (fun c4 => ?_)
                 · first
                   | (exfalso; omega)
                   | (refine W.skip ?_
                      refine W.seq ?_
                      refine W.block ?_
                      have hpi := at_ok hok.2 (show i < l.length by omega)
                      have hp1 := hpi.1
                      have hp2 := hpi.2
                      simp only [Pts.at] at hp1 hp2
                      refine W.sreg ?_
                      refine WO.p rfl rfl (WO.p rfl rfl ?_)
                      refine' WO.indexAddr (n := _) (i := _) rfl rfl rfl ?hs ?h1 rfl ?_
                      case hs => (first | exact hR.sl)
                      case h1 => (first | omega | (simp; omega))
                      refine' WO.loadA (vs := _) rfl rfl ?hc ?hl rfl ?_
                      case hc => (first | exact RdF.cells2 hR (i := i) (by omega))
                      case hl => rfl
                      refine WO.alloc rfl rfl rfl (fun b2 hb2 => ?_)
                      refine WO.storeA rfl rfl rfl rfl Pick.head rfl rfl ?_
                      refine WO.nil ?_
                      refine W.sreg ?_
                      refine WO.p rfl rfl (WO.field0 rfl rfl rfl (WO.load rfl rfl (Cell.own Pick.head rfl) rfl (WO.p rfl rfl (WO.conv64 rfl rfl rfl (by (first | (unfold in64; omega) | (unfold in64; omega))) rfl (WO.ar rfl rfl rfl (by (first | (unfold in64; omega) | (unfold in64; omega))) rfl (WO.fieldL rfl rfl rfl (WO.load rfl rfl (Cell.own Pick.head rfl) rfl (WO.p rfl rfl (WO.conv64 rfl rfl rfl (by (first | (unfold in64; omega) | (unfold in64; omega))) rfl (WO.ar rfl rfl rfl (by (first | (unfold in64; omega) | (unfold in64; omega))) rfl ?_))))))))))
                      refine' WO.build (cs := _) rfl rfl rfl ?hf rfl ?_
                      case hf => (conv => lhs; simp [-List.getD_eq_getElem?_getD, fillL, vcl, wrl, TTab.pl?.lget']) <;> rfl
                      refine' WO.buildSl (cs := _) rfl rfl rfl rfl ?hf rfl rfl ?hl rfl (fun v3 => ?_)
                      case hf => (conv => lhs; simp [-List.getD_eq_getElem?_getD, fillL, vcl, wrl, TTab.pl?.lget']) <;> rfl
                      case hl => rfl
                      refine' WO.appendE (enc := encP) (m := 1) (xs := (l.take i).map (moveP x y)) (ys := [moveP x y (l.at i)]) encP_ok rfl rfl rfl rfl rfl (by repeat (first | exact Pick.head | apply Pick.tail)) (isSl_lit (by omega) (fun _ => ⟨_, _, rfl⟩)) (by omega) rfl (OwC.cells (by repeat (first | exact Pick.head | apply Pick.tail))) (by rw [List.length_map, List.length_take]; omega) (by rw [List.length_map, List.length_take]; omega) rfl (fun g c => ?_)
                      rw [← map_take (t := moveP x y) (by omega)]
                      refine WO.p rfl rfl ?_
                      refine WO.nil ?_
                      refine W.sreg ?_
                      refine WO.p rfl rfl (WO.fieldL rfl rfl rfl (WO.load rfl rfl (Cell.own (Pick.tail (Pick.tail (Pick.head))) rfl) rfl (WO.neg rfl (by (first | (unfold in64; omega) | (unfold in64; omega))) rfl (WO.field0 rfl rfl rfl (WO.load rfl rfl (Cell.own (Pick.tail (Pick.tail (Pick.head))) rfl) rfl ?_)))))
                      refine' WO.build (cs := _) rfl rfl rfl ?hf rfl ?_
                      case hf => (conv => lhs; simp [-List.getD_eq_getElem?_getD, fillL, vcl, wrl, TTab.pl?.lget']) <;> rfl
                      refine' WO.buildSl (cs := _) rfl rfl rfl rfl ?hf rfl rfl ?hl rfl (fun v4 => ?_)
                      case hf => (conv => lhs; simp [-List.getD_eq_getElem?_getD, fillL, vcl, wrl, TTab.pl?.lget']) <;> rfl
                      case hl => rfl
                      refine' WO.appendE (enc := encP) (m := 1) (xs := (l.take i).map turnP) (ys := [turnP (l.at i)]) encP_ok rfl rfl rfl rfl rfl (by repeat (first | exact Pick.head | apply Pick.tail)) (isSl_lit (by omega) (fun _ => ⟨_, _, rfl⟩)) (by omega) rfl (OwC.cells (by repeat (first | exact Pick.head | apply Pick.tail))) (by rw [List.length_map, List.length_take]; omega) (by rw [List.length_map, List.length_take]; omega) rfl (fun g c => ?_)
                      rw [← map_take (t := turnP) (by omega)]
                      refine WO.p rfl rfl ?_
                      refine WO.nil ?_
                      refine W.sreg ?_
                      refine WO.p rfl rfl (WO.field0 rfl rfl rfl (WO.load rfl rfl (Cell.own (Pick.tail (Pick.tail (Pick.tail (Pick.tail (Pick.head))))) rfl) rfl (WO.neg rfl (by (first | (unfold in64; omega) | (unfold in64; omega))) rfl (WO.fieldL rfl rfl rfl (WO.load rfl rfl (Cell.own (Pick.tail (Pick.tail (Pick.tail (Pick.tail (Pick.head))))) rfl) rfl ?_)))))
                      refine' WO.build (cs := _) rfl rfl rfl ?hf rfl ?_
                      case hf => (conv => lhs; simp [-List.getD_eq_getElem?_getD, fillL, vcl, wrl, TTab.pl?.lget']) <;> rfl
                      refine' WO.buildSl (cs := _) rfl rfl rfl rfl ?hf rfl rfl ?hl rfl (fun v5 => ?_)
                      case hf => (conv => lhs; simp [-List.getD_eq_getElem?_getD, fillL, vcl, wrl, TTab.pl?.lget']) <;> rfl
                      case hl => rfl
                      refine' WO.appendE (enc := encP) (m := 1) (xs := (l.take i).map mirrP) (ys := [mirrP (l.at i)]) encP_ok rfl rfl rfl rfl rfl (by repeat (first | exact Pick.head | apply Pick.tail)) (isSl_lit (by omega) (fun _ => ⟨_, _, rfl⟩)) (by omega) rfl (OwC.cells (by repeat (first | exact Pick.head | apply Pick.tail))) (by rw [List.length_map, List.length_take]; omega) (by rw [List.length_map, List.length_take]; omega) rfl (fun g c => ?_)
                      rw [← map_take (t := mirrP) (by omega)]
                      refine WO.p rfl rfl ?_
                      refine WO.nil ?_
                      obtain ⟨o, htm, hol, hoo⟩ := oth_ex (n := l.length) (f := f) (i := i) (by omega)
                      have hoi : ((l.length : Int) - 1 - ((i : Int) + (f : Int)).tmod (l.length : Int)).toNat = othI l.length f i := by omega
                      refine W.region ?_
                      refine WO.p rfl rfl (WO.p rfl rfl (WO.p rfl rfl ?_))
                      refine' WO.len (n := _) rfl rfl ?hs rfl ?_
                      case hs => (first | exact hR.sl)
                      refine WO.ar rfl rfl rfl (by (first | (unfold in64; omega) | (unfold in64; omega))) rfl (WO.p rfl rfl (WO.p rfl rfl (WO.conv64 rfl rfl rfl (by (first | (unfold in64; omega) | (unfold in64; omega))) rfl (WO.ar rfl rfl rfl (by (first | (unfold in64; omega) | (unfold in64; omega))) rfl (WO.p rfl rfl ?_)))))
                      refine' WO.len (n := _) rfl rfl ?hs rfl ?_
                      case hs => (first | exact hR.sl)
                      refine WO.rem rfl rfl (by first | omega | assumption) rfl (WO.ar rfl rfl rfl (by (first | (unfold in64; omega) | (unfold in64; omega))) rfl ?_)
                      refine' WO.indexAddrZ (n := _) rfl rfl rfl ?hs ?h00 ?h1 rfl ?_
                      case hs => (first | exact hR.sl)
                      case h00 => omega
                      case h1 => (first | omega | (simp; omega))
                      refine' WO.loadA (vs := _) rfl rfl ?hc ?hl rfl ?_
                      case hc => (first | exact RdF.cells2 hR (i := ((l.length : Int) - 1 - ((i : Int) + (f : Int)).tmod (l.length : Int)).toNat) (by omega))
                      case hl => rfl
                      refine' WO.buildSl (cs := _) rfl rfl rfl rfl ?hf rfl rfl ?hl rfl (fun v6 => ?_)
                      case hf => (conv => lhs; simp [-List.getD_eq_getElem?_getD, fillL, vcl, wrl, TTab.pl?.lget']) <;> rfl
                      case hl => rfl
                      refine' WO.appendE (enc := encP) (m := 1) (xs := othL l f i) (ys := [l.at ((l.length : Int) - 1 - ((i : Int) + (f : Int)).tmod (l.length : Int)).toNat]) encP_ok rfl rfl rfl rfl rfl (by repeat (first | exact Pick.head | apply Pick.tail)) (isSl_lit (by omega) (fun _ => ⟨_, _, rfl⟩)) (by omega) rfl (OwC.cells (by repeat (first | exact Pick.head | apply Pick.tail))) (by rw [othL_len]; omega) (by rw [othL_len]; omega) rfl (fun g c => ?_)
                      rw [hoi, ← othL_succ]
                      refine WO.p rfl rfl ?_
                      refine WO.nil ?_
                      refine W.region ?_
                      refine WO.p rfl rfl (WO.ar rfl rfl rfl (by (first | (unfold in64; omega) | (unfold in64; omega))) rfl (WO.p rfl rfl ?_))
                      refine WO.nil ?_
                      refine' ⟨i + 1, _, _, _, _, ?hp, ?hmu, ⟨rfl, rfl, rfl, rfl, rfl, rfl, rfl, rfl, rfl, rfl, trivial⟩, ?hS⟩
                      case hS => repeat (first | exact Sub.nil | refine Sub.cons (by repeat (first | exact Pick.head | apply Pick.tail)) ?_)
                      case hp => omega
                      case hmu => omega)
                 · first
                   | (exfalso; omega)
                   | (refine W.exit (blk_same ?_)
                      refine W.seq ?_
                      obtain rfl : l.length = i := by omega
                      rw [List.take_length]
                      refine W.sreg ?_
                      refine WO.p rfl rfl ?_
                      refine' WO.len (n := _) rfl rfl ?hs rfl ?_
                      case hs => (first | exact hR.sl)
                      refine WO.p rfl rfl ?_
                      refine WO.nil ?_
                      refine W.cond_bl rfl (fun c5 => ?_) (fun c5 => ?_)
                      · first
                        | (exfalso; omega)
                        | (obtain ⟨o, htm, hol⟩ := tm_ex (n := l.length) (f := f) (by omega)
                           have hOO := oth_more (f := f) hok (by omega) (j := ((f : Int).tmod (l.length : Int)).toNat) (by omega)
                           obtain ⟨hO2, eO2⟩ := hOO
                           refine W.region ?_
                           refine WO.p rfl rfl (WO.p rfl rfl (WO.p rfl rfl (WO.conv64 rfl rfl rfl (by (first | (unfold in64; omega) | (unfold in64; omega))) rfl (WO.p rfl rfl ?_))))
                           refine' WO.len (n := _) rfl rfl ?hs rfl ?_
                           case hs => (first | exact hR.sl)
                           refine WO.rem rfl rfl (by first | omega | assumption) rfl ?_
                           refine' WO.indexAddrZ (n := _) rfl rfl rfl ?hs ?h00 ?h1 rfl ?_
                           case hs => (first | exact hR.sl)
                           case h00 => omega
                           case h1 => (first | omega | (simp; omega))
                           refine' WO.loadA (vs := _) rfl rfl ?hc ?hl rfl ?_
                           case hc => (first | exact RdF.cells2 hR (i := ((f : Int).tmod (l.length : Int)).toNat) (by omega))
                           case hl => rfl
                           refine' WO.buildSl (cs := _) rfl rfl rfl rfl ?hf rfl rfl ?hl rfl (fun v7 => ?_)
                           case hf => (conv => lhs; simp [-List.getD_eq_getElem?_getD, fillL, vcl, wrl, TTab.pl?.lget']) <;> rfl
                           case hl => rfl
                           refine' WO.appendE (enc := encP) (m := 1) (xs := othL l f l.length) (ys := [l.at ((f : Int).tmod (l.length : Int)).toNat]) encP_ok rfl rfl rfl rfl rfl (by repeat (first | exact Pick.head | apply Pick.tail)) (isSl_lit (by omega) (fun _ => ⟨_, _, rfl⟩)) (by omega) rfl (OwC.cells (by repeat (first | exact Pick.head | apply Pick.tail))) (by rw [othL_len]; omega) (by rw [othL_len]; omega) rfl (fun g c => ?_)
                           skip
                           refine WO.p rfl rfl ?_
                           refine WO.nil ?_
                           have hT : chkL (l.map turnP) = 0 := chkL0.2 ⟨by rw [List.length_map]; exact hok.1, turn_ok hok.2⟩
                           have hM : chkL (l.map mirrP) = 0 := chkL0.2 ⟨by rw [List.length_map]; exact hok.1, mirr_ok hok.2⟩
                           have eO1 := lst_set hok.2 hne (othL_mem (f := f) hne)
                           have hO1 : chkL (othL l f l.length) = 0 := chkL0.2 ⟨by rw [othL_len]; exact hok.1, fun q hq => hok.2 q ((othL_mem hne q).2 hq)⟩
                           refine W.sreg ?_
                           refine WO.p rfl rfl ?_
                           refine WO.callR (r := .tuple #[cirV (turnC (lst l)), .int .i64 0]) rfl Try.call15 (fun L w hi => by have h := c_Smallest w a2 (l.map turnP) (RdF.of_ow (e := 39) encP_ok (by repeat (first | exact Pick.head | apply Pick.tail)) hi); rw [hT, if_pos rfl, lst_turn hok.2 hne] at h; exact h) rfl ?_
                           refine WO.p rfl rfl (WO.p rfl rfl (WO.p rfl rfl ?_))
                           refine WO.alloc rfl rfl rfl (fun b8 hb8 => ?_)
                           refine WO.storeA rfl rfl rfl rfl Pick.head rfl rfl (WO.p rfl rfl ?_)
                           refine WO.nil ?_
                           refine W.sreg ?_
                           refine WO.p rfl rfl ?_
                           refine WO.callR (r := .tuple #[cirV (mirrC (lst l)), .int .i64 0]) rfl Try.call15 (fun L w hi => by have h := c_Smallest w a3 (l.map mirrP) (RdF.of_ow (e := 39) encP_ok (by repeat (first | exact Pick.head | apply Pick.tail)) hi); rw [hM, if_pos rfl, lst_mirr hok.2 hne] at h; exact h) rfl ?_
                           refine WO.p rfl rfl (WO.p rfl rfl (WO.p rfl rfl ?_))
                           refine WO.alloc rfl rfl rfl (fun b9 hb9 => ?_)
                           refine WO.storeA rfl rfl rfl rfl Pick.head rfl rfl (WO.p rfl rfl ?_)
                           refine WO.nil ?_
                           refine W.sreg ?_
                           refine WO.p rfl rfl ?_
                           first
                           | (have hq := hO2; refine WO.callR (r := .tuple #[cirV (lst l), .int .i64 0]) rfl Try.call15 (fun L w hi => by have h := c_Smallest w _ (othL l f l.length ++ [l.at ((f : Int).tmod (l.length : Int)).toNat]) (RdF.of_ow (e := 39) encP_ok (by repeat (first | exact Pick.head | apply Pick.tail)) hi); rw [hO2, if_pos rfl, ← eO2] at h; exact h) rfl ?_)
                           | refine WO.callR (r := .tuple #[cirV (lst l), .int .i64 0]) rfl Try.call15 (fun L w hi => by have h := c_Smallest w a4 (othL l f l.length) (RdF.of_ow (e := 39) encP_ok (by repeat (first | exact Pick.head | apply Pick.tail)) hi); rw [hO1, if_pos rfl, ← eO1] at h; exact h) rfl ?_
                           refine WO.p rfl rfl (WO.p rfl rfl (WO.p rfl rfl ?_))
                           refine WO.alloc rfl rfl rfl (fun b10 hb10 => ?_)
                           refine WO.storeA rfl rfl rfl rfl Pick.head rfl rfl (WO.p rfl rfl ?_)
                           refine WO.nil ?_
                           refine W.seq ?_
                           refine W.sreg ?_
                           refine WO.p rfl rfl (WO.p rfl rfl (WO.p rfl rfl ?_))
                           refine WO.guard_bl rfl rfl (fun c6 => ?_) (fun c6 => ?_)
                           · first
                             | (exfalso; omega)
                             | (refine WO.no rfl rfl (WO.no rfl rfl (WO.p rfl rfl (WO.p rfl rfl (WO.no rfl rfl (WO.no rfl rfl (WO.p rfl rfl (WO.p rfl rfl (WO.no rfl rfl (WO.no rfl rfl (WO.no rfl rfl (WO.p rfl rfl ?_)))))))))))
                                refine WO.nil ?_
                                refine W.cond_t rfl ?_
                                refine W.sreg ?_
                                refine WO.p rfl rfl ?_
                                refine WO.nil ?_
                                refine W.ret ?_
                                exact fin.ret (Res.one rfl (RV.tmp rfl)) rfl)
                           · first
                             | (exfalso; omega)
                             | (refine WO.pg rfl rfl rfl (WO.pg rfl rfl rfl (WO.p rfl rfl (WO.p rfl rfl ?_)))
                                refine WO.guard_bl rfl rfl (fun c7 => ?_) (fun c7 => ?_)
                                · first
                                  | (exfalso; omega)
                                  | (refine WO.no rfl rfl (WO.no rfl rfl (WO.p rfl rfl (WO.p rfl rfl (WO.no rfl rfl (WO.no rfl rfl (WO.no rfl rfl (WO.p rfl rfl ?_)))))))
                                     refine WO.nil ?_
                                     refine W.cond_t rfl ?_
                                     refine W.sreg ?_
                                     refine WO.p rfl rfl ?_
                                     refine WO.nil ?_
                                     refine W.ret ?_
                                     exact fin.ret (Res.one rfl (RV.tmp rfl)) rfl)
                                · first
                                  | (exfalso; omega)
                                  | (refine WO.pg rfl rfl rfl (WO.pg rfl rfl rfl (WO.p rfl rfl (WO.p rfl rfl ?_)))
                                     refine WO.guard_bl rfl rfl (fun c8 => ?_) (fun c8 => ?_)
                                     · first
                                       | (exfalso; omega)
                                       | (refine WO.no rfl rfl (WO.no rfl rfl (WO.no rfl rfl (WO.p rfl rfl ?_)))
                                          refine WO.nil ?_
                                          refine W.cond_t rfl ?_
                                          refine W.sreg ?_
                                          refine WO.p rfl rfl ?_
                                          refine WO.nil ?_
                                          refine W.ret ?_
                                          exact fin.ret (Res.one rfl (RV.tmp rfl)) rfl)
                                     · first
                                       | (exfalso; omega)
                                       | (refine WO.go' rfl (WO.loadA rfl rfl (Cells.own Pick.head) rfl rfl (WO.go' rfl (WO.loadA rfl rfl (Cells.own (Pick.tail (Pick.tail (Pick.tail (Pick.tail (Pick.tail (Pick.head))))))) rfl rfl (WO.go' rfl ?_))))
                                          refine WO.eqT rfl rfl (ne27f (lst l)) rfl ?_
                                          refine WO.p rfl rfl ?_
                                          refine WO.nil ?_
                                          refine W.cond_f rfl ?_
                                          refine W.skip ?_
                                          refine W.seq ?_
                                          have hcx := hsm.ok.x
                                          have hcy := hsm.ok.y
                                          refine W.sreg ?_
                                          refine WO.loadA rfl rfl (Cells.own (Pick.tail (Pick.tail (Pick.head)))) rfl rfl (WO.fieldL rfl rfl rfl (WO.load rfl rfl (Cell.own (Pick.tail (Pick.tail (Pick.tail (Pick.tail (Pick.tail (Pick.head)))))) rfl) rfl (WO.neg rfl (by (first | (unfold in64; omega) | (unfold in64; omega))) rfl (WO.field0 rfl rfl rfl (WO.load rfl rfl (Cell.own (Pick.tail (Pick.tail (Pick.tail (Pick.tail (Pick.tail (Pick.head)))))) rfl) rfl (WO.fieldL rfl rfl rfl (WO.load rfl rfl (Cell.own (Pick.tail (Pick.tail (Pick.tail (Pick.tail (Pick.tail (Pick.head)))))) rfl) rfl (WO.fieldL rfl rfl rfl (WO.loadA rfl rfl (Cells.ownAt (n := 2) (Pick.tail (Pick.tail (Pick.tail (Pick.tail (Pick.tail (Pick.head)))))) rfl) rfl rfl ?_)))))))))
                                          refine' WO.build (cs := _) rfl rfl rfl ?hf rfl ?_
                                          case hf => (conv => lhs; simp [-List.getD_eq_getElem?_getD, fillL, vcl, wrl, TTab.pl?.lget']) <;> rfl
                                          refine WO.eqT rfl rfl (ne27f (turnC (lst l))) rfl ?_
                                          refine WO.p rfl rfl (WO.go' rfl (WO.loadA rfl rfl (Cells.own (Pick.tail (Pick.head))) rfl rfl (WO.go' rfl (WO.field0 rfl rfl rfl (WO.go' rfl (WO.load rfl rfl (Cell.own (Pick.tail (Pick.tail (Pick.tail (Pick.tail (Pick.tail (Pick.head)))))) rfl) rfl (WO.go' rfl (WO.neg rfl (by (first | (unfold in64; omega) | (unfold in64; omega))) rfl (WO.go' rfl (WO.fieldL rfl rfl rfl (WO.go' rfl ?_)))))))))))
                                          refine WO.load rfl rfl (Cell.own (Pick.tail (Pick.tail (Pick.tail (Pick.tail (Pick.tail (Pick.head)))))) rfl) rfl (WO.go' rfl (WO.fieldL rfl rfl rfl (WO.go' rfl (WO.load rfl rfl (Cell.own (Pick.tail (Pick.tail (Pick.tail (Pick.tail (Pick.tail (Pick.head)))))) rfl) rfl (WO.go' rfl (WO.fieldL rfl rfl rfl (WO.go' rfl (WO.loadA rfl rfl (Cells.ownAt (n := 2) (Pick.tail (Pick.tail (Pick.tail (Pick.tail (Pick.tail (Pick.head)))))) rfl) rfl rfl (WO.go' rfl ?_)))))))))
                                          refine' WO.build (cs := _) rfl rfl rfl ?hf rfl ?_
                                          case hf => (conv => lhs; simp [-List.getD_eq_getElem?_getD, fillL, vcl, wrl, TTab.pl?.lget']) <;> rfl
                                          refine WO.go' rfl ?_
                                          refine WO.eqT rfl rfl (ne27f (mirrC (lst l))) rfl ?_
                                          refine WO.p rfl rfl ?_
                                          refine WO.nil ?_
                                          refine W.cond_f rfl ?_
                                          refine W.skip ?_
                                          refine W.seq ?_
                                          refine W.sreg ?_
                                          refine WO.p rfl rfl ?_
                                          refine WO.callR rfl Try.call21 (fun L w hi => law_fine w a1 (l.map (moveP x y)) (RdF.of_ow (e := 39) encP_ok (by repeat (first | exact Pick.head | apply Pick.tail)) hi)) rfl ?_
                                          refine WO.p rfl rfl ?_
                                          refine WO.nil ?_
                                          refine W.cond_nbl rfl (fun c9 => ?_) (fun c9 => ?_)
                                          · first
                                            | (exfalso; omega)
                                            | (refine W.sreg ?_
                                               refine WO.callR rfl Try.call14 (fun L w hi => law_Works w) rfl ?_
                                               refine WO.p rfl rfl ?_
                                               refine WO.nil ?_
                                               refine W.ret ?_
                                               exact fin.ret (Res.one rfl (RV.tmp rfl)) rfl)
                                          · first
                                            | (exfalso; omega)
                                            | (refine W.skip ?_
                                               have hA : chkL (l.map (moveP x y)) = 0 := by assumption
                                               refine W.sreg ?_
                                               refine WO.p rfl rfl ?_
                                               refine WO.callR (r := .tuple #[cirV (moveC x y (lst l)), .int .i64 0]) rfl Try.call15 (fun L w hi => by have h := c_Smallest w a1 (l.map (moveP x y)) (RdF.of_ow (e := 39) encP_ok (by repeat (first | exact Pick.head | apply Pick.tail)) hi); rw [hA, if_pos rfl, lst_move hok.2 hne (chkL0.1 hA).2] at h; exact h) rfl ?_
                                               refine WO.p rfl rfl (WO.p rfl rfl (WO.p rfl rfl ?_))
                                               refine WO.alloc rfl rfl rfl (fun b11 hb11 => ?_)
                                               refine WO.storeA rfl rfl rfl rfl Pick.head rfl rfl (WO.p rfl rfl ?_)
                                               refine WO.nil ?_
                                               refine W.seq ?_
                                               refine W.drawD 10 [.r 0 [], .r 1 [], .r 2 [], .b 3 [], .b 4 [], .r 5 [], .r 6 [], .r 7 [], .r 8 [], .b 9 []] [] (A0 := []) (Sub.refl _) (by kernel_rfl) ?_ ?_
                                               · exact (ALok.r (ALok.r (ALok.r (ALok.b (ALok.b (ALok.r (ALok.r (ALok.r (ALok.r (ALok.b ALok.nil))))))))))
                                               refine' DT.r rfl rfl rfl ?hq ?_
                                               case hq =>
                                                 refine WO.p rfl rfl ?_
                                                 exact WO.nil ⟨rfl, rfl⟩
                                               refine' DT.r rfl rfl rfl ?hq ?_
                                               case hq =>
                                                 refine WO.p rfl rfl ?_
                                                 exact WO.nil ⟨rfl, rfl⟩
                                               refine' DT.rB rfl rfl rfl ?hq (fun c10 => ?_) (fun c10 => ?_)
                                               case hq =>
                                                 refine WO.p rfl rfl ?_
                                                 exact WO.nil ⟨rfl, rfl⟩
                                               · first
                                                 | (exfalso; omega)
                                                 | (refine' DT.b rfl rfl rfl ?hq ?_
                                                    case hq =>
                                                      refine WO.go' rfl (WO.loadA rfl rfl (Cells.own Pick.head) rfl rfl ?_)
                                                      exact WO.nil ⟨rfl, rfl⟩
                                                    refine' DT.b rfl rfl rfl ?hq ?_
                                                    case hq =>
                                                      refine WO.go' rfl (WO.loadA rfl rfl (Cells.own (Pick.tail (Pick.tail (Pick.tail (Pick.tail (Pick.tail (Pick.tail (Pick.head)))))))) rfl rfl ?_)
                                                      exact WO.nil ⟨rfl, rfl⟩
                                                    refine' DT.r rfl rfl rfl ?hq ?_
                                                    case hq =>
                                                      refine WO.pg rfl rfl rfl ?_
                                                      exact WO.nil ⟨rfl, rfl⟩
                                                    refine' DT.r rfl rfl rfl ?hq ?_
                                                    case hq =>
                                                      refine WO.go' rfl (WO.conv64 rfl rfl rfl (by (first | (unfold in64; omega) | (unfold in64; omega))) rfl ?_)
                                                      exact WO.nil ⟨rfl, rfl⟩
                                                    refine' DT.r rfl rfl rfl ?hq ?_
                                                    case hq =>
                                                      refine WO.pg rfl rfl rfl ?_
                                                      exact WO.nil ⟨rfl, rfl⟩
                                                    refine' DT.r rfl rfl rfl ?hq ?_
                                                    case hq =>
                                                      refine WO.go' rfl (WO.conv64 rfl rfl rfl (by (first | (unfold in64; omega) | (unfold in64; omega))) rfl ?_)
                                                      exact WO.nil ⟨rfl, rfl⟩
                                                    refine' DT.b rfl rfl rfl ?hq ?_
                                                    case hq =>
                                                      refine WO.go' rfl ?_
                                                      refine WO.callR rfl Try.call23 (fun L w hi => law_moved w (lst l) x y hsm.ok hx hy) rfl ?_
                                                      exact WO.nil ⟨rfl, rfl⟩
                                                    refine DT.nil [_, _, _, _, _, _, _, _, _, _] rfl ?_
                                                    refine WO.go' rfl ?_
                                                    refine WO.eqT rfl rfl (eq27t (moveC x y (lst l))) rfl ?_
                                                    refine WO.p rfl rfl (WO.p rfl rfl (WO.go' rfl ?_))
                                                    refine WO.callR rfl Try.call14 (fun L w hi => law_Works w) rfl ?_
                                                    refine WO.p rfl rfl (WO.p rfl rfl ?_)
                                                    refine WO.nil ?_
                                                    refine W.ret ?_
                                                    exact fin.ret (Res.one rfl (RV.tmp rfl)) rfl)
                                               · first
                                                 | (exfalso; omega)
                                                 | (refine' DT.b rfl rfl rfl ?hq ?_
                                                    case hq =>
                                                      refine WO.no rfl rfl ?_
                                                      exact WO.nil ⟨rfl, rfl⟩
                                                    refine' DT.b rfl rfl rfl ?hq ?_
                                                    case hq =>
                                                      refine WO.no rfl rfl ?_
                                                      exact WO.nil ⟨rfl, rfl⟩
                                                    refine' DT.r rfl rfl rfl ?hq ?_
                                                    case hq =>
                                                      refine WO.no rfl rfl ?_
                                                      exact WO.nil ⟨rfl, rfl⟩
                                                    refine' DT.r rfl rfl rfl ?hq ?_
                                                    case hq =>
                                                      refine WO.no rfl rfl ?_
                                                      exact WO.nil ⟨rfl, rfl⟩
                                                    refine' DT.r rfl rfl rfl ?hq ?_
                                                    case hq =>
                                                      refine WO.no rfl rfl ?_
                                                      exact WO.nil ⟨rfl, rfl⟩
                                                    refine' DT.r rfl rfl rfl ?hq ?_
                                                    case hq =>
                                                      refine WO.no rfl rfl ?_
                                                      exact WO.nil ⟨rfl, rfl⟩
                                                    refine' DT.b rfl rfl rfl ?hq ?_
                                                    case hq =>
                                                      refine WO.no rfl rfl ?_
                                                      exact WO.nil ⟨rfl, rfl⟩
                                                    refine DT.nil [_, _, _, _, _, _, _, _, _, _] rfl ?_
                                                    refine WO.no rfl rfl (WO.p rfl rfl (WO.p rfl rfl (WO.no rfl rfl (WO.p rfl rfl (WO.p rfl rfl ?_)))))
                                                    refine WO.nil ?_
                                                    refine W.ret ?_
                                                    exact fin.ret (Res.one rfl (RV.tmp rfl)) rfl))))))
                      · first
                        | (exfalso; omega)
                        | (refine W.skip ?_
                           have hT : chkL (l.map turnP) = 0 := chkL0.2 ⟨by rw [List.length_map]; exact hok.1, turn_ok hok.2⟩
                           have hM : chkL (l.map mirrP) = 0 := chkL0.2 ⟨by rw [List.length_map]; exact hok.1, mirr_ok hok.2⟩
                           have eO1 := lst_set hok.2 hne (othL_mem (f := f) hne)
                           have hO1 : chkL (othL l f l.length) = 0 := chkL0.2 ⟨by rw [othL_len]; exact hok.1, fun q hq => hok.2 q ((othL_mem hne q).2 hq)⟩
                           refine W.sreg ?_
                           refine WO.p rfl rfl ?_
                           refine WO.callR (r := .tuple #[cirV (turnC (lst l)), .int .i64 0]) rfl Try.call15 (fun L w hi => by have h := c_Smallest w a2 (l.map turnP) (RdF.of_ow (e := 39) encP_ok (by repeat (first | exact Pick.head | apply Pick.tail)) hi); rw [hT, if_pos rfl, lst_turn hok.2 hne] at h; exact h) rfl ?_
                           refine WO.p rfl rfl (WO.p rfl rfl (WO.p rfl rfl ?_))
                           refine WO.alloc rfl rfl rfl (fun b12 hb12 => ?_)
                           refine WO.storeA rfl rfl rfl rfl Pick.head rfl rfl (WO.p rfl rfl ?_)
                           refine WO.nil ?_
                           refine W.sreg ?_
                           refine WO.p rfl rfl ?_
                           refine WO.callR (r := .tuple #[cirV (mirrC (lst l)), .int .i64 0]) rfl Try.call15 (fun L w hi => by have h := c_Smallest w a3 (l.map mirrP) (RdF.of_ow (e := 39) encP_ok (by repeat (first | exact Pick.head | apply Pick.tail)) hi); rw [hM, if_pos rfl, lst_mirr hok.2 hne] at h; exact h) rfl ?_
                           refine WO.p rfl rfl (WO.p rfl rfl (WO.p rfl rfl ?_))
                           refine WO.alloc rfl rfl rfl (fun b13 hb13 => ?_)
                           refine WO.storeA rfl rfl rfl rfl Pick.head rfl rfl (WO.p rfl rfl ?_)
                           refine WO.nil ?_
                           refine W.sreg ?_
                           refine WO.p rfl rfl ?_
                           first
                           | (have hq := hO2; refine WO.callR (r := .tuple #[cirV (lst l), .int .i64 0]) rfl Try.call15 (fun L w hi => by have h := c_Smallest w _ (othL l f l.length ++ [l.at ((f : Int).tmod (l.length : Int)).toNat]) (RdF.of_ow (e := 39) encP_ok (by repeat (first | exact Pick.head | apply Pick.tail)) hi); rw [hO2, if_pos rfl, ← eO2] at h; exact h) rfl ?_)
                           | refine WO.callR (r := .tuple #[cirV (lst l), .int .i64 0]) rfl Try.call15 (fun L w hi => by have h := c_Smallest w a4 (othL l f l.length) (RdF.of_ow (e := 39) encP_ok (by repeat (first | exact Pick.head | apply Pick.tail)) hi); rw [hO1, if_pos rfl, ← eO1] at h; exact h) rfl ?_
                           refine WO.p rfl rfl (WO.p rfl rfl (WO.p rfl rfl ?_))
                           refine WO.alloc rfl rfl rfl (fun b14 hb14 => ?_)
                           refine WO.storeA rfl rfl rfl rfl Pick.head rfl rfl (WO.p rfl rfl ?_)
                           refine WO.nil ?_
                           refine W.seq ?_
                           refine W.sreg ?_
                           refine WO.p rfl rfl (WO.p rfl rfl (WO.p rfl rfl ?_))
                           refine WO.guard_bl rfl rfl (fun c11 => ?_) (fun c11 => ?_)
                           · first
                             | (exfalso; omega)
                             | (refine WO.no rfl rfl (WO.no rfl rfl (WO.p rfl rfl (WO.p rfl rfl (WO.no rfl rfl (WO.no rfl rfl (WO.p rfl rfl (WO.p rfl rfl (WO.no rfl rfl (WO.no rfl rfl (WO.no rfl rfl (WO.p rfl rfl ?_)))))))))))
                                refine WO.nil ?_
                                refine W.cond_t rfl ?_
                                refine W.sreg ?_
                                refine WO.p rfl rfl ?_
                                refine WO.nil ?_
                                refine W.ret ?_
                                exact fin.ret (Res.one rfl (RV.tmp rfl)) rfl)
                           · first
                             | (exfalso; omega)
                             | (refine WO.pg rfl rfl rfl (WO.pg rfl rfl rfl (WO.p rfl rfl (WO.p rfl rfl ?_)))
                                refine WO.guard_bl rfl rfl (fun c12 => ?_) (fun c12 => ?_)
                                · first
                                  | (exfalso; omega)
                                  | (refine WO.no rfl rfl (WO.no rfl rfl (WO.p rfl rfl (WO.p rfl rfl (WO.no rfl rfl (WO.no rfl rfl (WO.no rfl rfl (WO.p rfl rfl ?_)))))))
                                     refine WO.nil ?_
                                     refine W.cond_t rfl ?_
                                     refine W.sreg ?_
                                     refine WO.p rfl rfl ?_
                                     refine WO.nil ?_
                                     refine W.ret ?_
                                     exact fin.ret (Res.one rfl (RV.tmp rfl)) rfl)
                                · first
                                  | (exfalso; omega)
                                  | (refine WO.pg rfl rfl rfl (WO.pg rfl rfl rfl (WO.p rfl rfl (WO.p rfl rfl ?_)))
                                     refine WO.guard_bl rfl rfl (fun c13 => ?_) (fun c13 => ?_)
                                     · first
                                       | (exfalso; omega)
                                       | (refine WO.no rfl rfl (WO.no rfl rfl (WO.no rfl rfl (WO.p rfl rfl ?_)))
                                          refine WO.nil ?_
                                          refine W.cond_t rfl ?_
                                          refine W.sreg ?_
                                          refine WO.p rfl rfl ?_
                                          refine WO.nil ?_
                                          refine W.ret ?_
                                          exact fin.ret (Res.one rfl (RV.tmp rfl)) rfl)
                                     · first
                                       | (exfalso; omega)
                                       | (refine WO.go' rfl (WO.loadA rfl rfl (Cells.own Pick.head) rfl rfl (WO.go' rfl (WO.loadA rfl rfl (Cells.own (Pick.tail (Pick.tail (Pick.tail (Pick.head))))) rfl rfl (WO.go' rfl ?_))))
                                          refine WO.eqT rfl rfl (ne27f (lst l)) rfl ?_
                                          refine WO.p rfl rfl ?_
                                          refine WO.nil ?_
                                          refine W.cond_f rfl ?_
                                          refine W.skip ?_
                                          refine W.seq ?_
                                          have hcx := hsm.ok.x
                                          have hcy := hsm.ok.y
                                          refine W.sreg ?_
                                          refine WO.loadA rfl rfl (Cells.own (Pick.tail (Pick.tail (Pick.head)))) rfl rfl (WO.fieldL rfl rfl rfl (WO.load rfl rfl (Cell.own (Pick.tail (Pick.tail (Pick.tail (Pick.head)))) rfl) rfl (WO.neg rfl (by (first | (unfold in64; omega) | (unfold in64; omega))) rfl (WO.field0 rfl rfl rfl (WO.load rfl rfl (Cell.own (Pick.tail (Pick.tail (Pick.tail (Pick.head)))) rfl) rfl (WO.fieldL rfl rfl rfl (WO.load rfl rfl (Cell.own (Pick.tail (Pick.tail (Pick.tail (Pick.head)))) rfl) rfl (WO.fieldL rfl rfl rfl (WO.loadA rfl rfl (Cells.ownAt (n := 2) (Pick.tail (Pick.tail (Pick.tail (Pick.head)))) rfl) rfl rfl ?_)))))))))
                                          refine' WO.build (cs := _) rfl rfl rfl ?hf rfl ?_
                                          case hf => (conv => lhs; simp [-List.getD_eq_getElem?_getD, fillL, vcl, wrl, TTab.pl?.lget']) <;> rfl
                                          refine WO.eqT rfl rfl (ne27f (turnC (lst l))) rfl ?_
                                          refine WO.p rfl rfl (WO.go' rfl (WO.loadA rfl rfl (Cells.own (Pick.tail (Pick.head))) rfl rfl (WO.go' rfl (WO.field0 rfl rfl rfl (WO.go' rfl (WO.load rfl rfl (Cell.own (Pick.tail (Pick.tail (Pick.tail (Pick.head)))) rfl) rfl (WO.go' rfl (WO.neg rfl (by (first | (unfold in64; omega) | (unfold in64; omega))) rfl (WO.go' rfl (WO.fieldL rfl rfl rfl (WO.go' rfl ?_)))))))))))
                                          refine WO.load rfl rfl (Cell.own (Pick.tail (Pick.tail (Pick.tail (Pick.head)))) rfl) rfl (WO.go' rfl (WO.fieldL rfl rfl rfl (WO.go' rfl (WO.load rfl rfl (Cell.own (Pick.tail (Pick.tail (Pick.tail (Pick.head)))) rfl) rfl (WO.go' rfl (WO.fieldL rfl rfl rfl (WO.go' rfl (WO.loadA rfl rfl (Cells.ownAt (n := 2) (Pick.tail (Pick.tail (Pick.tail (Pick.head)))) rfl) rfl rfl (WO.go' rfl ?_)))))))))
                                          refine' WO.build (cs := _) rfl rfl rfl ?hf rfl ?_
                                          case hf => (conv => lhs; simp [-List.getD_eq_getElem?_getD, fillL, vcl, wrl, TTab.pl?.lget']) <;> rfl
                                          refine WO.go' rfl ?_
                                          refine WO.eqT rfl rfl (ne27f (mirrC (lst l))) rfl ?_
                                          refine WO.p rfl rfl ?_
                                          refine WO.nil ?_
                                          refine W.cond_f rfl ?_
                                          refine W.skip ?_
                                          refine W.seq ?_
                                          refine W.sreg ?_
                                          refine WO.p rfl rfl ?_
                                          refine WO.callR rfl Try.call21 (fun L w hi => law_fine w a1 (l.map (moveP x y)) (RdF.of_ow (e := 39) encP_ok (by repeat (first | exact Pick.head | apply Pick.tail)) hi)) rfl ?_
                                          refine WO.p rfl rfl ?_
                                          refine WO.nil ?_
                                          refine W.cond_nbl rfl (fun c14 => ?_) (fun c14 => ?_)
                                          · first
                                            | (exfalso; omega)
                                            | (refine W.sreg ?_
                                               refine WO.callR rfl Try.call14 (fun L w hi => law_Works w) rfl ?_
                                               refine WO.p rfl rfl ?_
                                               refine WO.nil ?_
                                               refine W.ret ?_
                                               exact fin.ret (Res.one rfl (RV.tmp rfl)) rfl)
                                          · first
                                            | (exfalso; omega)
                                            | (refine W.skip ?_
                                               have hA : chkL (l.map (moveP x y)) = 0 := by assumption
                                               refine W.sreg ?_
                                               refine WO.p rfl rfl ?_
                                               refine WO.callR (r := .tuple #[cirV (moveC x y (lst l)), .int .i64 0]) rfl Try.call15 (fun L w hi => by have h := c_Smallest w a1 (l.map (moveP x y)) (RdF.of_ow (e := 39) encP_ok (by repeat (first | exact Pick.head | apply Pick.tail)) hi); rw [hA, if_pos rfl, lst_move hok.2 hne (chkL0.1 hA).2] at h; exact h) rfl ?_
                                               refine WO.p rfl rfl (WO.p rfl rfl (WO.p rfl rfl ?_))
                                               refine WO.alloc rfl rfl rfl (fun b15 hb15 => ?_)
                                               refine WO.storeA rfl rfl rfl rfl Pick.head rfl rfl (WO.p rfl rfl ?_)
                                               refine WO.nil ?_
                                               refine W.seq ?_
                                               refine W.drawD 10 [.r 0 [], .r 1 [], .r 2 [], .b 3 [], .b 4 [], .r 5 [], .r 6 [], .r 7 [], .r 8 [], .b 9 []] [] (A0 := []) (Sub.refl _) (by kernel_rfl) ?_ ?_
                                               · exact (ALok.r (ALok.r (ALok.r (ALok.b (ALok.b (ALok.r (ALok.r (ALok.r (ALok.r (ALok.b ALok.nil))))))))))
                                               refine' DT.r rfl rfl rfl ?hq ?_
                                               case hq =>
                                                 refine WO.p rfl rfl ?_
                                                 exact WO.nil ⟨rfl, rfl⟩
                                               refine' DT.r rfl rfl rfl ?hq ?_
                                               case hq =>
                                                 refine WO.p rfl rfl ?_
                                                 exact WO.nil ⟨rfl, rfl⟩
                                               refine' DT.rB rfl rfl rfl ?hq (fun c15 => ?_) (fun c15 => ?_)
                                               case hq =>
                                                 refine WO.p rfl rfl ?_
                                                 exact WO.nil ⟨rfl, rfl⟩
                                               · first
                                                 | (exfalso; omega)
                                                 | (refine' DT.b rfl rfl rfl ?hq ?_
                                                    case hq =>
                                                      refine WO.go' rfl (WO.loadA rfl rfl (Cells.own Pick.head) rfl rfl ?_)
                                                      exact WO.nil ⟨rfl, rfl⟩
                                                    refine' DT.b rfl rfl rfl ?hq ?_
                                                    case hq =>
                                                      refine WO.go' rfl (WO.loadA rfl rfl (Cells.own (Pick.tail (Pick.tail (Pick.tail (Pick.tail (Pick.head)))))) rfl rfl ?_)
                                                      exact WO.nil ⟨rfl, rfl⟩
                                                    refine' DT.r rfl rfl rfl ?hq ?_
                                                    case hq =>
                                                      refine WO.pg rfl rfl rfl ?_
                                                      exact WO.nil ⟨rfl, rfl⟩
                                                    refine' DT.r rfl rfl rfl ?hq ?_
                                                    case hq =>
                                                      refine WO.go' rfl (WO.conv64 rfl rfl rfl (by (first | (unfold in64; omega) | (unfold in64; omega))) rfl ?_)
                                                      exact WO.nil ⟨rfl, rfl⟩
                                                    refine' DT.r rfl rfl rfl ?hq ?_
                                                    case hq =>
                                                      refine WO.pg rfl rfl rfl ?_
                                                      exact WO.nil ⟨rfl, rfl⟩
                                                    refine' DT.r rfl rfl rfl ?hq ?_
                                                    case hq =>
                                                      refine WO.go' rfl (WO.conv64 rfl rfl rfl (by (first | (unfold in64; omega) | (unfold in64; omega))) rfl ?_)
                                                      exact WO.nil ⟨rfl, rfl⟩
                                                    refine' DT.b rfl rfl rfl ?hq ?_
                                                    case hq =>
                                                      refine WO.go' rfl ?_
                                                      refine WO.callR rfl Try.call23 (fun L w hi => law_moved w (lst l) x y hsm.ok hx hy) rfl ?_
                                                      exact WO.nil ⟨rfl, rfl⟩
                                                    refine DT.nil [_, _, _, _, _, _, _, _, _] rfl ?_
                                                    refine WO.go' rfl ?_
                                                    refine WO.eqT rfl rfl (eq27t (moveC x y (lst l))) rfl ?_
                                                    refine WO.p rfl rfl (WO.p rfl rfl (WO.go' rfl ?_))
                                                    refine WO.callR rfl Try.call14 (fun L w hi => law_Works w) rfl ?_
                                                    refine WO.p rfl rfl (WO.p rfl rfl ?_)
                                                    refine WO.nil ?_
                                                    refine W.ret ?_
                                                    exact fin.ret (Res.one rfl (RV.tmp rfl)) rfl)
                                               · first
                                                 | (exfalso; omega)
                                                 | (refine' DT.b rfl rfl rfl ?hq ?_
                                                    case hq =>
                                                      refine WO.no rfl rfl ?_
                                                      exact WO.nil ⟨rfl, rfl⟩
                                                    refine' DT.b rfl rfl rfl ?hq ?_
                                                    case hq =>
                                                      refine WO.no rfl rfl ?_
                                                      exact WO.nil ⟨rfl, rfl⟩
                                                    refine' DT.r rfl rfl rfl ?hq ?_
                                                    case hq =>
                                                      refine WO.no rfl rfl ?_
                                                      exact WO.nil ⟨rfl, rfl⟩
                                                    refine' DT.r rfl rfl rfl ?hq ?_
                                                    case hq =>
                                                      refine WO.no rfl rfl ?_
                                                      exact WO.nil ⟨rfl, rfl⟩
                                                    refine' DT.r rfl rfl rfl ?hq ?_
                                                    case hq =>
                                                      refine WO.no rfl rfl ?_
                                                      exact WO.nil ⟨rfl, rfl⟩
                                                    refine' DT.r rfl rfl rfl ?hq ?_
                                                    case hq =>
                                                      refine WO.no rfl rfl ?_
                                                      exact WO.nil ⟨rfl, rfl⟩
                                                    refine' DT.b rfl rfl rfl ?hq ?_
                                                    case hq =>
                                                      refine WO.no rfl rfl ?_
                                                      exact WO.nil ⟨rfl, rfl⟩
                                                    refine DT.nil [_, _, _, _, _, _, _, _, _] rfl ?_
                                                    refine WO.no rfl rfl (WO.p rfl rfl (WO.p rfl rfl (WO.no rfl rfl (WO.p rfl rfl (WO.p rfl rfl ?_)))))
                                                    refine WO.nil ?_
                                                    refine W.ret ?_
                                                    exact fin.ret (Res.one rfl (RV.tmp rfl)) rfl))))))))))
end Go.Proofs.Ytkhplcncfogolaa
