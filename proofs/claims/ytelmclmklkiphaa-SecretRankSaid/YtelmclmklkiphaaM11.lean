/-
  What is proved here: one row more, in plain words. Conditions: none; plain facts.
  What is proved here: the law of one row more. Conditions: none; each contract states its own.
-/
import Derived.Test.YtelmclmklkiphaaM8
import Derived.Test.YtelmclmklkiphaaM7
import Derived.Test.YtelmclmklkiphaaM9
set_option linter.unusedVariables false
set_option linter.unusedSimpArgs false
namespace Go.Proofs.Ytelmclmklkiphaa
open Go Go.TH
set_option maxHeartbeats 1000000
section
variable {n : Nat} {rows : List (List Int)} {a y : List Int}
theorem can_self (h : a ∈ rows) : CanD n rows a := by
  obtain ⟨j, hj, rfl⟩ := List.getElem_of_mem h
  refine ⟨1, fun i => if i = j then 1 else 0, by decide, fun k _ => ?_⟩
  unfold cmb
  rw [sumL_one (g := fun i => Gr rows i k) List.nodup_range (by simpa using hj)]
  show 1 * fnL rows[j] k = fnL (rows.getD j []) k
  rw [List.getD_eq_getElem?_getD, List.getElem?_eq_getElem hj, Int.one_mul]; rfl
theorem can_mono (h : CanD n rows y) : CanD n (rows ++ [a]) y := by
  obtain ⟨t, c, ht, hc⟩ := h
  obtain ⟨c2, h2⟩ := lc_sub (rows := rows) (rows2 := rows ++ [a]) (fun x hx => by simp [hx]) c
  exact ⟨t, c2, ht, fun k hk => by rw [hc k hk]; exact h2 k⟩
end
theorem proE_05 {n : Int} {rows : List (List Int)} {r : List Int} (h : chkBR n rows r = 0) : (CanA n.toNat rows r ∧ proE n rows r = 0) ∨ (¬ CanA n.toNat rows r ∧ proE n rows r = 5) := by
  by_cases g : CanA n.toNat rows r
  · exact .inl ⟨g, proE_0 h g⟩
  exact .inr ⟨g, proE_5 h g⟩
structure MoreF (n : Int) (rows : List (List Int)) (a y : List Int) : Prop where
  b0 : chkB n rows = 0
  b1 : chkB n (rows ++ [a]) = 0
  pa : proE n (rows ++ [a]) a = 0
  p1 : proE n rows a = 0 ∨ proE n rows a = 5
  p23 : (proE n rows y = 0 ∧ proE n (rows ++ [a]) y = 0) ∨ (proE n rows y = 5 ∧ proE n (rows ++ [a]) y = 0) ∨ (proE n rows y = 5 ∧ proE n (rows ++ [a]) y = 5)
  r0 : 0 ≤ rkV n rows
  rn : rkV n (rows ++ [a]) ≤ n
  re : (proE n rows a = 0 → rkV n (rows ++ [a]) = rkV n rows) ∧ (proE n rows a = 5 → rkV n (rows ++ [a]) = rkV n rows + 1)
  ma : (proE n rows y = 5 ∧ proE n (rows ++ [a]) y = 0 → mayE n rows a [y] = 21) ∧ (proE n rows y = 0 ∨ proE n (rows ++ [a]) y = 5 → mayE n rows a [y] = 0)
theorem more_f {n : Int} {rows : List (List Int)} {a y : List Int} (hb : chkB n rows = 0) (ha : chkR n a = 0) (hy : chkR n y = 0) (h8 : rows.length < 8) : MoreF n rows a y := by
  have hok := chkB0.1 hb
  obtain ⟨hal, haw⟩ := chkR0.1 ha
  obtain ⟨hyl, hyw⟩ := chkR0.1 hy
  have hn := hok.2.1
  obtain ⟨N, rfl⟩ : ∃ N : Nat, n = N := ⟨n.toNat, by omega⟩
  obtain ⟨hok2, e1, e2⟩ := rk_more hok h8 hal haw
  have hc2 := chkB0.2 hok2
  have q1 := chkBR0.2 ⟨hok, hal, haw⟩
  have q2 := chkBR0.2 ⟨hok, hyl, hyw⟩
  have q3 := chkBR0.2 ⟨hok2, hyl, hyw⟩
  have q4 := chkBR0.2 ⟨hok2, hal, haw⟩
  have d1 : CanA N rows a ↔ CanD N rows a := canA_D hok haw
  have d2 : CanA N rows y ↔ CanD N rows y := canA_D hok hyw
  have d3 : CanA N (rows ++ [a]) y ↔ CanD N (rows ++ [a]) y := canA_D hok2 hyw
  have d4 : CanA N (rows ++ [a]) a ↔ CanD N (rows ++ [a]) a := canA_D hok2 haw
  have p1 := proE_05 q1
  have p2 := proE_05 q2
  have p3 := proE_05 q3
  rw [Int.toNat_natCast] at p1 p2 p3
  have hmono : CanA N rows y → CanA N (rows ++ [a]) y := fun g => d3.2 (can_mono (d2.1 g))
  have hrk := rk_le hok2
  have hr1 : rkV (N : Int) rows = (rkR N rows : Nat) := by rw [rkV_0 hb, Int.toNat_natCast]
  have hr2 : rkV (N : Int) (rows ++ [a]) = (rkR N (rows ++ [a]) : Nat) := by rw [rkV_0 hc2, Int.toNat_natCast]
  have hfb : ∀ q ∈ [y], chkR (N : Int) q = 0 := fun q hq => by rw [List.mem_singleton.1 hq]; exact hy
  refine ⟨hb, hc2, ?_, ?_, ?_, by omega, by omega, ⟨fun h => ?_, fun h => ?_⟩, ⟨fun h => ?_, fun h => ?_⟩⟩
  · exact proE_0 q4 (by rw [Int.toNat_natCast]; exact d4.2 (can_self (by simp)))
  · rcases p1 with ⟨_, p1⟩ | ⟨_, p1⟩ <;> omega
  · rcases p2 with ⟨g2, p2⟩ | ⟨g2, p2⟩
    · rcases p3 with ⟨g3, p3⟩ | ⟨g3, p3⟩
      · exact .inl ⟨p2, p3⟩
      exact absurd (hmono g2) g3
    rcases p3 with ⟨g3, p3⟩ | ⟨g3, p3⟩
    · exact .inr (.inl ⟨p2, p3⟩)
    exact .inr (.inr ⟨p2, p3⟩)
  · rcases p1 with ⟨g, _⟩ | ⟨_, p1⟩
    · rw [hr1, hr2, e1 (d1.1 g)]
    omega
  · rcases p1 with ⟨_, p1⟩ | ⟨g, _⟩
    · omega
    rw [hr1, hr2, e2 (fun q => g (d1.2 q))]; omega
  · obtain ⟨h2, h3⟩ := h
    refine may_21 (i := 0) q1 (by omega) (by show ¬ 4096 < 1; omega) hfb (by show 0 < 1; omega) ?_
    rw [Int.toNat_natCast]
    refine ⟨?_, ?_⟩
    · rcases p2 with ⟨_, p2⟩ | ⟨g2, _⟩
      · omega
      exact g2
    rcases p3 with ⟨g3, _⟩ | ⟨_, p3⟩
    · exact g3
    omega
  refine may_0 q1 (by omega) (by show ¬ 4096 < 1; omega) hfb fun q hq g => ?_
  rw [List.mem_singleton.1 hq, Int.toNat_natCast] at g
  rcases h with h | h
  · rcases p2 with ⟨g2, _⟩ | ⟨_, p2⟩
    · exact g.1 g2
    omega
  rcases p3 with ⟨_, p3⟩ | ⟨g3, _⟩
  · omega
  exact g3 g.2
end Go.Proofs.Ytelmclmklkiphaa
namespace Go.Proofs.Ytelmclmklkiphaa
open Go Go.TH
attribute [local irreducible] W WO pt
set_option maxRecDepth 10000
set_option maxHeartbeats 1000000
theorem prf_to {w : World} {n : Int} {v u : Value} {rows : List (List Int)} {r : List Int} {p : Int} (e : proE n rows r = p) (h : Ct Try.prog 13 [bookV n v, u].toArray w fun a w' => ∃ Hq, (∃ x : Value, a = .tuple #[.agg #[x, .int .i64 (prfT n rows r)], .int .i64 (proE n rows r)] ∧ Hq = [OwE encI 2 1 x (prfQ n rows r)]) ∧ TH.Inv w [] Hq w') :
    Ct Try.prog 13 [bookV n v, u].toArray w fun a w' => ∃ Hq, (∃ (x1 : Option Addr) (x2 : Nat), a = .tuple #[.agg #[.slice x1 (prfQ n rows r).length x2, .int .i64 (prfT n rows r)], .int .i64 p] ∧ Hq = [OwE encI 2 1 (.slice x1 (prfQ n rows r).length x2) (prfQ n rows r)]) ∧ TH.Inv w [] Hq w' := by
  subst e
  refine h.mono ?_
  rintro a w' ⟨_, ⟨x, rfl, rfl⟩, hi⟩
  obtain ⟨x1, x2, rfl⟩ := OwE.form (C := fnCx mixed tyTab 0 w) (H := [OwE encI 2 1 x (prfQ n rows r)]) Pick.head [] w' hi
  exact ⟨_, ⟨x1, x2, rfl, rfl⟩, hi⟩
theorem rdr_one {C : Cx Try.prog} {H H1 L : List HP} {w : World} {v o : Value} {y : List Int} (hY : RdF encI 1 C.B C.w0 o y) (p : Pick (OwC 25 1 v 1 [o]) H H1) (hi : TH.Inv C.w0 C.M (L ++ H) w) : RdR encI 1 w.heap.size w v [o] [y] :=
  RdR.of_lit p hi rfl fun i hl => match i, hl with
    | 0, _ => hY.later hi
theorem more_no (w : World) (n : Int) (v u o : Value) (rv : List Value) (rows : List (List Int)) (a y : List Int) (hB : RdR encI 1 w.heap.size w v rv rows) (hA : RdF encI 1 w.heap.size w u a) (hY : RdF encI 1 w.heap.size w o y) (hf : ¬ (fineP n rows y ∧ fineP n rows a ∧ rows.length < 8)) : Ret Try.prog 5 [bookV n v, u, o].toArray w (.bool true) := by
  refine Ret.of mixed tyTab Try.func5 rfl rfl ?_
  replace hB : RdR encI 1 (fnCx mixed tyTab Try.f5.ntmps w).B (fnCx mixed tyTab Try.f5.ntmps w).w0 v rv rows := hB
  replace hA : RdF encI 1 (fnCx mixed tyTab Try.f5.ntmps w).B (fnCx mixed tyTab Try.f5.ntmps w).w0 u a := hA
  replace hY : RdF encI 1 (fnCx mixed tyTab Try.f5.ntmps w).B (fnCx mixed tyTab Try.f5.ntmps w).w0 o y := hY
  refine W.sreg ?_
  refine WO.boxA rfl rfl (fun b1 hb1 => ?_)
  refine WO.p rfl rfl ?_
  refine WO.nil ?_
  refine W.seq ?_
  refine W.sreg ?_
  refine WO.loadA rfl rfl (Cells.own Pick.head) rfl rfl (WO.p rfl rfl ?_)
  refine WO.callR rfl Try.call20 (fun L w hi => law_fine w n v o rv rows y (hB.later hi) (hY.later hi)) rfl ?_
  refine WO.p rfl rfl (WO.p rfl rfl ?_)
  refine WO.guard_nbl rfl rfl (fun c1 => ?_) (fun c1 => ?_)
  · first
    | (exfalso; omega)
    | (refine WO.no rfl rfl (WO.no rfl rfl (WO.no rfl rfl (WO.no rfl rfl (WO.p rfl rfl (WO.p rfl rfl (WO.no rfl rfl (WO.no rfl rfl (WO.no rfl rfl (WO.no rfl rfl (WO.p rfl rfl ?_))))))))))
       refine WO.nil ?_
       refine W.cond_t rfl ?_
       refine W.sreg ?_
       refine WO.callR rfl Try.call8 (fun L w hi => l_Works w) rfl ?_
       refine WO.p rfl rfl ?_
       refine WO.nil ?_
       refine W.ret ?_
       exact fin.ret (Res.one rfl (RV.tmp rfl)) rfl)
  first
  | (exfalso; omega)
  | (refine WO.go' rfl (WO.loadA rfl rfl (Cells.own Pick.head) rfl rfl (WO.pg rfl rfl rfl (WO.go' rfl ?_)))
     refine WO.callR rfl Try.call20 (fun L w hi => law_fine w n v u rv rows a (hB.later hi) (hA.later hi)) rfl ?_
     refine WO.pg rfl rfl rfl (WO.p rfl rfl (WO.p rfl rfl ?_))
     refine WO.guard_nbl rfl rfl (fun c2 => ?_) (fun c2 => ?_)
     · first
       | (exfalso; omega)
       | (refine WO.no rfl rfl (WO.no rfl rfl (WO.no rfl rfl (WO.no rfl rfl (WO.p rfl rfl ?_))))
          refine WO.nil ?_
          refine W.cond_t rfl ?_
          refine W.sreg ?_
          refine WO.callR rfl Try.call8 (fun L w hi => l_Works w) rfl ?_
          refine WO.p rfl rfl ?_
          refine WO.nil ?_
          refine W.ret ?_
          exact fin.ret (Res.one rfl (RV.tmp rfl)) rfl)
     first
     | (exfalso; omega)
     | (refine WO.go' rfl (WO.fieldL rfl rfl rfl (WO.go' rfl (WO.load rfl rfl (Cell.own Pick.head rfl) rfl (WO.go' rfl ?_))))
        refine' WO.len (n := _) rfl rfl ?hs rfl ?_
        case hs => (first | exact hB.sl)
        refine WO.pg rfl rfl rfl (WO.p rfl rfl ?_)
        refine WO.nil ?_
        refine W.cond_bl rfl (fun c3 => ?_) (fun c3 => ?_)
        · first
          | (exfalso; omega)
          | (refine W.sreg ?_
             refine WO.callR rfl Try.call8 (fun L w hi => l_Works w) rfl ?_
             refine WO.p rfl rfl ?_
             refine WO.nil ?_
             refine W.ret ?_
             exact fin.ret (Res.one rfl (RV.tmp rfl)) rfl)
        first
        | (exfalso; omega)
        | (refine W.skip ?_
           exact absurd ⟨by assumption, by assumption, by omega⟩ hf)))
theorem more_000 (w : World) (n : Int) (v u o : Value) (rv : List Value) (rows : List (List Int)) (a y : List Int) (hB : RdR encI 1 w.heap.size w v rv rows) (hA : RdF encI 1 w.heap.size w u a) (hY : RdF encI 1 w.heap.size w o y) (hc : CapV v rows.length) (hfy : fineP n rows y) (hfa : fineP n rows a) (h8 : rows.length < 8) (hF : MoreF n rows a y) (h1 : proE n rows a = 0) (h2 : proE n rows y = 0) (h3 : proE n (rows ++ [a]) y = 0) : Ret Try.prog 5 [bookV n v, u, o].toArray w (.bool true) := by
  obtain ⟨oa, oc, rfl⟩ : ∃ p q, o = .slice p y.length q := by obtain ⟨_, p, q, e, _⟩ := hY.sl; exact ⟨p, q, e⟩
  refine Ret.of mixed tyTab Try.func5 rfl rfl ?_
  replace hB : RdR encI 1 (fnCx mixed tyTab Try.f5.ntmps w).B (fnCx mixed tyTab Try.f5.ntmps w).w0 v rv rows := hB
  replace hA : RdF encI 1 (fnCx mixed tyTab Try.f5.ntmps w).B (fnCx mixed tyTab Try.f5.ntmps w).w0 u a := hA
  replace hY : RdF encI 1 (fnCx mixed tyTab Try.f5.ntmps w).B (fnCx mixed tyTab Try.f5.ntmps w).w0 (.slice oa y.length oc) y := hY
  have hou := hY.sl.oc
  have hr0 := hF.r0
  have hrn := hF.rn
  obtain ⟨rk, hrk⟩ : ∃ x : Int, rkV n rows = x := ⟨_, rfl⟩
  obtain ⟨r2, hr2⟩ : ∃ x : Int, rkV n (rows ++ [a]) = x := ⟨_, rfl⟩
  have hre : r2 = rk + 0 := by have := hF.re.1 h1; omega
  rw [hrk] at hr0
  rw [hr2] at hrn
  subst hre
  have hma : mayE n rows a [y] = 0 := hF.ma.2 (.inl h2)
  refine W.sreg ?_
  refine WO.boxA rfl rfl (fun b1 hb1 => ?_)
  refine WO.p rfl rfl ?_
  refine WO.nil ?_
  refine W.seq ?_
  refine W.sreg ?_
  refine WO.loadA rfl rfl (Cells.own Pick.head) rfl rfl (WO.p rfl rfl ?_)
  refine WO.callR (r := .bool true) rfl Try.call20 (fun L w hi => ret_to (congrArg Value.bool (bl_t.2 hfy)) (law_fine w n v _ rv rows y (hB.later hi) (hY.later hi))) rfl ?_
  refine WO.p rfl rfl (WO.p rfl rfl (WO.go' rfl (WO.loadA rfl rfl (Cells.own Pick.head) rfl rfl (WO.pg rfl rfl rfl (WO.go' rfl ?_)))))
  refine WO.callR (r := .bool true) rfl Try.call20 (fun L w hi => ret_to (congrArg Value.bool (bl_t.2 hfa)) (law_fine w n v u rv rows a (hB.later hi) (hA.later hi))) rfl ?_
  refine WO.pg rfl rfl rfl (WO.p rfl rfl (WO.p rfl rfl (WO.go' rfl (WO.fieldL rfl rfl rfl (WO.go' rfl (WO.load rfl rfl (Cell.own Pick.head rfl) rfl (WO.go' rfl ?_)))))))
  refine' WO.len (n := _) rfl rfl ?hs rfl ?_
  case hs => (first | exact hB.sl)
  refine WO.go' rfl ?_
  refine WO.geqF rfl rfl (by omega) rfl ?_
  refine WO.p rfl rfl ?_
  refine WO.nil ?_
  refine W.cond_f rfl ?_
  refine W.skip ?_
  refine W.sreg ?_
  refine WO.loadA rfl rfl (Cells.own Pick.head) rfl rfl (WO.p rfl rfl ?_)
  refine WO.call rfl Try.call21 (fun L w' hi => law_with w' n v u rv rows a (hB.later hi) (hA.later hi) (by omega)) rfl ?_
  rintro _ _ ⟨⟨g, c⟩, ⟨rfl, hgc⟩, rfl⟩
  unfold bookV
  dsimp only at hgc ⊢
  refine WO.alloc rfl rfl rfl (fun b2 hb2 => ?_)
  refine WO.storeA rfl rfl rfl rfl Pick.head rfl rfl ?_
  refine WO.nil ?_
  refine W.sreg ?_
  refine WO.loadA rfl rfl (Cells.own (Pick.tail (Pick.tail (Pick.head)))) rfl rfl ?_
  refine WO.callR (r := .tuple #[.int .i64 rk, .int .i64 0]) rfl Try.call22 (fun L w' hi => ret_to (by rw [hrk, hF.b0]) (c_Rank w' n v rv rows (hB.later hi))) rfl ?_
  refine WO.p rfl rfl (WO.p rfl rfl (WO.p rfl rfl (WO.p rfl rfl (WO.p rfl rfl ?_))))
  refine WO.nil ?_
  refine W.sreg ?_
  refine WO.loadA rfl rfl (Cells.own Pick.head) rfl rfl ?_
  refine WO.callR (r := .tuple #[.int .i64 (rk + 0), .int .i64 0]) rfl Try.call22 (fun L w' hi => ret_to (by rw [hr2, hF.b1]) (c_Rank w' n _ (rv ++ [u]) (rows ++ [a]) (rdr_more hB hA (by repeat (first | exact Pick.head | apply Pick.tail)) hi))) rfl ?_
  refine WO.p rfl rfl (WO.p rfl rfl (WO.p rfl rfl (WO.p rfl rfl (WO.p rfl rfl ?_))))
  refine WO.nil ?_
  refine W.sreg ?_
  refine WO.loadA rfl rfl (Cells.own (Pick.tail (Pick.tail (Pick.head)))) rfl rfl (WO.p rfl rfl ?_)
  refine WO.call rfl Try.call13 (fun L w' hi => prf_to h1 (c_Proof w' n v u rv rows a (hB.later hi) (hA.later hi))) rfl ?_
  rintro _ _ ⟨x1, x2, rfl, rfl⟩
  refine WO.p rfl rfl (WO.p rfl rfl (WO.p rfl rfl ?_))
  refine WO.alloc rfl rfl rfl (fun b3 hb3 => ?_)
  refine WO.storeA rfl rfl rfl rfl Pick.head rfl rfl (WO.p rfl rfl ?_)
  refine WO.nil ?_
  refine W.sreg ?_
  refine WO.loadA rfl rfl (Cells.own (Pick.tail (Pick.tail (Pick.tail (Pick.tail (Pick.head)))))) rfl rfl (WO.p rfl rfl ?_)
  refine WO.call rfl Try.call13 (fun L w' hi => prf_to h2 (c_Proof w' n v _ rv rows y (hB.later hi) (hY.later hi))) rfl ?_
  rintro _ _ ⟨x3, x4, rfl, rfl⟩
  refine WO.p rfl rfl (WO.p rfl rfl (WO.p rfl rfl ?_))
  refine WO.alloc rfl rfl rfl (fun b4 hb4 => ?_)
  refine WO.storeA rfl rfl rfl rfl Pick.head rfl rfl (WO.p rfl rfl ?_)
  refine WO.nil ?_
  refine W.sreg ?_
  refine WO.loadA rfl rfl (Cells.own (Pick.tail (Pick.tail (Pick.tail (Pick.tail (Pick.head)))))) rfl rfl (WO.p rfl rfl ?_)
  refine WO.call rfl Try.call13 (fun L w' hi => prf_to h3 (c_Proof w' n _ _ (rv ++ [u]) (rows ++ [a]) y (rdr_more hB hA (by repeat (first | exact Pick.head | apply Pick.tail)) hi) (hY.later hi))) rfl ?_
  rintro _ _ ⟨x5, x6, rfl, rfl⟩
  refine WO.p rfl rfl (WO.p rfl rfl (WO.p rfl rfl ?_))
  refine WO.alloc rfl rfl rfl (fun b5 hb5 => ?_)
  refine WO.storeA rfl rfl rfl rfl Pick.head rfl rfl (WO.p rfl rfl ?_)
  refine WO.nil ?_
  refine W.sreg ?_
  refine WO.loadA rfl rfl (Cells.own (Pick.tail (Pick.tail (Pick.tail (Pick.tail (Pick.tail (Pick.tail (Pick.head)))))))) rfl rfl (WO.p rfl rfl ?_)
  refine WO.call rfl Try.call13 (fun L w' hi => prf_to hF.pa (c_Proof w' n _ u (rv ++ [u]) (rows ++ [a]) a (rdr_more hB hA (by repeat (first | exact Pick.head | apply Pick.tail)) hi) (hA.later hi))) rfl ?_
  rintro _ _ ⟨x7, x8, rfl, rfl⟩
  refine WO.p rfl rfl (WO.p rfl rfl (WO.p rfl rfl ?_))
  refine WO.alloc rfl rfl rfl (fun b6 hb6 => ?_)
  refine WO.storeA rfl rfl rfl rfl Pick.head rfl rfl (WO.p rfl rfl ?_)
  refine WO.nil ?_
  refine W.seq ?_
  refine W.sreg ?_
  refine WO.p rfl rfl ?_
  refine WO.neqF rfl rfl (by omega) rfl ?_
  refine WO.p rfl rfl (WO.pg rfl rfl rfl (WO.go' rfl ?_))
  refine WO.neqF rfl rfl (by omega) rfl ?_
  refine WO.p rfl rfl (WO.p rfl rfl (WO.pg rfl rfl rfl (WO.go' rfl ?_)))
  refine WO.neqF rfl rfl (by omega) rfl ?_
  refine WO.p rfl rfl (WO.p rfl rfl (WO.pg rfl rfl rfl (WO.go' rfl ?_)))
  refine WO.neqF rfl rfl (by omega) rfl ?_
  refine WO.pg rfl rfl rfl (WO.no rfl rfl (WO.no rfl rfl (WO.pg rfl rfl rfl (WO.p rfl rfl (WO.p rfl rfl (WO.pg rfl rfl rfl (WO.go' rfl ?_)))))))
  refine WO.neqF rfl rfl (by omega) rfl ?_
  refine WO.pg rfl rfl rfl (WO.no rfl rfl (WO.no rfl rfl (WO.pg rfl rfl rfl (WO.p rfl rfl (WO.p rfl rfl (WO.pg rfl rfl rfl (WO.go' rfl ?_)))))))
  refine WO.neqF rfl rfl (by omega) rfl ?_
  refine WO.pg rfl rfl rfl (WO.no rfl rfl (WO.no rfl rfl (WO.pg rfl rfl rfl (WO.p rfl rfl (WO.p rfl rfl (WO.pg rfl rfl rfl (WO.go' rfl ?_)))))))
  refine WO.eqlT rfl rfl (by omega) rfl ?_
  refine WO.pg rfl rfl rfl (WO.pg rfl rfl rfl (WO.go' rfl ?_))
  refine WO.neqF rfl rfl (by omega) rfl ?_
  refine WO.pg rfl rfl rfl (WO.p rfl rfl ?_)
  refine WO.nil ?_
  refine W.cond_f rfl ?_
  refine W.skip ?_
  refine W.seq ?_
  refine W.sreg ?_
  refine WO.p rfl rfl ?_
  refine WO.eqlT rfl rfl (by omega) rfl ?_
  refine WO.p rfl rfl (WO.pg rfl rfl rfl (WO.pg rfl rfl rfl (WO.go' rfl ?_)))
  refine WO.neqF rfl rfl (by omega) rfl ?_
  refine WO.p rfl rfl (WO.p rfl rfl (WO.pg rfl rfl rfl (WO.go' rfl ?_)))
  refine WO.neqF rfl rfl (by omega) rfl ?_
  refine WO.pg rfl rfl rfl (WO.no rfl rfl (WO.no rfl rfl (WO.no rfl rfl (WO.no rfl rfl (WO.pg rfl rfl rfl (WO.p rfl rfl (WO.p rfl rfl (WO.pg rfl rfl rfl (WO.go' rfl ?_)))))))))
  refine WO.lssF rfl rfl (by omega) rfl ?_
  refine WO.p rfl rfl (WO.p rfl rfl (WO.pg rfl rfl rfl (WO.go' rfl (WO.field0 rfl rfl rfl (WO.go' rfl (WO.load rfl rfl (Cell.own (Pick.tail (Pick.tail (Pick.tail (Pick.tail (Pick.tail (Pick.tail (Pick.tail (Pick.tail (Pick.tail (Pick.tail (Pick.head))))))))))) rfl) rfl (WO.go' rfl ?_)))))))
  refine WO.gtrF rfl rfl (by omega) rfl ?_
  refine WO.p rfl rfl ?_
  refine WO.nil ?_
  refine W.cond_f rfl ?_
  refine W.skip ?_
  refine W.sreg ?_
  refine WO.loadA rfl rfl (Cells.own (Pick.tail (Pick.tail (Pick.tail (Pick.tail (Pick.tail (Pick.tail (Pick.tail (Pick.tail (Pick.tail (Pick.tail (Pick.head)))))))))))) rfl rfl (WO.p rfl rfl (WO.p rfl rfl ?_))
  refine' WO.buildSl (cs := _) rfl rfl rfl rfl ?hf rfl rfl ?hl rfl (fun v7 => ?_)
  case hf => (conv => lhs; simp [-List.getD_eq_getElem?_getD, fillL, vcl, wrl, TTab.pl?.lget']) <;> rfl
  case hl => rfl
  refine WO.callR (r := .int .i64 0) rfl Try.call18 (fun L w' hi => ret_to (congrArg (Value.int .i64) hma) (c_May w' n v u _ rv [.slice oa y.length oc] rows [y] a (hB.later hi) (hA.later hi) (rdr_one hY (by repeat (first | exact Pick.head | apply Pick.tail)) hi) hc)) rfl ?_
  refine WO.p rfl rfl ?_
  refine WO.nil ?_
  refine W.sreg ?_
  refine WO.p rfl rfl ?_
  refine WO.nil ?_
  refine W.seq ?_
  refine W.sreg ?_
  refine WO.p rfl rfl ?_
  refine WO.neqF rfl rfl (by omega) rfl ?_
  refine WO.p rfl rfl (WO.no rfl rfl (WO.no rfl rfl (WO.p rfl rfl ?_)))
  refine WO.nil ?_
  refine W.cond_f rfl ?_
  refine W.skip ?_
  refine W.sreg ?_
  refine WO.p rfl rfl (WO.p rfl rfl ?_)
  refine WO.eqlT rfl rfl (by omega) rfl ?_
  refine WO.p rfl rfl (WO.go' rfl ?_)
  refine WO.callR rfl Try.call8 (fun L w hi => l_Works w) rfl ?_
  refine WO.p rfl rfl (WO.p rfl rfl ?_)
  refine WO.nil ?_
  refine W.ret ?_
  exact fin.ret (Res.one rfl (RV.tmp rfl)) rfl
theorem more_050 (w : World) (n : Int) (v u o : Value) (rv : List Value) (rows : List (List Int)) (a y : List Int) (hB : RdR encI 1 w.heap.size w v rv rows) (hA : RdF encI 1 w.heap.size w u a) (hY : RdF encI 1 w.heap.size w o y) (hc : CapV v rows.length) (hfy : fineP n rows y) (hfa : fineP n rows a) (h8 : rows.length < 8) (hF : MoreF n rows a y) (h1 : proE n rows a = 0) (h2 : proE n rows y = 5) (h3 : proE n (rows ++ [a]) y = 0) : Ret Try.prog 5 [bookV n v, u, o].toArray w (.bool true) := by
  obtain ⟨oa, oc, rfl⟩ : ∃ p q, o = .slice p y.length q := by obtain ⟨_, p, q, e, _⟩ := hY.sl; exact ⟨p, q, e⟩
  refine Ret.of mixed tyTab Try.func5 rfl rfl ?_
  replace hB : RdR encI 1 (fnCx mixed tyTab Try.f5.ntmps w).B (fnCx mixed tyTab Try.f5.ntmps w).w0 v rv rows := hB
  replace hA : RdF encI 1 (fnCx mixed tyTab Try.f5.ntmps w).B (fnCx mixed tyTab Try.f5.ntmps w).w0 u a := hA
  replace hY : RdF encI 1 (fnCx mixed tyTab Try.f5.ntmps w).B (fnCx mixed tyTab Try.f5.ntmps w).w0 (.slice oa y.length oc) y := hY
  have hou := hY.sl.oc
  have hr0 := hF.r0
  have hrn := hF.rn
  obtain ⟨rk, hrk⟩ : ∃ x : Int, rkV n rows = x := ⟨_, rfl⟩
  obtain ⟨r2, hr2⟩ : ∃ x : Int, rkV n (rows ++ [a]) = x := ⟨_, rfl⟩
  have hre : r2 = rk + 0 := by have := hF.re.1 h1; omega
  rw [hrk] at hr0
  rw [hr2] at hrn
  subst hre
  have hma : mayE n rows a [y] = 21 := hF.ma.1 ⟨h2, h3⟩
  refine W.sreg ?_
  refine WO.boxA rfl rfl (fun b1 hb1 => ?_)
  refine WO.p rfl rfl ?_
  refine WO.nil ?_
  refine W.seq ?_
  refine W.sreg ?_
  refine WO.loadA rfl rfl (Cells.own Pick.head) rfl rfl (WO.p rfl rfl ?_)
  refine WO.callR (r := .bool true) rfl Try.call20 (fun L w hi => ret_to (congrArg Value.bool (bl_t.2 hfy)) (law_fine w n v _ rv rows y (hB.later hi) (hY.later hi))) rfl ?_
  refine WO.p rfl rfl (WO.p rfl rfl (WO.go' rfl (WO.loadA rfl rfl (Cells.own Pick.head) rfl rfl (WO.pg rfl rfl rfl (WO.go' rfl ?_)))))
  refine WO.callR (r := .bool true) rfl Try.call20 (fun L w hi => ret_to (congrArg Value.bool (bl_t.2 hfa)) (law_fine w n v u rv rows a (hB.later hi) (hA.later hi))) rfl ?_
  refine WO.pg rfl rfl rfl (WO.p rfl rfl (WO.p rfl rfl (WO.go' rfl (WO.fieldL rfl rfl rfl (WO.go' rfl (WO.load rfl rfl (Cell.own Pick.head rfl) rfl (WO.go' rfl ?_)))))))
  refine' WO.len (n := _) rfl rfl ?hs rfl ?_
  case hs => (first | exact hB.sl)
  refine WO.go' rfl ?_
  refine WO.geqF rfl rfl (by omega) rfl ?_
  refine WO.p rfl rfl ?_
  refine WO.nil ?_
  refine W.cond_f rfl ?_
  refine W.skip ?_
  refine W.sreg ?_
  refine WO.loadA rfl rfl (Cells.own Pick.head) rfl rfl (WO.p rfl rfl ?_)
  refine WO.call rfl Try.call21 (fun L w' hi => law_with w' n v u rv rows a (hB.later hi) (hA.later hi) (by omega)) rfl ?_
  rintro _ _ ⟨⟨g, c⟩, ⟨rfl, hgc⟩, rfl⟩
  unfold bookV
  dsimp only at hgc ⊢
  refine WO.alloc rfl rfl rfl (fun b2 hb2 => ?_)
  refine WO.storeA rfl rfl rfl rfl Pick.head rfl rfl ?_
  refine WO.nil ?_
  refine W.sreg ?_
  refine WO.loadA rfl rfl (Cells.own (Pick.tail (Pick.tail (Pick.head)))) rfl rfl ?_
  refine WO.callR (r := .tuple #[.int .i64 rk, .int .i64 0]) rfl Try.call22 (fun L w' hi => ret_to (by rw [hrk, hF.b0]) (c_Rank w' n v rv rows (hB.later hi))) rfl ?_
  refine WO.p rfl rfl (WO.p rfl rfl (WO.p rfl rfl (WO.p rfl rfl (WO.p rfl rfl ?_))))
  refine WO.nil ?_
  refine W.sreg ?_
  refine WO.loadA rfl rfl (Cells.own Pick.head) rfl rfl ?_
  refine WO.callR (r := .tuple #[.int .i64 (rk + 0), .int .i64 0]) rfl Try.call22 (fun L w' hi => ret_to (by rw [hr2, hF.b1]) (c_Rank w' n _ (rv ++ [u]) (rows ++ [a]) (rdr_more hB hA (by repeat (first | exact Pick.head | apply Pick.tail)) hi))) rfl ?_
  refine WO.p rfl rfl (WO.p rfl rfl (WO.p rfl rfl (WO.p rfl rfl (WO.p rfl rfl ?_))))
  refine WO.nil ?_
  refine W.sreg ?_
  refine WO.loadA rfl rfl (Cells.own (Pick.tail (Pick.tail (Pick.head)))) rfl rfl (WO.p rfl rfl ?_)
  refine WO.call rfl Try.call13 (fun L w' hi => prf_to h1 (c_Proof w' n v u rv rows a (hB.later hi) (hA.later hi))) rfl ?_
  rintro _ _ ⟨x1, x2, rfl, rfl⟩
  refine WO.p rfl rfl (WO.p rfl rfl (WO.p rfl rfl ?_))
  refine WO.alloc rfl rfl rfl (fun b3 hb3 => ?_)
  refine WO.storeA rfl rfl rfl rfl Pick.head rfl rfl (WO.p rfl rfl ?_)
  refine WO.nil ?_
  refine W.sreg ?_
  refine WO.loadA rfl rfl (Cells.own (Pick.tail (Pick.tail (Pick.tail (Pick.tail (Pick.head)))))) rfl rfl (WO.p rfl rfl ?_)
  refine WO.call rfl Try.call13 (fun L w' hi => prf_to h2 (c_Proof w' n v _ rv rows y (hB.later hi) (hY.later hi))) rfl ?_
  rintro _ _ ⟨x3, x4, rfl, rfl⟩
  refine WO.p rfl rfl (WO.p rfl rfl (WO.p rfl rfl ?_))
  refine WO.alloc rfl rfl rfl (fun b4 hb4 => ?_)
  refine WO.storeA rfl rfl rfl rfl Pick.head rfl rfl (WO.p rfl rfl ?_)
  refine WO.nil ?_
  refine W.sreg ?_
  refine WO.loadA rfl rfl (Cells.own (Pick.tail (Pick.tail (Pick.tail (Pick.tail (Pick.head)))))) rfl rfl (WO.p rfl rfl ?_)
  refine WO.call rfl Try.call13 (fun L w' hi => prf_to h3 (c_Proof w' n _ _ (rv ++ [u]) (rows ++ [a]) y (rdr_more hB hA (by repeat (first | exact Pick.head | apply Pick.tail)) hi) (hY.later hi))) rfl ?_
  rintro _ _ ⟨x5, x6, rfl, rfl⟩
  refine WO.p rfl rfl (WO.p rfl rfl (WO.p rfl rfl ?_))
  refine WO.alloc rfl rfl rfl (fun b5 hb5 => ?_)
  refine WO.storeA rfl rfl rfl rfl Pick.head rfl rfl (WO.p rfl rfl ?_)
  refine WO.nil ?_
  refine W.sreg ?_
  refine WO.loadA rfl rfl (Cells.own (Pick.tail (Pick.tail (Pick.tail (Pick.tail (Pick.tail (Pick.tail (Pick.head)))))))) rfl rfl (WO.p rfl rfl ?_)
  refine WO.call rfl Try.call13 (fun L w' hi => prf_to hF.pa (c_Proof w' n _ u (rv ++ [u]) (rows ++ [a]) a (rdr_more hB hA (by repeat (first | exact Pick.head | apply Pick.tail)) hi) (hA.later hi))) rfl ?_
  rintro _ _ ⟨x7, x8, rfl, rfl⟩
  refine WO.p rfl rfl (WO.p rfl rfl (WO.p rfl rfl ?_))
  refine WO.alloc rfl rfl rfl (fun b6 hb6 => ?_)
  refine WO.storeA rfl rfl rfl rfl Pick.head rfl rfl (WO.p rfl rfl ?_)
  refine WO.nil ?_
  refine W.seq ?_
  refine W.sreg ?_
  refine WO.p rfl rfl ?_
  refine WO.neqF rfl rfl (by omega) rfl ?_
  refine WO.p rfl rfl (WO.pg rfl rfl rfl (WO.go' rfl ?_))
  refine WO.neqF rfl rfl (by omega) rfl ?_
  refine WO.p rfl rfl (WO.p rfl rfl (WO.pg rfl rfl rfl (WO.go' rfl ?_)))
  refine WO.neqF rfl rfl (by omega) rfl ?_
  refine WO.p rfl rfl (WO.p rfl rfl (WO.pg rfl rfl rfl (WO.go' rfl ?_)))
  refine WO.neqF rfl rfl (by omega) rfl ?_
  refine WO.pg rfl rfl rfl (WO.no rfl rfl (WO.no rfl rfl (WO.pg rfl rfl rfl (WO.p rfl rfl (WO.p rfl rfl (WO.pg rfl rfl rfl (WO.go' rfl ?_)))))))
  refine WO.neqT rfl rfl (by omega) rfl ?_
  refine WO.pg rfl rfl rfl (WO.pg rfl rfl rfl (WO.go' rfl ?_))
  refine WO.neqF rfl rfl (by omega) rfl ?_
  refine WO.pg rfl rfl rfl (WO.p rfl rfl (WO.p rfl rfl (WO.pg rfl rfl rfl (WO.go' rfl ?_))))
  refine WO.neqF rfl rfl (by omega) rfl ?_
  refine WO.pg rfl rfl rfl (WO.no rfl rfl (WO.no rfl rfl (WO.pg rfl rfl rfl (WO.p rfl rfl (WO.p rfl rfl (WO.pg rfl rfl rfl (WO.go' rfl ?_)))))))
  refine WO.eqlF rfl rfl (by omega) rfl ?_
  refine WO.pg rfl rfl rfl (WO.no rfl rfl (WO.no rfl rfl (WO.pg rfl rfl rfl (WO.p rfl rfl ?_))))
  refine WO.nil ?_
  refine W.cond_f rfl ?_
  refine W.skip ?_
  refine W.seq ?_
  refine W.sreg ?_
  refine WO.p rfl rfl ?_
  refine WO.eqlT rfl rfl (by omega) rfl ?_
  refine WO.p rfl rfl (WO.pg rfl rfl rfl (WO.pg rfl rfl rfl (WO.go' rfl ?_)))
  refine WO.neqF rfl rfl (by omega) rfl ?_
  refine WO.p rfl rfl (WO.p rfl rfl (WO.pg rfl rfl rfl (WO.go' rfl ?_)))
  refine WO.neqF rfl rfl (by omega) rfl ?_
  refine WO.pg rfl rfl rfl (WO.no rfl rfl (WO.no rfl rfl (WO.no rfl rfl (WO.no rfl rfl (WO.pg rfl rfl rfl (WO.p rfl rfl (WO.p rfl rfl (WO.pg rfl rfl rfl (WO.go' rfl ?_)))))))))
  refine WO.lssF rfl rfl (by omega) rfl ?_
  refine WO.p rfl rfl (WO.p rfl rfl (WO.pg rfl rfl rfl (WO.go' rfl (WO.field0 rfl rfl rfl (WO.go' rfl (WO.load rfl rfl (Cell.own (Pick.tail (Pick.tail (Pick.tail (Pick.tail (Pick.tail (Pick.tail (Pick.tail (Pick.tail (Pick.tail (Pick.tail (Pick.head))))))))))) rfl) rfl (WO.go' rfl ?_)))))))
  refine WO.gtrF rfl rfl (by omega) rfl ?_
  refine WO.p rfl rfl ?_
  refine WO.nil ?_
  refine W.cond_f rfl ?_
  refine W.skip ?_
  refine W.sreg ?_
  refine WO.loadA rfl rfl (Cells.own (Pick.tail (Pick.tail (Pick.tail (Pick.tail (Pick.tail (Pick.tail (Pick.tail (Pick.tail (Pick.tail (Pick.tail (Pick.head)))))))))))) rfl rfl (WO.p rfl rfl (WO.p rfl rfl ?_))
  refine' WO.buildSl (cs := _) rfl rfl rfl rfl ?hf rfl rfl ?hl rfl (fun v7 => ?_)
  case hf => (conv => lhs; simp [-List.getD_eq_getElem?_getD, fillL, vcl, wrl, TTab.pl?.lget']) <;> rfl
  case hl => rfl
  refine WO.callR (r := .int .i64 21) rfl Try.call18 (fun L w' hi => ret_to (congrArg (Value.int .i64) hma) (c_May w' n v u _ rv [.slice oa y.length oc] rows [y] a (hB.later hi) (hA.later hi) (rdr_one hY (by repeat (first | exact Pick.head | apply Pick.tail)) hi) hc)) rfl ?_
  refine WO.p rfl rfl ?_
  refine WO.nil ?_
  refine W.sreg ?_
  refine WO.p rfl rfl ?_
  refine WO.nil ?_
  refine W.seq ?_
  refine W.sreg ?_
  refine WO.p rfl rfl ?_
  refine WO.neqT rfl rfl (by omega) rfl ?_
  refine WO.p rfl rfl (WO.pg rfl rfl rfl (WO.go' rfl ?_))
  refine WO.eqlT rfl rfl (by omega) rfl ?_
  refine WO.p rfl rfl ?_
  refine WO.nil ?_
  refine W.cond_t rfl ?_
  refine W.region ?_
  refine WO.p rfl rfl ?_
  refine WO.nil ?_
  refine W.sreg ?_
  refine WO.p rfl rfl (WO.p rfl rfl ?_)
  refine WO.eqlT rfl rfl (by omega) rfl ?_
  refine WO.p rfl rfl (WO.go' rfl ?_)
  refine WO.callR rfl Try.call8 (fun L w hi => l_Works w) rfl ?_
  refine WO.p rfl rfl (WO.p rfl rfl ?_)
  refine WO.nil ?_
  refine W.ret ?_
  exact fin.ret (Res.one rfl (RV.tmp rfl)) rfl
theorem more_055 (w : World) (n : Int) (v u o : Value) (rv : List Value) (rows : List (List Int)) (a y : List Int) (hB : RdR encI 1 w.heap.size w v rv rows) (hA : RdF encI 1 w.heap.size w u a) (hY : RdF encI 1 w.heap.size w o y) (hc : CapV v rows.length) (hfy : fineP n rows y) (hfa : fineP n rows a) (h8 : rows.length < 8) (hF : MoreF n rows a y) (h1 : proE n rows a = 0) (h2 : proE n rows y = 5) (h3 : proE n (rows ++ [a]) y = 5) : Ret Try.prog 5 [bookV n v, u, o].toArray w (.bool true) := by
  obtain ⟨oa, oc, rfl⟩ : ∃ p q, o = .slice p y.length q := by obtain ⟨_, p, q, e, _⟩ := hY.sl; exact ⟨p, q, e⟩
  refine Ret.of mixed tyTab Try.func5 rfl rfl ?_
  replace hB : RdR encI 1 (fnCx mixed tyTab Try.f5.ntmps w).B (fnCx mixed tyTab Try.f5.ntmps w).w0 v rv rows := hB
  replace hA : RdF encI 1 (fnCx mixed tyTab Try.f5.ntmps w).B (fnCx mixed tyTab Try.f5.ntmps w).w0 u a := hA
  replace hY : RdF encI 1 (fnCx mixed tyTab Try.f5.ntmps w).B (fnCx mixed tyTab Try.f5.ntmps w).w0 (.slice oa y.length oc) y := hY
  have hou := hY.sl.oc
  have hr0 := hF.r0
  have hrn := hF.rn
  obtain ⟨rk, hrk⟩ : ∃ x : Int, rkV n rows = x := ⟨_, rfl⟩
  obtain ⟨r2, hr2⟩ : ∃ x : Int, rkV n (rows ++ [a]) = x := ⟨_, rfl⟩
  have hre : r2 = rk + 0 := by have := hF.re.1 h1; omega
  rw [hrk] at hr0
  rw [hr2] at hrn
  subst hre
  have hma : mayE n rows a [y] = 0 := hF.ma.2 (.inr h3)
  refine W.sreg ?_
  refine WO.boxA rfl rfl (fun b1 hb1 => ?_)
  refine WO.p rfl rfl ?_
  refine WO.nil ?_
  refine W.seq ?_
  refine W.sreg ?_
  refine WO.loadA rfl rfl (Cells.own Pick.head) rfl rfl (WO.p rfl rfl ?_)
  refine WO.callR (r := .bool true) rfl Try.call20 (fun L w hi => ret_to (congrArg Value.bool (bl_t.2 hfy)) (law_fine w n v _ rv rows y (hB.later hi) (hY.later hi))) rfl ?_
  refine WO.p rfl rfl (WO.p rfl rfl (WO.go' rfl (WO.loadA rfl rfl (Cells.own Pick.head) rfl rfl (WO.pg rfl rfl rfl (WO.go' rfl ?_)))))
  refine WO.callR (r := .bool true) rfl Try.call20 (fun L w hi => ret_to (congrArg Value.bool (bl_t.2 hfa)) (law_fine w n v u rv rows a (hB.later hi) (hA.later hi))) rfl ?_
  refine WO.pg rfl rfl rfl (WO.p rfl rfl (WO.p rfl rfl (WO.go' rfl (WO.fieldL rfl rfl rfl (WO.go' rfl (WO.load rfl rfl (Cell.own Pick.head rfl) rfl (WO.go' rfl ?_)))))))
  refine' WO.len (n := _) rfl rfl ?hs rfl ?_
  case hs => (first | exact hB.sl)
  refine WO.go' rfl ?_
  refine WO.geqF rfl rfl (by omega) rfl ?_
  refine WO.p rfl rfl ?_
  refine WO.nil ?_
  refine W.cond_f rfl ?_
  refine W.skip ?_
  refine W.sreg ?_
  refine WO.loadA rfl rfl (Cells.own Pick.head) rfl rfl (WO.p rfl rfl ?_)
  refine WO.call rfl Try.call21 (fun L w' hi => law_with w' n v u rv rows a (hB.later hi) (hA.later hi) (by omega)) rfl ?_
  rintro _ _ ⟨⟨g, c⟩, ⟨rfl, hgc⟩, rfl⟩
  unfold bookV
  dsimp only at hgc ⊢
  refine WO.alloc rfl rfl rfl (fun b2 hb2 => ?_)
  refine WO.storeA rfl rfl rfl rfl Pick.head rfl rfl ?_
  refine WO.nil ?_
  refine W.sreg ?_
  refine WO.loadA rfl rfl (Cells.own (Pick.tail (Pick.tail (Pick.head)))) rfl rfl ?_
  refine WO.callR (r := .tuple #[.int .i64 rk, .int .i64 0]) rfl Try.call22 (fun L w' hi => ret_to (by rw [hrk, hF.b0]) (c_Rank w' n v rv rows (hB.later hi))) rfl ?_
  refine WO.p rfl rfl (WO.p rfl rfl (WO.p rfl rfl (WO.p rfl rfl (WO.p rfl rfl ?_))))
  refine WO.nil ?_
  refine W.sreg ?_
  refine WO.loadA rfl rfl (Cells.own Pick.head) rfl rfl ?_
  refine WO.callR (r := .tuple #[.int .i64 (rk + 0), .int .i64 0]) rfl Try.call22 (fun L w' hi => ret_to (by rw [hr2, hF.b1]) (c_Rank w' n _ (rv ++ [u]) (rows ++ [a]) (rdr_more hB hA (by repeat (first | exact Pick.head | apply Pick.tail)) hi))) rfl ?_
  refine WO.p rfl rfl (WO.p rfl rfl (WO.p rfl rfl (WO.p rfl rfl (WO.p rfl rfl ?_))))
  refine WO.nil ?_
  refine W.sreg ?_
  refine WO.loadA rfl rfl (Cells.own (Pick.tail (Pick.tail (Pick.head)))) rfl rfl (WO.p rfl rfl ?_)
  refine WO.call rfl Try.call13 (fun L w' hi => prf_to h1 (c_Proof w' n v u rv rows a (hB.later hi) (hA.later hi))) rfl ?_
  rintro _ _ ⟨x1, x2, rfl, rfl⟩
  refine WO.p rfl rfl (WO.p rfl rfl (WO.p rfl rfl ?_))
  refine WO.alloc rfl rfl rfl (fun b3 hb3 => ?_)
  refine WO.storeA rfl rfl rfl rfl Pick.head rfl rfl (WO.p rfl rfl ?_)
  refine WO.nil ?_
  refine W.sreg ?_
  refine WO.loadA rfl rfl (Cells.own (Pick.tail (Pick.tail (Pick.tail (Pick.tail (Pick.head)))))) rfl rfl (WO.p rfl rfl ?_)
  refine WO.call rfl Try.call13 (fun L w' hi => prf_to h2 (c_Proof w' n v _ rv rows y (hB.later hi) (hY.later hi))) rfl ?_
  rintro _ _ ⟨x3, x4, rfl, rfl⟩
  refine WO.p rfl rfl (WO.p rfl rfl (WO.p rfl rfl ?_))
  refine WO.alloc rfl rfl rfl (fun b4 hb4 => ?_)
  refine WO.storeA rfl rfl rfl rfl Pick.head rfl rfl (WO.p rfl rfl ?_)
  refine WO.nil ?_
  refine W.sreg ?_
  refine WO.loadA rfl rfl (Cells.own (Pick.tail (Pick.tail (Pick.tail (Pick.tail (Pick.head)))))) rfl rfl (WO.p rfl rfl ?_)
  refine WO.call rfl Try.call13 (fun L w' hi => prf_to h3 (c_Proof w' n _ _ (rv ++ [u]) (rows ++ [a]) y (rdr_more hB hA (by repeat (first | exact Pick.head | apply Pick.tail)) hi) (hY.later hi))) rfl ?_
  rintro _ _ ⟨x5, x6, rfl, rfl⟩
  refine WO.p rfl rfl (WO.p rfl rfl (WO.p rfl rfl ?_))
  refine WO.alloc rfl rfl rfl (fun b5 hb5 => ?_)
  refine WO.storeA rfl rfl rfl rfl Pick.head rfl rfl (WO.p rfl rfl ?_)
  refine WO.nil ?_
  refine W.sreg ?_
  refine WO.loadA rfl rfl (Cells.own (Pick.tail (Pick.tail (Pick.tail (Pick.tail (Pick.tail (Pick.tail (Pick.head)))))))) rfl rfl (WO.p rfl rfl ?_)
  refine WO.call rfl Try.call13 (fun L w' hi => prf_to hF.pa (c_Proof w' n _ u (rv ++ [u]) (rows ++ [a]) a (rdr_more hB hA (by repeat (first | exact Pick.head | apply Pick.tail)) hi) (hA.later hi))) rfl ?_
  rintro _ _ ⟨x7, x8, rfl, rfl⟩
  refine WO.p rfl rfl (WO.p rfl rfl (WO.p rfl rfl ?_))
  refine WO.alloc rfl rfl rfl (fun b6 hb6 => ?_)
  refine WO.storeA rfl rfl rfl rfl Pick.head rfl rfl (WO.p rfl rfl ?_)
  refine WO.nil ?_
  refine W.seq ?_
  refine W.sreg ?_
  refine WO.p rfl rfl ?_
  refine WO.neqF rfl rfl (by omega) rfl ?_
  refine WO.p rfl rfl (WO.pg rfl rfl rfl (WO.go' rfl ?_))
  refine WO.neqF rfl rfl (by omega) rfl ?_
  refine WO.p rfl rfl (WO.p rfl rfl (WO.pg rfl rfl rfl (WO.go' rfl ?_)))
  refine WO.neqF rfl rfl (by omega) rfl ?_
  refine WO.p rfl rfl (WO.p rfl rfl (WO.pg rfl rfl rfl (WO.go' rfl ?_)))
  refine WO.neqF rfl rfl (by omega) rfl ?_
  refine WO.pg rfl rfl rfl (WO.no rfl rfl (WO.no rfl rfl (WO.pg rfl rfl rfl (WO.p rfl rfl (WO.p rfl rfl (WO.pg rfl rfl rfl (WO.go' rfl ?_)))))))
  refine WO.neqT rfl rfl (by omega) rfl ?_
  refine WO.pg rfl rfl rfl (WO.pg rfl rfl rfl (WO.go' rfl ?_))
  refine WO.neqF rfl rfl (by omega) rfl ?_
  refine WO.pg rfl rfl rfl (WO.p rfl rfl (WO.p rfl rfl (WO.pg rfl rfl rfl (WO.go' rfl ?_))))
  refine WO.neqT rfl rfl (by omega) rfl ?_
  refine WO.pg rfl rfl rfl (WO.pg rfl rfl rfl (WO.go' rfl ?_))
  refine WO.neqF rfl rfl (by omega) rfl ?_
  refine WO.pg rfl rfl rfl (WO.p rfl rfl (WO.p rfl rfl (WO.pg rfl rfl rfl (WO.go' rfl ?_))))
  refine WO.eqlF rfl rfl (by omega) rfl ?_
  refine WO.pg rfl rfl rfl (WO.no rfl rfl (WO.no rfl rfl (WO.pg rfl rfl rfl (WO.p rfl rfl ?_))))
  refine WO.nil ?_
  refine W.cond_f rfl ?_
  refine W.skip ?_
  refine W.seq ?_
  refine W.sreg ?_
  refine WO.p rfl rfl ?_
  refine WO.eqlT rfl rfl (by omega) rfl ?_
  refine WO.p rfl rfl (WO.pg rfl rfl rfl (WO.pg rfl rfl rfl (WO.go' rfl ?_)))
  refine WO.neqF rfl rfl (by omega) rfl ?_
  refine WO.p rfl rfl (WO.p rfl rfl (WO.pg rfl rfl rfl (WO.go' rfl ?_)))
  refine WO.neqF rfl rfl (by omega) rfl ?_
  refine WO.pg rfl rfl rfl (WO.no rfl rfl (WO.no rfl rfl (WO.no rfl rfl (WO.no rfl rfl (WO.pg rfl rfl rfl (WO.p rfl rfl (WO.p rfl rfl (WO.pg rfl rfl rfl (WO.go' rfl ?_)))))))))
  refine WO.lssF rfl rfl (by omega) rfl ?_
  refine WO.p rfl rfl (WO.p rfl rfl (WO.pg rfl rfl rfl (WO.go' rfl (WO.field0 rfl rfl rfl (WO.go' rfl (WO.load rfl rfl (Cell.own (Pick.tail (Pick.tail (Pick.tail (Pick.tail (Pick.tail (Pick.tail (Pick.tail (Pick.tail (Pick.tail (Pick.tail (Pick.head))))))))))) rfl) rfl (WO.go' rfl ?_)))))))
  refine WO.gtrF rfl rfl (by omega) rfl ?_
  refine WO.p rfl rfl ?_
  refine WO.nil ?_
  refine W.cond_f rfl ?_
  refine W.skip ?_
  refine W.sreg ?_
  refine WO.loadA rfl rfl (Cells.own (Pick.tail (Pick.tail (Pick.tail (Pick.tail (Pick.tail (Pick.tail (Pick.tail (Pick.tail (Pick.tail (Pick.tail (Pick.head)))))))))))) rfl rfl (WO.p rfl rfl (WO.p rfl rfl ?_))
  refine' WO.buildSl (cs := _) rfl rfl rfl rfl ?hf rfl rfl ?hl rfl (fun v7 => ?_)
  case hf => (conv => lhs; simp [-List.getD_eq_getElem?_getD, fillL, vcl, wrl, TTab.pl?.lget']) <;> rfl
  case hl => rfl
  refine WO.callR (r := .int .i64 0) rfl Try.call18 (fun L w' hi => ret_to (congrArg (Value.int .i64) hma) (c_May w' n v u _ rv [.slice oa y.length oc] rows [y] a (hB.later hi) (hA.later hi) (rdr_one hY (by repeat (first | exact Pick.head | apply Pick.tail)) hi) hc)) rfl ?_
  refine WO.p rfl rfl ?_
  refine WO.nil ?_
  refine W.sreg ?_
  refine WO.p rfl rfl ?_
  refine WO.nil ?_
  refine W.seq ?_
  refine W.sreg ?_
  refine WO.p rfl rfl ?_
  refine WO.neqT rfl rfl (by omega) rfl ?_
  refine WO.p rfl rfl (WO.pg rfl rfl rfl (WO.go' rfl ?_))
  refine WO.eqlF rfl rfl (by omega) rfl ?_
  refine WO.p rfl rfl ?_
  refine WO.nil ?_
  refine W.cond_f rfl ?_
  refine W.skip ?_
  refine W.sreg ?_
  refine WO.p rfl rfl (WO.p rfl rfl ?_)
  refine WO.eqlT rfl rfl (by omega) rfl ?_
  refine WO.p rfl rfl (WO.go' rfl ?_)
  refine WO.callR rfl Try.call8 (fun L w hi => l_Works w) rfl ?_
  refine WO.p rfl rfl (WO.p rfl rfl ?_)
  refine WO.nil ?_
  refine W.ret ?_
  exact fin.ret (Res.one rfl (RV.tmp rfl)) rfl
theorem more_500 (w : World) (n : Int) (v u o : Value) (rv : List Value) (rows : List (List Int)) (a y : List Int) (hB : RdR encI 1 w.heap.size w v rv rows) (hA : RdF encI 1 w.heap.size w u a) (hY : RdF encI 1 w.heap.size w o y) (hc : CapV v rows.length) (hfy : fineP n rows y) (hfa : fineP n rows a) (h8 : rows.length < 8) (hF : MoreF n rows a y) (h1 : proE n rows a = 5) (h2 : proE n rows y = 0) (h3 : proE n (rows ++ [a]) y = 0) : Ret Try.prog 5 [bookV n v, u, o].toArray w (.bool true) := by
  obtain ⟨oa, oc, rfl⟩ : ∃ p q, o = .slice p y.length q := by obtain ⟨_, p, q, e, _⟩ := hY.sl; exact ⟨p, q, e⟩
  refine Ret.of mixed tyTab Try.func5 rfl rfl ?_
  replace hB : RdR encI 1 (fnCx mixed tyTab Try.f5.ntmps w).B (fnCx mixed tyTab Try.f5.ntmps w).w0 v rv rows := hB
  replace hA : RdF encI 1 (fnCx mixed tyTab Try.f5.ntmps w).B (fnCx mixed tyTab Try.f5.ntmps w).w0 u a := hA
  replace hY : RdF encI 1 (fnCx mixed tyTab Try.f5.ntmps w).B (fnCx mixed tyTab Try.f5.ntmps w).w0 (.slice oa y.length oc) y := hY
  have hou := hY.sl.oc
  have hr0 := hF.r0
  have hrn := hF.rn
  obtain ⟨rk, hrk⟩ : ∃ x : Int, rkV n rows = x := ⟨_, rfl⟩
  obtain ⟨r2, hr2⟩ : ∃ x : Int, rkV n (rows ++ [a]) = x := ⟨_, rfl⟩
  have hre : r2 = rk + 1 := by have := hF.re.2 h1; omega
  rw [hrk] at hr0
  rw [hr2] at hrn
  subst hre
  have hma : mayE n rows a [y] = 0 := hF.ma.2 (.inl h2)
  refine W.sreg ?_
  refine WO.boxA rfl rfl (fun b1 hb1 => ?_)
  refine WO.p rfl rfl ?_
  refine WO.nil ?_
  refine W.seq ?_
  refine W.sreg ?_
  refine WO.loadA rfl rfl (Cells.own Pick.head) rfl rfl (WO.p rfl rfl ?_)
  refine WO.callR (r := .bool true) rfl Try.call20 (fun L w hi => ret_to (congrArg Value.bool (bl_t.2 hfy)) (law_fine w n v _ rv rows y (hB.later hi) (hY.later hi))) rfl ?_
  refine WO.p rfl rfl (WO.p rfl rfl (WO.go' rfl (WO.loadA rfl rfl (Cells.own Pick.head) rfl rfl (WO.pg rfl rfl rfl (WO.go' rfl ?_)))))
  refine WO.callR (r := .bool true) rfl Try.call20 (fun L w hi => ret_to (congrArg Value.bool (bl_t.2 hfa)) (law_fine w n v u rv rows a (hB.later hi) (hA.later hi))) rfl ?_
  refine WO.pg rfl rfl rfl (WO.p rfl rfl (WO.p rfl rfl (WO.go' rfl (WO.fieldL rfl rfl rfl (WO.go' rfl (WO.load rfl rfl (Cell.own Pick.head rfl) rfl (WO.go' rfl ?_)))))))
  refine' WO.len (n := _) rfl rfl ?hs rfl ?_
  case hs => (first | exact hB.sl)
  refine WO.go' rfl ?_
  refine WO.geqF rfl rfl (by omega) rfl ?_
  refine WO.p rfl rfl ?_
  refine WO.nil ?_
  refine W.cond_f rfl ?_
  refine W.skip ?_
  refine W.sreg ?_
  refine WO.loadA rfl rfl (Cells.own Pick.head) rfl rfl (WO.p rfl rfl ?_)
  refine WO.call rfl Try.call21 (fun L w' hi => law_with w' n v u rv rows a (hB.later hi) (hA.later hi) (by omega)) rfl ?_
  rintro _ _ ⟨⟨g, c⟩, ⟨rfl, hgc⟩, rfl⟩
  unfold bookV
  dsimp only at hgc ⊢
  refine WO.alloc rfl rfl rfl (fun b2 hb2 => ?_)
  refine WO.storeA rfl rfl rfl rfl Pick.head rfl rfl ?_
  refine WO.nil ?_
  refine W.sreg ?_
  refine WO.loadA rfl rfl (Cells.own (Pick.tail (Pick.tail (Pick.head)))) rfl rfl ?_
  refine WO.callR (r := .tuple #[.int .i64 rk, .int .i64 0]) rfl Try.call22 (fun L w' hi => ret_to (by rw [hrk, hF.b0]) (c_Rank w' n v rv rows (hB.later hi))) rfl ?_
  refine WO.p rfl rfl (WO.p rfl rfl (WO.p rfl rfl (WO.p rfl rfl (WO.p rfl rfl ?_))))
  refine WO.nil ?_
  refine W.sreg ?_
  refine WO.loadA rfl rfl (Cells.own Pick.head) rfl rfl ?_
  refine WO.callR (r := .tuple #[.int .i64 (rk + 1), .int .i64 0]) rfl Try.call22 (fun L w' hi => ret_to (by rw [hr2, hF.b1]) (c_Rank w' n _ (rv ++ [u]) (rows ++ [a]) (rdr_more hB hA (by repeat (first | exact Pick.head | apply Pick.tail)) hi))) rfl ?_
  refine WO.p rfl rfl (WO.p rfl rfl (WO.p rfl rfl (WO.p rfl rfl (WO.p rfl rfl ?_))))
  refine WO.nil ?_
  refine W.sreg ?_
  refine WO.loadA rfl rfl (Cells.own (Pick.tail (Pick.tail (Pick.head)))) rfl rfl (WO.p rfl rfl ?_)
  refine WO.call rfl Try.call13 (fun L w' hi => prf_to h1 (c_Proof w' n v u rv rows a (hB.later hi) (hA.later hi))) rfl ?_
  rintro _ _ ⟨x1, x2, rfl, rfl⟩
  refine WO.p rfl rfl (WO.p rfl rfl (WO.p rfl rfl ?_))
  refine WO.alloc rfl rfl rfl (fun b3 hb3 => ?_)
  refine WO.storeA rfl rfl rfl rfl Pick.head rfl rfl (WO.p rfl rfl ?_)
  refine WO.nil ?_
  refine W.sreg ?_
  refine WO.loadA rfl rfl (Cells.own (Pick.tail (Pick.tail (Pick.tail (Pick.tail (Pick.head)))))) rfl rfl (WO.p rfl rfl ?_)
  refine WO.call rfl Try.call13 (fun L w' hi => prf_to h2 (c_Proof w' n v _ rv rows y (hB.later hi) (hY.later hi))) rfl ?_
  rintro _ _ ⟨x3, x4, rfl, rfl⟩
  refine WO.p rfl rfl (WO.p rfl rfl (WO.p rfl rfl ?_))
  refine WO.alloc rfl rfl rfl (fun b4 hb4 => ?_)
  refine WO.storeA rfl rfl rfl rfl Pick.head rfl rfl (WO.p rfl rfl ?_)
  refine WO.nil ?_
  refine W.sreg ?_
  refine WO.loadA rfl rfl (Cells.own (Pick.tail (Pick.tail (Pick.tail (Pick.tail (Pick.head)))))) rfl rfl (WO.p rfl rfl ?_)
  refine WO.call rfl Try.call13 (fun L w' hi => prf_to h3 (c_Proof w' n _ _ (rv ++ [u]) (rows ++ [a]) y (rdr_more hB hA (by repeat (first | exact Pick.head | apply Pick.tail)) hi) (hY.later hi))) rfl ?_
  rintro _ _ ⟨x5, x6, rfl, rfl⟩
  refine WO.p rfl rfl (WO.p rfl rfl (WO.p rfl rfl ?_))
  refine WO.alloc rfl rfl rfl (fun b5 hb5 => ?_)
  refine WO.storeA rfl rfl rfl rfl Pick.head rfl rfl (WO.p rfl rfl ?_)
  refine WO.nil ?_
  refine W.sreg ?_
  refine WO.loadA rfl rfl (Cells.own (Pick.tail (Pick.tail (Pick.tail (Pick.tail (Pick.tail (Pick.tail (Pick.head)))))))) rfl rfl (WO.p rfl rfl ?_)
  refine WO.call rfl Try.call13 (fun L w' hi => prf_to hF.pa (c_Proof w' n _ u (rv ++ [u]) (rows ++ [a]) a (rdr_more hB hA (by repeat (first | exact Pick.head | apply Pick.tail)) hi) (hA.later hi))) rfl ?_
  rintro _ _ ⟨x7, x8, rfl, rfl⟩
  refine WO.p rfl rfl (WO.p rfl rfl (WO.p rfl rfl ?_))
  refine WO.alloc rfl rfl rfl (fun b6 hb6 => ?_)
  refine WO.storeA rfl rfl rfl rfl Pick.head rfl rfl (WO.p rfl rfl ?_)
  refine WO.nil ?_
  refine W.seq ?_
  refine W.sreg ?_
  refine WO.p rfl rfl ?_
  refine WO.neqF rfl rfl (by omega) rfl ?_
  refine WO.p rfl rfl (WO.pg rfl rfl rfl (WO.go' rfl ?_))
  refine WO.neqF rfl rfl (by omega) rfl ?_
  refine WO.p rfl rfl (WO.p rfl rfl (WO.pg rfl rfl rfl (WO.go' rfl ?_)))
  refine WO.neqF rfl rfl (by omega) rfl ?_
  refine WO.p rfl rfl (WO.p rfl rfl (WO.pg rfl rfl rfl (WO.go' rfl ?_)))
  refine WO.neqT rfl rfl (by omega) rfl ?_
  refine WO.pg rfl rfl rfl (WO.pg rfl rfl rfl (WO.go' rfl ?_))
  refine WO.neqF rfl rfl (by omega) rfl ?_
  refine WO.pg rfl rfl rfl (WO.p rfl rfl (WO.p rfl rfl (WO.pg rfl rfl rfl (WO.go' rfl ?_))))
  refine WO.neqF rfl rfl (by omega) rfl ?_
  refine WO.pg rfl rfl rfl (WO.no rfl rfl (WO.no rfl rfl (WO.pg rfl rfl rfl (WO.p rfl rfl (WO.p rfl rfl (WO.pg rfl rfl rfl (WO.go' rfl ?_)))))))
  refine WO.neqF rfl rfl (by omega) rfl ?_
  refine WO.pg rfl rfl rfl (WO.no rfl rfl (WO.no rfl rfl (WO.pg rfl rfl rfl (WO.p rfl rfl (WO.p rfl rfl (WO.pg rfl rfl rfl (WO.go' rfl ?_)))))))
  refine WO.eqlT rfl rfl (by omega) rfl ?_
  refine WO.pg rfl rfl rfl (WO.pg rfl rfl rfl (WO.go' rfl ?_))
  refine WO.neqF rfl rfl (by omega) rfl ?_
  refine WO.pg rfl rfl rfl (WO.p rfl rfl ?_)
  refine WO.nil ?_
  refine W.cond_f rfl ?_
  refine W.skip ?_
  refine W.seq ?_
  refine W.sreg ?_
  refine WO.p rfl rfl ?_
  refine WO.eqlF rfl rfl (by omega) rfl ?_
  refine WO.p rfl rfl (WO.no rfl rfl (WO.no rfl rfl (WO.no rfl rfl (WO.p rfl rfl (WO.p rfl rfl (WO.pg rfl rfl rfl (WO.go' rfl ?_)))))))
  refine WO.neqT rfl rfl (by omega) rfl ?_
  refine WO.pg rfl rfl rfl (WO.pg rfl rfl rfl (WO.pg rfl rfl rfl (WO.go' rfl (WO.ar rfl rfl rfl (by (first | (unfold in64; omega) | (have := hB.sl.le; have := chkB0.1 hF.b0; have := this.2.1; unfold in64; omega))) rfl (WO.go' rfl ?_)))))
  refine WO.neqF rfl rfl (by omega) rfl ?_
  refine WO.pg rfl rfl rfl (WO.p rfl rfl (WO.p rfl rfl (WO.pg rfl rfl rfl (WO.go' rfl ?_))))
  refine WO.lssF rfl rfl (by omega) rfl ?_
  refine WO.p rfl rfl (WO.p rfl rfl (WO.pg rfl rfl rfl (WO.go' rfl (WO.field0 rfl rfl rfl (WO.go' rfl (WO.load rfl rfl (Cell.own (Pick.tail (Pick.tail (Pick.tail (Pick.tail (Pick.tail (Pick.tail (Pick.tail (Pick.tail (Pick.tail (Pick.tail (Pick.head))))))))))) rfl) rfl (WO.go' rfl ?_)))))))
  refine WO.gtrF rfl rfl (by omega) rfl ?_
  refine WO.p rfl rfl ?_
  refine WO.nil ?_
  refine W.cond_f rfl ?_
  refine W.skip ?_
  refine W.sreg ?_
  refine WO.loadA rfl rfl (Cells.own (Pick.tail (Pick.tail (Pick.tail (Pick.tail (Pick.tail (Pick.tail (Pick.tail (Pick.tail (Pick.tail (Pick.tail (Pick.head)))))))))))) rfl rfl (WO.p rfl rfl (WO.p rfl rfl ?_))
  refine' WO.buildSl (cs := _) rfl rfl rfl rfl ?hf rfl rfl ?hl rfl (fun v7 => ?_)
  case hf => (conv => lhs; simp [-List.getD_eq_getElem?_getD, fillL, vcl, wrl, TTab.pl?.lget']) <;> rfl
  case hl => rfl
  refine WO.callR (r := .int .i64 0) rfl Try.call18 (fun L w' hi => ret_to (congrArg (Value.int .i64) hma) (c_May w' n v u _ rv [.slice oa y.length oc] rows [y] a (hB.later hi) (hA.later hi) (rdr_one hY (by repeat (first | exact Pick.head | apply Pick.tail)) hi) hc)) rfl ?_
  refine WO.p rfl rfl ?_
  refine WO.nil ?_
  refine W.sreg ?_
  refine WO.p rfl rfl ?_
  refine WO.nil ?_
  refine W.seq ?_
  refine W.sreg ?_
  refine WO.p rfl rfl ?_
  refine WO.neqF rfl rfl (by omega) rfl ?_
  refine WO.p rfl rfl (WO.no rfl rfl (WO.no rfl rfl (WO.p rfl rfl ?_)))
  refine WO.nil ?_
  refine W.cond_f rfl ?_
  refine W.skip ?_
  refine W.sreg ?_
  refine WO.p rfl rfl (WO.p rfl rfl ?_)
  refine WO.eqlT rfl rfl (by omega) rfl ?_
  refine WO.p rfl rfl (WO.go' rfl ?_)
  refine WO.callR rfl Try.call8 (fun L w hi => l_Works w) rfl ?_
  refine WO.p rfl rfl (WO.p rfl rfl ?_)
  refine WO.nil ?_
  refine W.ret ?_
  exact fin.ret (Res.one rfl (RV.tmp rfl)) rfl
theorem more_550 (w : World) (n : Int) (v u o : Value) (rv : List Value) (rows : List (List Int)) (a y : List Int) (hB : RdR encI 1 w.heap.size w v rv rows) (hA : RdF encI 1 w.heap.size w u a) (hY : RdF encI 1 w.heap.size w o y) (hc : CapV v rows.length) (hfy : fineP n rows y) (hfa : fineP n rows a) (h8 : rows.length < 8) (hF : MoreF n rows a y) (h1 : proE n rows a = 5) (h2 : proE n rows y = 5) (h3 : proE n (rows ++ [a]) y = 0) : Ret Try.prog 5 [bookV n v, u, o].toArray w (.bool true) := by
  obtain ⟨oa, oc, rfl⟩ : ∃ p q, o = .slice p y.length q := by obtain ⟨_, p, q, e, _⟩ := hY.sl; exact ⟨p, q, e⟩
  refine Ret.of mixed tyTab Try.func5 rfl rfl ?_
  replace hB : RdR encI 1 (fnCx mixed tyTab Try.f5.ntmps w).B (fnCx mixed tyTab Try.f5.ntmps w).w0 v rv rows := hB
  replace hA : RdF encI 1 (fnCx mixed tyTab Try.f5.ntmps w).B (fnCx mixed tyTab Try.f5.ntmps w).w0 u a := hA
  replace hY : RdF encI 1 (fnCx mixed tyTab Try.f5.ntmps w).B (fnCx mixed tyTab Try.f5.ntmps w).w0 (.slice oa y.length oc) y := hY
  have hou := hY.sl.oc
  have hr0 := hF.r0
  have hrn := hF.rn
  obtain ⟨rk, hrk⟩ : ∃ x : Int, rkV n rows = x := ⟨_, rfl⟩
  obtain ⟨r2, hr2⟩ : ∃ x : Int, rkV n (rows ++ [a]) = x := ⟨_, rfl⟩
  have hre : r2 = rk + 1 := by have := hF.re.2 h1; omega
  rw [hrk] at hr0
  rw [hr2] at hrn
  subst hre
  have hma : mayE n rows a [y] = 21 := hF.ma.1 ⟨h2, h3⟩
  refine W.sreg ?_
  refine WO.boxA rfl rfl (fun b1 hb1 => ?_)
  refine WO.p rfl rfl ?_
  refine WO.nil ?_
  refine W.seq ?_
  refine W.sreg ?_
  refine WO.loadA rfl rfl (Cells.own Pick.head) rfl rfl (WO.p rfl rfl ?_)
  refine WO.callR (r := .bool true) rfl Try.call20 (fun L w hi => ret_to (congrArg Value.bool (bl_t.2 hfy)) (law_fine w n v _ rv rows y (hB.later hi) (hY.later hi))) rfl ?_
  refine WO.p rfl rfl (WO.p rfl rfl (WO.go' rfl (WO.loadA rfl rfl (Cells.own Pick.head) rfl rfl (WO.pg rfl rfl rfl (WO.go' rfl ?_)))))
  refine WO.callR (r := .bool true) rfl Try.call20 (fun L w hi => ret_to (congrArg Value.bool (bl_t.2 hfa)) (law_fine w n v u rv rows a (hB.later hi) (hA.later hi))) rfl ?_
  refine WO.pg rfl rfl rfl (WO.p rfl rfl (WO.p rfl rfl (WO.go' rfl (WO.fieldL rfl rfl rfl (WO.go' rfl (WO.load rfl rfl (Cell.own Pick.head rfl) rfl (WO.go' rfl ?_)))))))
  refine' WO.len (n := _) rfl rfl ?hs rfl ?_
  case hs => (first | exact hB.sl)
  refine WO.go' rfl ?_
  refine WO.geqF rfl rfl (by omega) rfl ?_
  refine WO.p rfl rfl ?_
  refine WO.nil ?_
  refine W.cond_f rfl ?_
  refine W.skip ?_
  refine W.sreg ?_
  refine WO.loadA rfl rfl (Cells.own Pick.head) rfl rfl (WO.p rfl rfl ?_)
  refine WO.call rfl Try.call21 (fun L w' hi => law_with w' n v u rv rows a (hB.later hi) (hA.later hi) (by omega)) rfl ?_
  rintro _ _ ⟨⟨g, c⟩, ⟨rfl, hgc⟩, rfl⟩
  unfold bookV
  dsimp only at hgc ⊢
  refine WO.alloc rfl rfl rfl (fun b2 hb2 => ?_)
  refine WO.storeA rfl rfl rfl rfl Pick.head rfl rfl ?_
  refine WO.nil ?_
  refine W.sreg ?_
  refine WO.loadA rfl rfl (Cells.own (Pick.tail (Pick.tail (Pick.head)))) rfl rfl ?_
  refine WO.callR (r := .tuple #[.int .i64 rk, .int .i64 0]) rfl Try.call22 (fun L w' hi => ret_to (by rw [hrk, hF.b0]) (c_Rank w' n v rv rows (hB.later hi))) rfl ?_
  refine WO.p rfl rfl (WO.p rfl rfl (WO.p rfl rfl (WO.p rfl rfl (WO.p rfl rfl ?_))))
  refine WO.nil ?_
  refine W.sreg ?_
  refine WO.loadA rfl rfl (Cells.own Pick.head) rfl rfl ?_
  refine WO.callR (r := .tuple #[.int .i64 (rk + 1), .int .i64 0]) rfl Try.call22 (fun L w' hi => ret_to (by rw [hr2, hF.b1]) (c_Rank w' n _ (rv ++ [u]) (rows ++ [a]) (rdr_more hB hA (by repeat (first | exact Pick.head | apply Pick.tail)) hi))) rfl ?_
  refine WO.p rfl rfl (WO.p rfl rfl (WO.p rfl rfl (WO.p rfl rfl (WO.p rfl rfl ?_))))
  refine WO.nil ?_
  refine W.sreg ?_
  refine WO.loadA rfl rfl (Cells.own (Pick.tail (Pick.tail (Pick.head)))) rfl rfl (WO.p rfl rfl ?_)
  refine WO.call rfl Try.call13 (fun L w' hi => prf_to h1 (c_Proof w' n v u rv rows a (hB.later hi) (hA.later hi))) rfl ?_
  rintro _ _ ⟨x1, x2, rfl, rfl⟩
  refine WO.p rfl rfl (WO.p rfl rfl (WO.p rfl rfl ?_))
  refine WO.alloc rfl rfl rfl (fun b3 hb3 => ?_)
  refine WO.storeA rfl rfl rfl rfl Pick.head rfl rfl (WO.p rfl rfl ?_)
  refine WO.nil ?_
  refine W.sreg ?_
  refine WO.loadA rfl rfl (Cells.own (Pick.tail (Pick.tail (Pick.tail (Pick.tail (Pick.head)))))) rfl rfl (WO.p rfl rfl ?_)
  refine WO.call rfl Try.call13 (fun L w' hi => prf_to h2 (c_Proof w' n v _ rv rows y (hB.later hi) (hY.later hi))) rfl ?_
  rintro _ _ ⟨x3, x4, rfl, rfl⟩
  refine WO.p rfl rfl (WO.p rfl rfl (WO.p rfl rfl ?_))
  refine WO.alloc rfl rfl rfl (fun b4 hb4 => ?_)
  refine WO.storeA rfl rfl rfl rfl Pick.head rfl rfl (WO.p rfl rfl ?_)
  refine WO.nil ?_
  refine W.sreg ?_
  refine WO.loadA rfl rfl (Cells.own (Pick.tail (Pick.tail (Pick.tail (Pick.tail (Pick.head)))))) rfl rfl (WO.p rfl rfl ?_)
  refine WO.call rfl Try.call13 (fun L w' hi => prf_to h3 (c_Proof w' n _ _ (rv ++ [u]) (rows ++ [a]) y (rdr_more hB hA (by repeat (first | exact Pick.head | apply Pick.tail)) hi) (hY.later hi))) rfl ?_
  rintro _ _ ⟨x5, x6, rfl, rfl⟩
  refine WO.p rfl rfl (WO.p rfl rfl (WO.p rfl rfl ?_))
  refine WO.alloc rfl rfl rfl (fun b5 hb5 => ?_)
  refine WO.storeA rfl rfl rfl rfl Pick.head rfl rfl (WO.p rfl rfl ?_)
  refine WO.nil ?_
  refine W.sreg ?_
  refine WO.loadA rfl rfl (Cells.own (Pick.tail (Pick.tail (Pick.tail (Pick.tail (Pick.tail (Pick.tail (Pick.head)))))))) rfl rfl (WO.p rfl rfl ?_)
  refine WO.call rfl Try.call13 (fun L w' hi => prf_to hF.pa (c_Proof w' n _ u (rv ++ [u]) (rows ++ [a]) a (rdr_more hB hA (by repeat (first | exact Pick.head | apply Pick.tail)) hi) (hA.later hi))) rfl ?_
  rintro _ _ ⟨x7, x8, rfl, rfl⟩
  refine WO.p rfl rfl (WO.p rfl rfl (WO.p rfl rfl ?_))
  refine WO.alloc rfl rfl rfl (fun b6 hb6 => ?_)
  refine WO.storeA rfl rfl rfl rfl Pick.head rfl rfl (WO.p rfl rfl ?_)
  refine WO.nil ?_
  refine W.seq ?_
  refine W.sreg ?_
  refine WO.p rfl rfl ?_
  refine WO.neqF rfl rfl (by omega) rfl ?_
  refine WO.p rfl rfl (WO.pg rfl rfl rfl (WO.go' rfl ?_))
  refine WO.neqF rfl rfl (by omega) rfl ?_
  refine WO.p rfl rfl (WO.p rfl rfl (WO.pg rfl rfl rfl (WO.go' rfl ?_)))
  refine WO.neqF rfl rfl (by omega) rfl ?_
  refine WO.p rfl rfl (WO.p rfl rfl (WO.pg rfl rfl rfl (WO.go' rfl ?_)))
  refine WO.neqT rfl rfl (by omega) rfl ?_
  refine WO.pg rfl rfl rfl (WO.pg rfl rfl rfl (WO.go' rfl ?_))
  refine WO.neqF rfl rfl (by omega) rfl ?_
  refine WO.pg rfl rfl rfl (WO.p rfl rfl (WO.p rfl rfl (WO.pg rfl rfl rfl (WO.go' rfl ?_))))
  refine WO.neqT rfl rfl (by omega) rfl ?_
  refine WO.pg rfl rfl rfl (WO.pg rfl rfl rfl (WO.go' rfl ?_))
  refine WO.neqF rfl rfl (by omega) rfl ?_
  refine WO.pg rfl rfl rfl (WO.p rfl rfl (WO.p rfl rfl (WO.pg rfl rfl rfl (WO.go' rfl ?_))))
  refine WO.neqF rfl rfl (by omega) rfl ?_
  refine WO.pg rfl rfl rfl (WO.no rfl rfl (WO.no rfl rfl (WO.pg rfl rfl rfl (WO.p rfl rfl (WO.p rfl rfl (WO.pg rfl rfl rfl (WO.go' rfl ?_)))))))
  refine WO.eqlF rfl rfl (by omega) rfl ?_
  refine WO.pg rfl rfl rfl (WO.no rfl rfl (WO.no rfl rfl (WO.pg rfl rfl rfl (WO.p rfl rfl ?_))))
  refine WO.nil ?_
  refine W.cond_f rfl ?_
  refine W.skip ?_
  refine W.seq ?_
  refine W.sreg ?_
  refine WO.p rfl rfl ?_
  refine WO.eqlF rfl rfl (by omega) rfl ?_
  refine WO.p rfl rfl (WO.no rfl rfl (WO.no rfl rfl (WO.no rfl rfl (WO.p rfl rfl (WO.p rfl rfl (WO.pg rfl rfl rfl (WO.go' rfl ?_)))))))
  refine WO.neqT rfl rfl (by omega) rfl ?_
  refine WO.pg rfl rfl rfl (WO.pg rfl rfl rfl (WO.pg rfl rfl rfl (WO.go' rfl (WO.ar rfl rfl rfl (by (first | (unfold in64; omega) | (have := hB.sl.le; have := chkB0.1 hF.b0; have := this.2.1; unfold in64; omega))) rfl (WO.go' rfl ?_)))))
  refine WO.neqF rfl rfl (by omega) rfl ?_
  refine WO.pg rfl rfl rfl (WO.p rfl rfl (WO.p rfl rfl (WO.pg rfl rfl rfl (WO.go' rfl ?_))))
  refine WO.lssF rfl rfl (by omega) rfl ?_
  refine WO.p rfl rfl (WO.p rfl rfl (WO.pg rfl rfl rfl (WO.go' rfl (WO.field0 rfl rfl rfl (WO.go' rfl (WO.load rfl rfl (Cell.own (Pick.tail (Pick.tail (Pick.tail (Pick.tail (Pick.tail (Pick.tail (Pick.tail (Pick.tail (Pick.tail (Pick.tail (Pick.head))))))))))) rfl) rfl (WO.go' rfl ?_)))))))
  refine WO.gtrF rfl rfl (by omega) rfl ?_
  refine WO.p rfl rfl ?_
  refine WO.nil ?_
  refine W.cond_f rfl ?_
  refine W.skip ?_
  refine W.sreg ?_
  refine WO.loadA rfl rfl (Cells.own (Pick.tail (Pick.tail (Pick.tail (Pick.tail (Pick.tail (Pick.tail (Pick.tail (Pick.tail (Pick.tail (Pick.tail (Pick.head)))))))))))) rfl rfl (WO.p rfl rfl (WO.p rfl rfl ?_))
  refine' WO.buildSl (cs := _) rfl rfl rfl rfl ?hf rfl rfl ?hl rfl (fun v7 => ?_)
  case hf => (conv => lhs; simp [-List.getD_eq_getElem?_getD, fillL, vcl, wrl, TTab.pl?.lget']) <;> rfl
  case hl => rfl
  refine WO.callR (r := .int .i64 21) rfl Try.call18 (fun L w' hi => ret_to (congrArg (Value.int .i64) hma) (c_May w' n v u _ rv [.slice oa y.length oc] rows [y] a (hB.later hi) (hA.later hi) (rdr_one hY (by repeat (first | exact Pick.head | apply Pick.tail)) hi) hc)) rfl ?_
  refine WO.p rfl rfl ?_
  refine WO.nil ?_
  refine W.sreg ?_
  refine WO.p rfl rfl ?_
  refine WO.nil ?_
  refine W.seq ?_
  refine W.sreg ?_
  refine WO.p rfl rfl ?_
  refine WO.neqT rfl rfl (by omega) rfl ?_
  refine WO.p rfl rfl (WO.pg rfl rfl rfl (WO.go' rfl ?_))
  refine WO.eqlT rfl rfl (by omega) rfl ?_
  refine WO.p rfl rfl ?_
  refine WO.nil ?_
  refine W.cond_t rfl ?_
  refine W.region ?_
  refine WO.p rfl rfl ?_
  refine WO.nil ?_
  refine W.sreg ?_
  refine WO.p rfl rfl (WO.p rfl rfl ?_)
  refine WO.eqlT rfl rfl (by omega) rfl ?_
  refine WO.p rfl rfl (WO.go' rfl ?_)
  refine WO.callR rfl Try.call8 (fun L w hi => l_Works w) rfl ?_
  refine WO.p rfl rfl (WO.p rfl rfl ?_)
  refine WO.nil ?_
  refine W.ret ?_
  exact fin.ret (Res.one rfl (RV.tmp rfl)) rfl
theorem more_555 (w : World) (n : Int) (v u o : Value) (rv : List Value) (rows : List (List Int)) (a y : List Int) (hB : RdR encI 1 w.heap.size w v rv rows) (hA : RdF encI 1 w.heap.size w u a) (hY : RdF encI 1 w.heap.size w o y) (hc : CapV v rows.length) (hfy : fineP n rows y) (hfa : fineP n rows a) (h8 : rows.length < 8) (hF : MoreF n rows a y) (h1 : proE n rows a = 5) (h2 : proE n rows y = 5) (h3 : proE n (rows ++ [a]) y = 5) : Ret Try.prog 5 [bookV n v, u, o].toArray w (.bool true) := by
  obtain ⟨oa, oc, rfl⟩ : ∃ p q, o = .slice p y.length q := by obtain ⟨_, p, q, e, _⟩ := hY.sl; exact ⟨p, q, e⟩
  refine Ret.of mixed tyTab Try.func5 rfl rfl ?_
  replace hB : RdR encI 1 (fnCx mixed tyTab Try.f5.ntmps w).B (fnCx mixed tyTab Try.f5.ntmps w).w0 v rv rows := hB
  replace hA : RdF encI 1 (fnCx mixed tyTab Try.f5.ntmps w).B (fnCx mixed tyTab Try.f5.ntmps w).w0 u a := hA
  replace hY : RdF encI 1 (fnCx mixed tyTab Try.f5.ntmps w).B (fnCx mixed tyTab Try.f5.ntmps w).w0 (.slice oa y.length oc) y := hY
  have hou := hY.sl.oc
  have hr0 := hF.r0
  have hrn := hF.rn
  obtain ⟨rk, hrk⟩ : ∃ x : Int, rkV n rows = x := ⟨_, rfl⟩
  obtain ⟨r2, hr2⟩ : ∃ x : Int, rkV n (rows ++ [a]) = x := ⟨_, rfl⟩
  have hre : r2 = rk + 1 := by have := hF.re.2 h1; omega
  rw [hrk] at hr0
  rw [hr2] at hrn
  subst hre
  have hma : mayE n rows a [y] = 0 := hF.ma.2 (.inr h3)
  refine W.sreg ?_
  refine WO.boxA rfl rfl (fun b1 hb1 => ?_)
  refine WO.p rfl rfl ?_
  refine WO.nil ?_
  refine W.seq ?_
  refine W.sreg ?_
  refine WO.loadA rfl rfl (Cells.own Pick.head) rfl rfl (WO.p rfl rfl ?_)
  refine WO.callR (r := .bool true) rfl Try.call20 (fun L w hi => ret_to (congrArg Value.bool (bl_t.2 hfy)) (law_fine w n v _ rv rows y (hB.later hi) (hY.later hi))) rfl ?_
  refine WO.p rfl rfl (WO.p rfl rfl (WO.go' rfl (WO.loadA rfl rfl (Cells.own Pick.head) rfl rfl (WO.pg rfl rfl rfl (WO.go' rfl ?_)))))
  refine WO.callR (r := .bool true) rfl Try.call20 (fun L w hi => ret_to (congrArg Value.bool (bl_t.2 hfa)) (law_fine w n v u rv rows a (hB.later hi) (hA.later hi))) rfl ?_
  refine WO.pg rfl rfl rfl (WO.p rfl rfl (WO.p rfl rfl (WO.go' rfl (WO.fieldL rfl rfl rfl (WO.go' rfl (WO.load rfl rfl (Cell.own Pick.head rfl) rfl (WO.go' rfl ?_)))))))
  refine' WO.len (n := _) rfl rfl ?hs rfl ?_
  case hs => (first | exact hB.sl)
  refine WO.go' rfl ?_
  refine WO.geqF rfl rfl (by omega) rfl ?_
  refine WO.p rfl rfl ?_
  refine WO.nil ?_
  refine W.cond_f rfl ?_
  refine W.skip ?_
  refine W.sreg ?_
  refine WO.loadA rfl rfl (Cells.own Pick.head) rfl rfl (WO.p rfl rfl ?_)
  refine WO.call rfl Try.call21 (fun L w' hi => law_with w' n v u rv rows a (hB.later hi) (hA.later hi) (by omega)) rfl ?_
  rintro _ _ ⟨⟨g, c⟩, ⟨rfl, hgc⟩, rfl⟩
  unfold bookV
  dsimp only at hgc ⊢
  refine WO.alloc rfl rfl rfl (fun b2 hb2 => ?_)
  refine WO.storeA rfl rfl rfl rfl Pick.head rfl rfl ?_
  refine WO.nil ?_
  refine W.sreg ?_
  refine WO.loadA rfl rfl (Cells.own (Pick.tail (Pick.tail (Pick.head)))) rfl rfl ?_
  refine WO.callR (r := .tuple #[.int .i64 rk, .int .i64 0]) rfl Try.call22 (fun L w' hi => ret_to (by rw [hrk, hF.b0]) (c_Rank w' n v rv rows (hB.later hi))) rfl ?_
  refine WO.p rfl rfl (WO.p rfl rfl (WO.p rfl rfl (WO.p rfl rfl (WO.p rfl rfl ?_))))
  refine WO.nil ?_
  refine W.sreg ?_
  refine WO.loadA rfl rfl (Cells.own Pick.head) rfl rfl ?_
  refine WO.callR (r := .tuple #[.int .i64 (rk + 1), .int .i64 0]) rfl Try.call22 (fun L w' hi => ret_to (by rw [hr2, hF.b1]) (c_Rank w' n _ (rv ++ [u]) (rows ++ [a]) (rdr_more hB hA (by repeat (first | exact Pick.head | apply Pick.tail)) hi))) rfl ?_
  refine WO.p rfl rfl (WO.p rfl rfl (WO.p rfl rfl (WO.p rfl rfl (WO.p rfl rfl ?_))))
  refine WO.nil ?_
  refine W.sreg ?_
  refine WO.loadA rfl rfl (Cells.own (Pick.tail (Pick.tail (Pick.head)))) rfl rfl (WO.p rfl rfl ?_)
  refine WO.call rfl Try.call13 (fun L w' hi => prf_to h1 (c_Proof w' n v u rv rows a (hB.later hi) (hA.later hi))) rfl ?_
  rintro _ _ ⟨x1, x2, rfl, rfl⟩
  refine WO.p rfl rfl (WO.p rfl rfl (WO.p rfl rfl ?_))
  refine WO.alloc rfl rfl rfl (fun b3 hb3 => ?_)
  refine WO.storeA rfl rfl rfl rfl Pick.head rfl rfl (WO.p rfl rfl ?_)
  refine WO.nil ?_
  refine W.sreg ?_
  refine WO.loadA rfl rfl (Cells.own (Pick.tail (Pick.tail (Pick.tail (Pick.tail (Pick.head)))))) rfl rfl (WO.p rfl rfl ?_)
  refine WO.call rfl Try.call13 (fun L w' hi => prf_to h2 (c_Proof w' n v _ rv rows y (hB.later hi) (hY.later hi))) rfl ?_
  rintro _ _ ⟨x3, x4, rfl, rfl⟩
  refine WO.p rfl rfl (WO.p rfl rfl (WO.p rfl rfl ?_))
  refine WO.alloc rfl rfl rfl (fun b4 hb4 => ?_)
  refine WO.storeA rfl rfl rfl rfl Pick.head rfl rfl (WO.p rfl rfl ?_)
  refine WO.nil ?_
  refine W.sreg ?_
  refine WO.loadA rfl rfl (Cells.own (Pick.tail (Pick.tail (Pick.tail (Pick.tail (Pick.head)))))) rfl rfl (WO.p rfl rfl ?_)
  refine WO.call rfl Try.call13 (fun L w' hi => prf_to h3 (c_Proof w' n _ _ (rv ++ [u]) (rows ++ [a]) y (rdr_more hB hA (by repeat (first | exact Pick.head | apply Pick.tail)) hi) (hY.later hi))) rfl ?_
  rintro _ _ ⟨x5, x6, rfl, rfl⟩
  refine WO.p rfl rfl (WO.p rfl rfl (WO.p rfl rfl ?_))
  refine WO.alloc rfl rfl rfl (fun b5 hb5 => ?_)
  refine WO.storeA rfl rfl rfl rfl Pick.head rfl rfl (WO.p rfl rfl ?_)
  refine WO.nil ?_
  refine W.sreg ?_
  refine WO.loadA rfl rfl (Cells.own (Pick.tail (Pick.tail (Pick.tail (Pick.tail (Pick.tail (Pick.tail (Pick.head)))))))) rfl rfl (WO.p rfl rfl ?_)
  refine WO.call rfl Try.call13 (fun L w' hi => prf_to hF.pa (c_Proof w' n _ u (rv ++ [u]) (rows ++ [a]) a (rdr_more hB hA (by repeat (first | exact Pick.head | apply Pick.tail)) hi) (hA.later hi))) rfl ?_
  rintro _ _ ⟨x7, x8, rfl, rfl⟩
  refine WO.p rfl rfl (WO.p rfl rfl (WO.p rfl rfl ?_))
  refine WO.alloc rfl rfl rfl (fun b6 hb6 => ?_)
  refine WO.storeA rfl rfl rfl rfl Pick.head rfl rfl (WO.p rfl rfl ?_)
  refine WO.nil ?_
  refine W.seq ?_
  refine W.sreg ?_
  refine WO.p rfl rfl ?_
  refine WO.neqF rfl rfl (by omega) rfl ?_
  refine WO.p rfl rfl (WO.pg rfl rfl rfl (WO.go' rfl ?_))
  refine WO.neqF rfl rfl (by omega) rfl ?_
  refine WO.p rfl rfl (WO.p rfl rfl (WO.pg rfl rfl rfl (WO.go' rfl ?_)))
  refine WO.neqF rfl rfl (by omega) rfl ?_
  refine WO.p rfl rfl (WO.p rfl rfl (WO.pg rfl rfl rfl (WO.go' rfl ?_)))
  refine WO.neqT rfl rfl (by omega) rfl ?_
  refine WO.pg rfl rfl rfl (WO.pg rfl rfl rfl (WO.go' rfl ?_))
  refine WO.neqF rfl rfl (by omega) rfl ?_
  refine WO.pg rfl rfl rfl (WO.p rfl rfl (WO.p rfl rfl (WO.pg rfl rfl rfl (WO.go' rfl ?_))))
  refine WO.neqT rfl rfl (by omega) rfl ?_
  refine WO.pg rfl rfl rfl (WO.pg rfl rfl rfl (WO.go' rfl ?_))
  refine WO.neqF rfl rfl (by omega) rfl ?_
  refine WO.pg rfl rfl rfl (WO.p rfl rfl (WO.p rfl rfl (WO.pg rfl rfl rfl (WO.go' rfl ?_))))
  refine WO.neqT rfl rfl (by omega) rfl ?_
  refine WO.pg rfl rfl rfl (WO.pg rfl rfl rfl (WO.go' rfl ?_))
  refine WO.neqF rfl rfl (by omega) rfl ?_
  refine WO.pg rfl rfl rfl (WO.p rfl rfl (WO.p rfl rfl (WO.pg rfl rfl rfl (WO.go' rfl ?_))))
  refine WO.eqlF rfl rfl (by omega) rfl ?_
  refine WO.pg rfl rfl rfl (WO.no rfl rfl (WO.no rfl rfl (WO.pg rfl rfl rfl (WO.p rfl rfl ?_))))
  refine WO.nil ?_
  refine W.cond_f rfl ?_
  refine W.skip ?_
  refine W.seq ?_
  refine W.sreg ?_
  refine WO.p rfl rfl ?_
  refine WO.eqlF rfl rfl (by omega) rfl ?_
  refine WO.p rfl rfl (WO.no rfl rfl (WO.no rfl rfl (WO.no rfl rfl (WO.p rfl rfl (WO.p rfl rfl (WO.pg rfl rfl rfl (WO.go' rfl ?_)))))))
  refine WO.neqT rfl rfl (by omega) rfl ?_
  refine WO.pg rfl rfl rfl (WO.pg rfl rfl rfl (WO.pg rfl rfl rfl (WO.go' rfl (WO.ar rfl rfl rfl (by (first | (unfold in64; omega) | (have := hB.sl.le; have := chkB0.1 hF.b0; have := this.2.1; unfold in64; omega))) rfl (WO.go' rfl ?_)))))
  refine WO.neqF rfl rfl (by omega) rfl ?_
  refine WO.pg rfl rfl rfl (WO.p rfl rfl (WO.p rfl rfl (WO.pg rfl rfl rfl (WO.go' rfl ?_))))
  refine WO.lssF rfl rfl (by omega) rfl ?_
  refine WO.p rfl rfl (WO.p rfl rfl (WO.pg rfl rfl rfl (WO.go' rfl (WO.field0 rfl rfl rfl (WO.go' rfl (WO.load rfl rfl (Cell.own (Pick.tail (Pick.tail (Pick.tail (Pick.tail (Pick.tail (Pick.tail (Pick.tail (Pick.tail (Pick.tail (Pick.tail (Pick.head))))))))))) rfl) rfl (WO.go' rfl ?_)))))))
  refine WO.gtrF rfl rfl (by omega) rfl ?_
  refine WO.p rfl rfl ?_
  refine WO.nil ?_
  refine W.cond_f rfl ?_
  refine W.skip ?_
  refine W.sreg ?_
  refine WO.loadA rfl rfl (Cells.own (Pick.tail (Pick.tail (Pick.tail (Pick.tail (Pick.tail (Pick.tail (Pick.tail (Pick.tail (Pick.tail (Pick.tail (Pick.head)))))))))))) rfl rfl (WO.p rfl rfl (WO.p rfl rfl ?_))
  refine' WO.buildSl (cs := _) rfl rfl rfl rfl ?hf rfl rfl ?hl rfl (fun v7 => ?_)
  case hf => (conv => lhs; simp [-List.getD_eq_getElem?_getD, fillL, vcl, wrl, TTab.pl?.lget']) <;> rfl
  case hl => rfl
  refine WO.callR (r := .int .i64 0) rfl Try.call18 (fun L w' hi => ret_to (congrArg (Value.int .i64) hma) (c_May w' n v u _ rv [.slice oa y.length oc] rows [y] a (hB.later hi) (hA.later hi) (rdr_one hY (by repeat (first | exact Pick.head | apply Pick.tail)) hi) hc)) rfl ?_
  refine WO.p rfl rfl ?_
  refine WO.nil ?_
  refine W.sreg ?_
  refine WO.p rfl rfl ?_
  refine WO.nil ?_
  refine W.seq ?_
  refine W.sreg ?_
  refine WO.p rfl rfl ?_
  refine WO.neqT rfl rfl (by omega) rfl ?_
  refine WO.p rfl rfl (WO.pg rfl rfl rfl (WO.go' rfl ?_))
  refine WO.eqlF rfl rfl (by omega) rfl ?_
  refine WO.p rfl rfl ?_
  refine WO.nil ?_
  refine W.cond_f rfl ?_
  refine W.skip ?_
  refine W.sreg ?_
  refine WO.p rfl rfl (WO.p rfl rfl ?_)
  refine WO.eqlT rfl rfl (by omega) rfl ?_
  refine WO.p rfl rfl (WO.go' rfl ?_)
  refine WO.callR rfl Try.call8 (fun L w hi => l_Works w) rfl ?_
  refine WO.p rfl rfl (WO.p rfl rfl ?_)
  refine WO.nil ?_
  refine W.ret ?_
  exact fin.ret (Res.one rfl (RV.tmp rfl)) rfl
theorem law_SecretMore (w : World) (n : Int) (v u o : Value) (rv : List Value) (rows : List (List Int)) (a y : List Int) (hB : RdR encI 1 w.heap.size w v rv rows) (hA : RdF encI 1 w.heap.size w u a) (hY : RdF encI 1 w.heap.size w o y) (hc : CapV v rows.length) : Ret Try.prog 5 [bookV n v, u, o].toArray w (.bool true) := by
  by_cases hf : fineP n rows y ∧ fineP n rows a ∧ rows.length < 8
  · obtain ⟨hfy, hfa, h8⟩ := hf
    have hF := more_f hfy.2.1 hfa.2.2 hfy.2.2 h8
    rcases hF.p1 with h1 | h1
    · rcases hF.p23 with ⟨h2, h3⟩ | ⟨h2, h3⟩ | ⟨h2, h3⟩
      · exact more_000 w n v u o rv rows a y hB hA hY hc hfy hfa h8 hF h1 h2 h3
      · exact more_050 w n v u o rv rows a y hB hA hY hc hfy hfa h8 hF h1 h2 h3
      exact more_055 w n v u o rv rows a y hB hA hY hc hfy hfa h8 hF h1 h2 h3
    rcases hF.p23 with ⟨h2, h3⟩ | ⟨h2, h3⟩ | ⟨h2, h3⟩
    · exact more_500 w n v u o rv rows a y hB hA hY hc hfy hfa h8 hF h1 h2 h3
    · exact more_550 w n v u o rv rows a y hB hA hY hc hfy hfa h8 hF h1 h2 h3
    exact more_555 w n v u o rv rows a y hB hA hY hc hfy hfa h8 hF h1 h2 h3
  exact more_no w n v u o rv rows a y hB hA hY hf
end Go.Proofs.Ytelmclmklkiphaa
