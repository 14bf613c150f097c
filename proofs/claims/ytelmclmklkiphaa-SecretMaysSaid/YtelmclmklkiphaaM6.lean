/-
  What is proved here: lists less others, by the document's answer. Conditions: none; each contract states its own.
  What is proved here: lists less others, by the document's answer. Conditions: none; each contract states its own.
  What is proved here: lists that begin at different places, and what can be computed, by the document's answer. Conditions: none; each contract states its own.
  What is proved here: determinants, and rows of which none is a combination of the others. Conditions: none; plain facts.
  What is proved here: how rows are taken away from one another, and that numbers stay small. Conditions: none; plain facts.
  What is proved here: the table of a book, in plain words. Conditions: none; plain facts.
  What is proved here: the document's lists, in plain words. Conditions: none; plain facts.
-/
import Derived.Test.YtelmclmklkiphaaM5
import Derived.Test.YtelmclmklkiphaaM3
set_option linter.unusedVariables false
set_option linter.unusedSimpArgs false
namespace Go.Proofs.Ytelmclmklkiphaa
open Go Go.TH
attribute [local irreducible] W WO pt
set_option maxRecDepth 10000
set_option maxHeartbeats 1000000
/-- the first numbers of F as a list -/
def lsF (F : Nat → Int) (n : Nat) : List Int := (List.range n).map F
theorem lsF_len (F : Nat → Int) (n : Nat) : (lsF F n).length = n := by simp [lsF]
theorem lsF_get? {F : Nat → Int} {n k : Nat} (h : k < n) : (lsF F n)[k]? = some (F k) := by simp [lsF, h]
theorem lsF_at {F : Nat → Int} {n k : Nat} (h : k < n) : (lsF F n).getD k 0 = F k := by
  rw [List.getD_eq_getElem?_getD, lsF_get? h]; rfl
theorem lsF_cg {F G : Nat → Int} {n : Nat} (h : ∀ k, k < n → F k = G k) : lsF F n = lsF G n := List.map_congr_left fun k hk => h k (by simpa using hk)
theorem lsF_fnL {l : List Int} {n : Nat} (h : l.length = n) : lsF (fnL l) n = l := by
  subst h
  refine List.ext_getElem (by simp [lsF]) fun i h1 h2 => ?_
  simp [lsF, fnL, h2]
theorem fnL_lsF {F : Nat → Int} {n k : Nat} (h : k < n) : fnL (lsF F n) k = F k := lsF_at h
theorem lsF_set {F : Nat → Int} {n k : Nat} {v : Int} : (lsF F n).set k v = lsF (updV F k v) n := by
  refine List.ext_getElem (by simp [lsF]) fun i h1 h2 => ?_
  simp only [List.length_set, lsF_len] at h1
  rw [List.getElem_set]
  simp only [lsF, List.getElem_map, List.getElem_range, updV]
  by_cases e : i = k
  · rw [if_pos e.symm, if_pos e]
  rw [if_neg (fun q => e q.symm), if_neg e]
theorem fst_cg {X Y : Nat → Int} {n : Nat} (h : ∀ k, k < n → X k = Y k) : fst X n = fst Y n := by
  rcases fst_spec Y n with ⟨e, h0⟩ | ⟨h1, h2, h3⟩
  · rw [e]; exact fst_none fun j hj => by rw [h j hj]; exact h0 j hj
  exact fst_hit h1 (fun j hj => by rw [h j (by omega)]; exact h3 j hj) (by rw [h _ h1]; exact h2)
theorem fst_ls {F : Nat → Int} {n p : Nat} (hp : p ≤ n) : fst (fnL (lsF F n)) p = fst F p := fst_cg fun k hk => fnL_lsF (by omega)
def PL (i k : Nat) : Prop := k < i
instance (i : Nat) : DecidablePred (PL i) := fun k => by unfold PL; infer_instance
theorem flL_0 (F X : Nat → Int) (n : Nat) : lsF X n = lsF (flF F X (PL 0)) n := lsF_cg fun k _ => by unfold flF; rw [if_neg (by unfold PL; omega)]
theorem flL_set {F X : Nat → Int} {n i : Nat} : (lsF (flF F X (PL i)) n).set i (F i) = lsF (flF F X (PL (i + 1))) n := by
  rw [lsF_set]
  refine lsF_cg fun j hj => ?_
  unfold updV flF
  by_cases g : j = i
  · subst g; rw [if_pos rfl, if_pos (by unfold PL; omega)]
  rw [if_neg g]
  by_cases hp : PL i j
  · rw [if_pos hp, if_pos (by unfold PL at *; omega)]
  rw [if_neg hp, if_neg (by unfold PL at *; omega)]
theorem flL_end (F X : Nat → Int) (n : Nat) : lsF (flF F X (PL n)) n = lsF F n := lsF_cg fun k hk => by unfold flF; rw [if_pos (show PL n k from hk)]
theorem flL_at {F X : Nat → Int} {i : Nat} : flF F X (PL i) i = X i := if_neg (by unfold PL; omega)
theorem small_end {X : Nat → Int} {n i : Nat} (h1 : i = n ∨ gcdF X n < 2) (h2 : gcdF X n < 2 → i = 0) : lsF (flF (fun k => (X k).tdiv (gcdF X n : Nat)) X (PL i)) n = lsF (primF X n) n := by
  unfold primF
  by_cases g : gcdF X n < 2
  · rw [if_pos g, h2 g, ← flL_0]
  rw [if_neg g, h1.resolve_right g, flL_end]
section
variable {P : Program} {C : Cx P} {H H' : List HP}
theorem OwE.cellL {e n k : Nat} {v : Value} {F : Nat → Int} (p : Pick (OwE encI e 1 v (lsF F n)) H H') {u : Value} (hk : k < n) (hu : Value.int .i64 (F k) = u) : Cell C H (elt v k 1) u := by
  subst hu
  have := OwE.cell0 (C := C) encI_ok p (i := k) (by rw [lsF_len]; exact hk) 0 (u := .int .i64 (F k)) (by rw [lsF_at hk]; rfl)
  exact this
theorem RdF.cellL {n k : Nat} {v : Value} {F : Nat → Int} (h : RdF encI 1 C.B C.w0 v (lsF F n)) {u : Value} (hk : k < n) (hu : Value.int .i64 (F k) = u) : Cell C H (elt v k 1) u := by
  subst hu
  have := h.cell0 (H := H) (i := k) (by rw [lsF_len]; exact hk) 0 (u := .int .i64 (F k)) (by rw [lsF_at hk]; rfl)
  exact this
theorem RdF.slL {n B : Nat} {w : World} {v : Value} {F : Nat → Int} (h : RdF encI 1 B w v (lsF F n)) : IsSl v n := by have := h.sl; rwa [lsF_len] at this
end
theorem ref_small (w : World) (o : Value) (n : Nat) (X : Nat → Int) (hR : RdF encI 1 w.heap.size w o (lsF X n)) (h0 : 0 < n) (hn : n ≤ 10) (hX : ∀ k, k < n → -4611686018427387904 ≤ X k ∧ X k ≤ 4611686018427387904) :
    Ct Try.prog 60 [o].toArray w fun r w' => ∃ Hq, (∃ x : Value, r = x ∧ Hq = [OwE encI 2 1 x (lsF (primF X n) n)]) ∧ TH.Inv w [] Hq w' := by
  refine Ct.ofI (X := Value) (p := fun x r => r = x) (Hx := fun x => [OwE encI 2 1 x (lsF (primF X n) n)]) mixed tyTab Try.func60 rfl rfl ?_
  replace hR : RdF encI 1 (fnCx mixed tyTab Try.f60.ntmps w).B (fnCx mixed tyTab Try.f60.ntmps w).w0 o (lsF X n) := hR
  have hlen := lsF_len X n
  have hsl := RdF.slL hR
  refine W.sreg ?_
  refine WO.p rfl rfl ?_
  refine WO.nil ?_
  refine W.sreg ?_
  refine WO.p rfl rfl ?_
  refine WO.nil ?_
  refine W.seq ?_
  refine W.sreg ?_
  refine WO.p rfl rfl ?_
  refine WO.nil ?_
  refine W.block ?_
  refine W.loop (fun (i : Nat) => i ≤ n)
    (fun (i : Nat) => [(0, o), (3, .int .i64 (gcdF X i : Nat)), (4, .int .i64 (i : Int))])
    (fun (i : Nat) => [])
    (fun (i : Nat) => n - i) 0
    (by omega) ⟨rfl, rfl, rfl, trivial⟩ (by repeat (first | exact Sub.nil | refine Sub.cons (by repeat (first | exact Pick.head | apply Pick.tail)) ?_)) ?_
  rintro i hi
  refine W.seq ?_
  refine W.sreg ?_
  refine WO.p rfl rfl (WO.p rfl rfl ?_)
  refine' WO.len (n := _) rfl rfl ?hs rfl ?_
  case hs => (first | exact hsl)
  refine WO.p rfl rfl ?_
  refine WO.nil ?_
  refine W.cond_bl rfl (fun c1 => ?_) (fun c1 => ?_)
  · first
    | (exfalso; omega)
    | (refine W.skip ?_
       refine W.seq ?_
       refine W.block ?_
       have hxi := hX i (by omega)
       refine W.drawD 11 [.r 0 [], .r 1 [], .r 2 [], .r 3 [], .b 4 [], .r 5 [], .r 6 [], .r 7 [], .b 8 [], .r 9 [], .r 10 []] [] (A0 := []) (Sub.refl _) (by kernel_rfl) ?_ ?_
       · exact (ALok.r (ALok.r (ALok.r (ALok.r (ALok.b (ALok.r (ALok.r (ALok.r (ALok.b (ALok.r (ALok.r ALok.nil)))))))))))
       refine' DT.r rfl rfl rfl ?hq ?_
       case hq =>
         refine WO.p rfl rfl ?_
         exact WO.nil ⟨rfl, rfl⟩
       refine' DT.r rfl rfl rfl ?hq ?_
       case hq =>
         refine WO.p rfl rfl ?_
         exact WO.nil ⟨rfl, rfl⟩
       refine' DT.r rfl rfl rfl ?hq ?_
       case hq =>
         refine WO.p rfl rfl ?_
         exact WO.nil ⟨rfl, rfl⟩
       refine' DT.r rfl rfl rfl ?hq ?_
       case hq =>
         refine' WO.indexAddr (n := _) (i := _) rfl rfl rfl ?hs ?h1 rfl ?_
         case hs => (first | exact hsl)
         case h1 => (first | omega | (simp; omega))
         exact WO.nil ⟨rfl, rfl⟩
       refine' DT.b rfl rfl rfl ?hq ?_
       case hq =>
         refine' WO.load (v := _) rfl rfl ?hc rfl ?_
         case hc => (first | (refine RdF.cellL hR (k := i) ?_ ?_; omega; rfl))
         exact WO.nil ⟨rfl, rfl⟩
       refine' DT.r rfl rfl rfl ?hq ?_
       case hq =>
         refine WO.p rfl rfl ?_
         exact WO.nil ⟨rfl, rfl⟩
       refine' DT.r rfl rfl rfl ?hq ?_
       case hq =>
         refine WO.p rfl rfl ?_
         exact WO.nil ⟨rfl, rfl⟩
       refine' DT.r rfl rfl rfl ?hq ?_
       case hq =>
         refine' WO.indexAddr (n := _) (i := _) rfl rfl rfl ?hs ?h1 rfl ?_
         case hs => (first | exact hsl)
         case h1 => (first | omega | (simp; omega))
         exact WO.nil ⟨rfl, rfl⟩
       refine' DT.b rfl rfl rfl ?hq ?_
       case hq =>
         refine' WO.load (v := _) rfl rfl ?hc rfl ?_
         case hc => (first | (refine RdF.cellL hR (k := i) ?_ ?_; omega; rfl))
         exact WO.nil ⟨rfl, rfl⟩
       refine' DT.r rfl rfl rfl ?hq ?_
       case hq =>
         refine WO.neg rfl (by (first | (unfold in64; omega) | (unfold in64; omega))) rfl ?_
         exact WO.nil ⟨rfl, rfl⟩
       refine' DT.r rfl rfl rfl ?hq ?_
       case hq =>
         refine WO.max2 rfl rfl rfl ?_
         rw [max_abs]
         exact WO.nil ⟨rfl, rfl⟩
       refine DT.nil [] rfl ?_
       refine WO.callR rfl Try.call61 (fun L w' hi => ref_gcd w' (gcdF X i) (X i).natAbs) rfl ?_
       refine WO.p rfl rfl ?_
       refine WO.nil ?_
       refine W.region ?_
       refine WO.p rfl rfl (WO.ar rfl rfl rfl (by (first | (unfold in64; omega) | (unfold in64; omega))) rfl (WO.p rfl rfl ?_))
       refine WO.nil ?_
       refine' ⟨i + 1, ?hp, ?hmu, ⟨rfl, rfl, rfl, trivial⟩, ?hS⟩
       case hS => repeat (first | exact Sub.nil | refine Sub.cons (by repeat (first | exact Pick.head | apply Pick.tail)) ?_)
       case hp => omega
       case hmu => omega)
  first
  | (exfalso; omega)
  | (refine W.exit (blk_same ?_)
     obtain rfl : i = n := by omega
     refine W.sreg ?_
     refine WO.buildSl0 rfl rfl (fun e0 => ?_)
     refine WO.p rfl rfl ?_
     refine WO.appendEZ (enc := encI) (m := i) (xs := []) (ys := lsF X i) encI_ok rfl rfl rfl rfl rfl Pick.head (RdF.slL hR) hlen (hR.flat encI_ok) (by simp only [List.length_nil]; omega) (by simp only [List.length_nil]; omega) rfl (fun v1 => ?_)
     rw [List.nil_append, flL_0 (fun k => (X k).tdiv (gcdF X i : Nat)) X i]
     refine WO.fact (OwE.sl (enc := encI) (e := 2) (sz := 1) (v := v1) Pick.head) (fun hv1 => ?_)
     rw [lsF_len] at hv1
     refine WO.p rfl rfl ?_
     refine WO.nil ?_
     refine W.seq ?_
     refine W.sreg ?_
     refine WO.p rfl rfl ?_
     refine WO.nil ?_
     refine W.block ?_
     refine W.loop (fun (j : Nat) => j ≤ i ∧ (gcdF X i < 2 → j = 0))
       (fun (j : Nat) => [(3, .int .i64 (gcdF X i : Nat)), (5, v1), (6, .int .i64 (j : Int))])
       (fun (j : Nat) => [OwE encI 2 1 v1 (lsF (flF (fun k => (X k).tdiv (gcdF X i : Nat)) X (PL j)) i)])
       (fun (j : Nat) => i - j) 0
       (by exact ⟨by omega, fun _ => rfl⟩) ⟨rfl, rfl, rfl, trivial⟩ (by repeat (first | exact Sub.nil | refine Sub.cons (by repeat (first | exact Pick.head | apply Pick.tail)) ?_)) ?_
     rintro j ⟨hj, hj0⟩
     refine W.seq ?_
     refine W.sreg ?_
     refine WO.p rfl rfl (WO.p rfl rfl ?_)
     refine' WO.len (n := _) rfl rfl ?hs rfl ?_
     case hs => (first | exact hv1)
     refine WO.p rfl rfl (WO.p rfl rfl ?_)
     refine WO.guard_bl rfl rfl (fun c2 => ?_) (fun c2 => ?_)
     · first
       | (exfalso; omega)
       | (refine WO.pg rfl rfl rfl (WO.pg rfl rfl rfl (WO.p rfl rfl ?_))
          refine WO.nil ?_
          refine W.cond_bl rfl (fun c3 => ?_) (fun c3 => ?_)
          · first
            | (exfalso; omega)
            | (refine W.skip ?_
               refine W.seq ?_
               refine W.block ?_
               refine W.region ?_
               refine WO.p rfl rfl (WO.p rfl rfl (WO.p rfl rfl (WO.p rfl rfl ?_)))
               refine' WO.indexAddr (n := _) (i := _) rfl rfl rfl ?hs ?h1 rfl ?_
               case hs => (first | exact hv1)
               case h1 => (first | omega | (simp; omega))
               refine' WO.load (v := _) rfl rfl ?hc rfl ?_
               case hc => (first | (refine OwE.cellL (k := j) (by repeat (first | exact Pick.head | apply Pick.tail)) ?_ ?_; omega; rfl))
               refine WO.p rfl rfl (WO.quo rfl rfl (by first | omega | assumption) (by (first | (rw [flL_at]; exact (fun h => by unfold in64; omega) (tdiv_bd (g := gcdF X i) (by omega) (hX j (by omega)))))) rfl ?_)
               refine' WO.indexAddr (n := _) (i := _) rfl rfl rfl ?hs ?h1 rfl ?_
               case hs => (first | exact hv1)
               case h1 => (first | omega | (simp; omega))
               refine WO.storeE (n := (X j).tdiv (gcdF X i : Nat)) (i := j) encI_ok rfl rfl (by rw [flL_at]; rfl) rfl (by repeat (first | exact Pick.head | apply Pick.tail)) (by rw [lsF_len]; omega) ?_
               rw [flL_set (F := fun k => (X k).tdiv (gcdF X i : Nat)) (X := X) (n := i) (i := j)]
               refine WO.nil ?_
               refine W.region ?_
               refine WO.p rfl rfl (WO.ar rfl rfl rfl (by (first | (unfold in64; omega) | (unfold in64; omega))) rfl (WO.p rfl rfl ?_))
               refine WO.nil ?_
               refine' ⟨j + 1, ?hp, ?hmu, ⟨rfl, rfl, rfl, trivial⟩, ?hS⟩
               case hS => repeat (first | exact Sub.nil | refine Sub.cons (by repeat (first | exact Pick.head | apply Pick.tail)) ?_)
               case hp => exact ⟨by omega, fun h => by omega⟩
               case hmu => omega)
          first
          | (exfalso; omega)
          | (refine W.exit (blk_same ?_)
             have hend := small_end (X := X) (n := i) (i := j) (by omega) hj0
             rw [hend]
             refine W.sreg ?_
             refine WO.p rfl rfl (WO.p rfl rfl ?_)
             refine WO.nil ?_
             refine W.ret ?_
             exact fin.ret (Res.one rfl (RV.tmp rfl)) ⟨v1, rfl, fun h hs => Sub.sat (by repeat (first | exact Sub.nil | refine Sub.cons (by repeat (first | exact Pick.head | apply Pick.tail)) ?_)) hs⟩))
     first
     | (exfalso; omega)
     | (refine WO.no rfl rfl (WO.no rfl rfl (WO.p rfl rfl ?_))
        refine WO.nil ?_
        refine W.cond_f rfl ?_
        refine W.exit (blk_same ?_)
        have hend := small_end (X := X) (n := i) (i := j) (by omega) hj0
        rw [hend]
        refine W.sreg ?_
        refine WO.p rfl rfl (WO.p rfl rfl ?_)
        refine WO.nil ?_
        refine W.ret ?_
        exact fin.ret (Res.one rfl (RV.tmp rfl)) ⟨v1, rfl, fun h hs => Sub.sat (by repeat (first | exact Sub.nil | refine Sub.cons (by repeat (first | exact Pick.head | apply Pick.tail)) ?_)) hs⟩))
end Go.Proofs.Ytelmclmklkiphaa
namespace Go.Proofs.Ytelmclmklkiphaa
open Go Go.TH
attribute [local irreducible] W WO pt
set_option maxRecDepth 10000
set_option maxHeartbeats 1000000
/-- one list after the other is taken away -/
def lessR (n pl : Nat) (Ls : List (Nat → Int)) (X : Nat → Int) : Nat → Nat → Int
  | 0 => X
  | i + 1 => elimF n (Ls.getD i fun _ => 0) (fst (Ls.getD i fun _ => 0) pl) (lessR n pl Ls X i)
def BdN (n : Nat) (X : Nat → Int) : Prop := ∀ k, k < n → -268435456 ≤ X k ∧ X k ≤ 268435456
def rowsF (n : Nat) (Ls : List (Nat → Int)) : List (List Int) := Ls.map fun F => lsF F n
theorem rowsF_at {n : Nat} {Ls : List (Nat → Int)} {i : Nat} (h : i < Ls.length) : (rowsF n Ls).getD i [] = lsF (Ls.getD i fun _ => 0) n := by
  unfold rowsF
  rw [List.getD_eq_getElem?_getD, List.getElem?_map, List.getD_eq_getElem?_getD, List.getElem?_eq_getElem h]
  rfl
theorem rowsF_len (n : Nat) (Ls : List (Nat → Int)) : (rowsF n Ls).length = Ls.length := by simp [rowsF]
theorem linR (a b x y : Int) : x * a - y * b = a * x + -b * y := by rw [Int.neg_mul, Int.mul_comm x a, Int.mul_comm y b]; omega
theorem lin_in2 {a b x y : Int} (ha : -268435456 ≤ a ∧ a ≤ 268435456) (hb : -268435456 ≤ b ∧ b ≤ 268435456) (hx : -268435456 ≤ x ∧ x ≤ 268435456) (hy : -268435456 ≤ y ∧ y ≤ 268435456) : in64 (x * a) ∧ in64 (y * b) ∧ in64 (x * a - y * b) := by
  have h1 := mul_bd hx ha
  have h2 := mul_bd hy hb
  unfold in64
  omega
theorem lin_WN {n : Nat} {a b : Int} {X Y : Nat → Int} (ha : -268435456 ≤ a ∧ a ≤ 268435456) (hb : -268435456 ≤ b ∧ b ≤ 268435456) (hX : BdN n X) (hY : BdN n Y) : ∀ k, k < n → -4611686018427387904 ≤ linX a X b Y k ∧ linX a X b Y k ≤ 4611686018427387904 := fun k hk => by
  have h1 := mul_bd ha (hX k hk)
  have h2 := mul_bd hb (hY k hk)
  unfold linX
  omega
theorem ref_less (w : World) (ov ou : Value) (rv : List Value) (n pl : Nat) (Ls : List (Nat → Int)) (X : Nat → Int) (hL : RdR encI 1 w.heap.size w ov rv (rowsF n Ls)) (hR : RdF encI 1 w.heap.size w ou (lsF X n)) (h0 : 0 < n) (hn : n ≤ 10) (hpl : pl ≤ n) (hf : ∀ i, i < Ls.length → fst (Ls.getD i fun _ => 0) pl < pl) (hbd : ∀ i, i ≤ Ls.length → BdN n (lessR n pl Ls X i)) (hbL : ∀ i, i < Ls.length → BdN n (Ls.getD i fun _ => 0)) (h10 : Ls.length ≤ 1000) :
    Ct Try.prog 56 [ov, ou, .int .i64 (pl : Int)].toArray w fun r w' => ∃ Hq, (∃ x : Value, r = x ∧ Hq = [OwE encI 2 1 x (lsF (lessR n pl Ls X Ls.length) n)]) ∧ TH.Inv w [] Hq w' := by
  refine Ct.ofI (X := Value) (p := fun x r => r = x) (Hx := fun x => [OwE encI 2 1 x (lsF (lessR n pl Ls X Ls.length) n)]) mixed tyTab Try.func56 rfl rfl ?_
  replace hL : RdR encI 1 (fnCx mixed tyTab Try.f56.ntmps w).B (fnCx mixed tyTab Try.f56.ntmps w).w0 ov rv (rowsF n Ls) := hL
  replace hR : RdF encI 1 (fnCx mixed tyTab Try.f56.ntmps w).B (fnCx mixed tyTab Try.f56.ntmps w).w0 ou (lsF X n) := hR
  have hlen := lsF_len X n
  have hrl := rowsF_len n Ls
  have hsl := RdF.slL hR
  have hsL := hL.sl
  rw [hrl] at hsL
  refine W.sreg ?_
  refine WO.p rfl rfl ?_
  refine WO.nil ?_
  refine W.sreg ?_
  refine WO.buildSl0 rfl rfl (fun e0 => ?_)
  refine WO.p rfl rfl ?_
  refine WO.appendEZ (enc := encI) (m := n) (xs := []) (ys := lsF X n) encI_ok rfl rfl rfl rfl rfl Pick.head hsl hlen (hR.flat encI_ok) (by simp only [List.length_nil]; omega) (by simp only [List.length_nil]; omega) rfl (fun v1 => ?_)
  rw [List.nil_append]
  refine WO.fact (OwE.sl (enc := encI) (e := 2) (sz := 1) (v := v1) Pick.head) (fun hv1 => ?_)
  rw [lsF_len] at hv1
  refine WO.p rfl rfl ?_
  refine WO.nil ?_
  refine W.seq ?_
  refine W.sreg ?_
  refine WO.p rfl rfl ?_
  refine WO.nil ?_
  refine W.block ?_
  refine W.loop2 (fun (i : Nat) (y : Value) => i ≤ Ls.length ∧ IsSl y n)
    (fun (i : Nat) (y : Value) => [(0, ov), (2, .int .i64 (pl : Int)), (7, y), (8, .int .i64 (i : Int))])
    (fun (i : Nat) (y : Value) => [OwE encI 2 1 y (lsF (lessR n pl Ls X i) n)])
    (fun (i : Nat) (y : Value) => Ls.length - i) 0 v1
    (by exact ⟨by omega, hv1⟩) ⟨rfl, rfl, rfl, rfl, trivial⟩ (by repeat (first | exact Sub.nil | refine Sub.cons (by repeat (first | exact Pick.head | apply Pick.tail)) ?_)) ?_
  rintro i y ⟨hi, hy⟩
  refine W.seq ?_
  refine W.sreg ?_
  refine WO.p rfl rfl (WO.p rfl rfl ?_)
  refine' WO.len (n := _) rfl rfl ?hs rfl ?_
  case hs => (first | exact hsL)
  refine WO.p rfl rfl ?_
  refine WO.nil ?_
  refine W.cond_bl rfl (fun c1 => ?_) (fun c1 => ?_)
  · first
    | (exfalso; omega)
    | (refine W.skip ?_
       refine W.seq ?_
       refine W.block ?_
       have hri := rowsF_at (n := n) (Ls := Ls) (i := i) (by omega)
       have hrow : RdF encI 1 _ _ (rv.getD i undef) (lsF (Ls.getD i fun _ => 0) n) := hri ▸ hL.row i (by omega)
       have hsr := RdF.slL hrow
       have hfi := hf i (by omega)
       have hbi := hbd i (by omega)
       have hli := hbL i (by omega)
       refine W.sreg ?_
       refine WO.p rfl rfl (WO.p rfl rfl ?_)
       refine' WO.indexAddr (n := _) (i := _) rfl rfl rfl ?hs ?h1 rfl ?_
       case hs => (first | exact hsL)
       case h1 => (first | omega | (simp; omega))
       refine' WO.load (v := _) rfl rfl ?hc rfl ?_
       case hc => (first | (refine hL.cellV (i := i) ?_; omega))
       refine WO.p rfl rfl ?_
       refine WO.callR (r := .int .i64 (fst (Ls.getD i fun _ => 0) pl : Nat)) rfl Try.call55 (fun L w' hi' => by rw [← fst_ls (F := Ls.getD i fun _ => 0) hpl]; exact ref_first w' _ _ pl (hrow.later hi') (by rw [lsF_len]; omega)) rfl ?_
       refine WO.p rfl rfl ?_
       refine WO.nil ?_
       refine W.seq ?_
       refine W.sreg ?_
       refine WO.p rfl rfl (WO.p rfl rfl ?_)
       refine' WO.indexAddr (n := _) (i := _) rfl rfl rfl ?hs ?h1 rfl ?_
       case hs => (first | exact hy)
       case h1 => (first | omega | (simp; omega))
       refine' WO.load (v := _) rfl rfl ?hc rfl ?_
       case hc => (first | (refine OwE.cellL (k := fst (Ls.getD i fun _ => 0) pl) (by repeat (first | exact Pick.head | apply Pick.tail)) ?_ ?_; omega; rfl))
       refine WO.p rfl rfl ?_
       refine WO.nil ?_
       refine W.cond_bl rfl (fun c2 => ?_) (fun c2 => ?_)
       · first
         | (exfalso; omega)
         | (refine W.exit (blk_same ?_)
            first | (rw [show lessR n pl Ls X i = lessR n pl Ls X (i + 1) from (elimF_0 (show lessR n pl Ls X i (fst (Ls.getD i fun _ => 0) pl) = 0 by assumption)).symm]) | skip
            refine W.region ?_
            refine WO.p rfl rfl (WO.ar rfl rfl rfl (by (first | (unfold in64; omega) | (unfold in64; omega))) rfl (WO.p rfl rfl ?_))
            refine WO.nil ?_
            refine' ⟨i + 1, _, ?hp, ?hmu, ⟨rfl, rfl, rfl, rfl, trivial⟩, ?hS⟩
            case hS => repeat (first | exact Sub.nil | refine Sub.cons (by repeat (first | exact Pick.head | apply Pick.tail)) ?_)
            case hp => exact ⟨by omega, by assumption⟩
            case hmu => omega)
       first
       | (exfalso; omega)
       | (refine W.skip ?_
          refine W.seq ?_
          refine W.drawD 12 [.r 0 [], .r 1 [], .r 2 [], .b 3 [], .r 4 [], .r 5 [], .b 6 [], .r 7 [], .r 8 [], .r 9 [], .b 10 [], .r 11 []] [] (A0 := []) (Sub.refl _) (by kernel_rfl) ?_ ?_
          · exact (ALok.r (ALok.r (ALok.r (ALok.b (ALok.r (ALok.r (ALok.b (ALok.r (ALok.r (ALok.r (ALok.b (ALok.r ALok.nil))))))))))))
          refine' DT.r rfl rfl rfl ?hq ?_
          case hq =>
            refine WO.p rfl rfl ?_
            exact WO.nil ⟨rfl, rfl⟩
          refine' DT.r rfl rfl rfl ?hq ?_
          case hq =>
            refine WO.p rfl rfl ?_
            exact WO.nil ⟨rfl, rfl⟩
          refine' DT.r rfl rfl rfl ?hq ?_
          case hq =>
            refine' WO.indexAddr (n := _) (i := _) rfl rfl rfl ?hs ?h1 rfl ?_
            case hs => (first | exact hsL)
            case h1 => (first | omega | (simp; omega))
            exact WO.nil ⟨rfl, rfl⟩
          refine' DT.b rfl rfl rfl ?hq ?_
          case hq =>
            refine' WO.load (v := _) rfl rfl ?hc rfl ?_
            case hc => (first | (refine hL.cellV (i := i) ?_; omega))
            exact WO.nil ⟨rfl, rfl⟩
          refine' DT.r rfl rfl rfl ?hq ?_
          case hq =>
            refine WO.p rfl rfl ?_
            exact WO.nil ⟨rfl, rfl⟩
          refine' DT.r rfl rfl rfl ?hq ?_
          case hq =>
            refine' WO.indexAddr (n := _) (i := _) rfl rfl rfl ?hs ?h1 rfl ?_
            case hs => (first | exact hsr)
            case h1 => (first | omega | (simp; omega))
            exact WO.nil ⟨rfl, rfl⟩
          refine' DT.b rfl rfl rfl ?hq ?_
          case hq =>
            refine' WO.load (v := _) rfl rfl ?hc rfl ?_
            case hc => (first | (refine RdF.cellL hrow (k := fst (Ls.getD i fun _ => 0) pl) ?_ ?_; omega; rfl))
            exact WO.nil ⟨rfl, rfl⟩
          refine' DT.r rfl rfl rfl ?hq ?_
          case hq =>
            refine WO.p rfl rfl ?_
            exact WO.nil ⟨rfl, rfl⟩
          refine' DT.r rfl rfl rfl ?hq ?_
          case hq =>
            refine WO.p rfl rfl ?_
            exact WO.nil ⟨rfl, rfl⟩
          refine' DT.r rfl rfl rfl ?hq ?_
          case hq =>
            refine' WO.indexAddr (n := _) (i := _) rfl rfl rfl ?hs ?h1 rfl ?_
            case hs => (first | exact hy)
            case h1 => (first | omega | (simp; omega))
            exact WO.nil ⟨rfl, rfl⟩
          refine' DT.b rfl rfl rfl ?hq ?_
          case hq =>
            refine' WO.load (v := _) rfl rfl ?hc rfl ?_
            case hc => (first | (refine OwE.cellL (k := fst (Ls.getD i fun _ => 0) pl) (by repeat (first | exact Pick.head | apply Pick.tail)) ?_ ?_; omega; rfl))
            exact WO.nil ⟨rfl, rfl⟩
          refine' DT.r rfl rfl rfl ?hq ?_
          case hq =>
            refine WO.p rfl rfl ?_
            exact WO.nil ⟨rfl, rfl⟩
          refine DT.nil [_] rfl ?_
          refine WO.p rfl rfl ?_
          refine WO.nil ?_
          refine W.seq ?_
          rw [flL_0 (linX ((Ls.getD i fun _ => 0) (fst (Ls.getD i fun _ => 0) pl)) (lessR n pl Ls X i) (-(lessR n pl Ls X i (fst (Ls.getD i fun _ => 0) pl))) (Ls.getD i fun _ => 0)) (lessR n pl Ls X i) n]
          refine W.sreg ?_
          refine WO.p rfl rfl ?_
          refine WO.nil ?_
          refine W.block ?_
          refine W.loop (fun (k : Nat) => k ≤ n)
            (fun (k : Nat) => [(0, ov), (2, .int .i64 (pl : Int)), (7, y), (8, .int .i64 (i : Int)), (10, .int .i64 ((Ls.getD i fun _ => 0) (fst (Ls.getD i fun _ => 0) pl))), (11, .int .i64 (lessR n pl Ls X i (fst (Ls.getD i fun _ => 0) pl))), (12, .int .i64 (k : Int))])
            (fun (k : Nat) => [OwE encI 2 1 y (lsF (flF (linX ((Ls.getD i fun _ => 0) (fst (Ls.getD i fun _ => 0) pl)) (lessR n pl Ls X i) (-(lessR n pl Ls X i (fst (Ls.getD i fun _ => 0) pl))) (Ls.getD i fun _ => 0)) (lessR n pl Ls X i) (PL k)) n)])
            (fun (k : Nat) => n - k) 0
            (by omega) ⟨rfl, rfl, rfl, rfl, rfl, rfl, rfl, trivial⟩ (by repeat (first | exact Sub.nil | refine Sub.cons (by repeat (first | exact Pick.head | apply Pick.tail)) ?_)) ?_
          rintro k hk
          refine W.seq ?_
          refine W.sreg ?_
          refine WO.p rfl rfl (WO.p rfl rfl ?_)
          refine' WO.len (n := _) rfl rfl ?hs rfl ?_
          case hs => (first | exact hy)
          refine WO.p rfl rfl ?_
          refine WO.nil ?_
          refine W.cond_bl rfl (fun c3 => ?_) (fun c3 => ?_)
          · first
            | (exfalso; omega)
            | (refine W.skip ?_
               refine W.seq ?_
               refine W.block ?_
               have hin := lin_in2 (hli (fst (Ls.getD i fun _ => 0) pl) (by omega)) (hbi (fst (Ls.getD i fun _ => 0) pl) (by omega)) (hbi k (by omega)) (hli k (by omega))
               refine W.drawD 18 [.r 0 [], .r 1 [], .r 2 [], .r 3 [], .r 4 [], .f 5 [], .r 6 [], .r 7 [], .r 8 [], .r 9 [], .r 10 [], .b 11 [], .r 12 [], .r 13 [], .b 14 [], .r 15 [], .r 16 [], .r 17 []] [] (A0 := [_]) (H0 := []) (.cons .head .nil) (by kernel_rfl) ?_ ?_
               · exact (ALok.r (ALok.r (ALok.r (ALok.r (ALok.r (ALok.f (ALok.r (ALok.r (ALok.r (ALok.r (ALok.r (ALok.b (ALok.r (ALok.r (ALok.b (ALok.r (ALok.r (ALok.r ALok.nil))))))))))))))))))
               refine' DT.r rfl rfl rfl ?hq ?_
               case hq =>
                 refine WO.p rfl rfl ?_
                 exact WO.nil ⟨rfl, rfl⟩
               refine' DT.r rfl rfl rfl ?hq ?_
               case hq =>
                 refine WO.p rfl rfl ?_
                 exact WO.nil ⟨rfl, rfl⟩
               refine' DT.r rfl rfl rfl ?hq ?_
               case hq =>
                 refine WO.p rfl rfl ?_
                 exact WO.nil ⟨rfl, rfl⟩
               refine' DT.r rfl rfl rfl ?hq ?_
               case hq =>
                 refine WO.p rfl rfl ?_
                 exact WO.nil ⟨rfl, rfl⟩
               refine' DT.r rfl rfl rfl ?hq ?_
               case hq =>
                 refine' WO.indexAddr (n := _) (i := _) rfl rfl rfl ?hs ?h1 rfl ?_
                 case hs => (first | exact hy)
                 case h1 => (first | omega | (simp; omega))
                 exact WO.nil ⟨rfl, rfl⟩
               refine' DT.f [_] rfl rfl rfl rfl ?hq ?_
               case hq =>
                 refine' WO.load (v := _) rfl rfl ?hc rfl ?_
                 case hc => (first | (refine OwE.cellL (k := k) (by repeat (first | exact Pick.head | apply Pick.tail)) ?_ ?_; omega; rw [flL_at]))
                 exact WO.nil ⟨rfl, rfl⟩
               refine' DT.r rfl rfl rfl ?hq ?_
               case hq =>
                 refine WO.p rfl rfl ?_
                 exact WO.nil ⟨rfl, rfl⟩
               refine' DT.r rfl rfl rfl ?hq ?_
               case hq =>
                 refine WO.ar rfl rfl rfl (by (first | exact hin.1)) rfl ?_
                 exact WO.nil ⟨rfl, rfl⟩
               refine' DT.r rfl rfl rfl ?hq ?_
               case hq =>
                 refine WO.p rfl rfl ?_
                 exact WO.nil ⟨rfl, rfl⟩
               refine' DT.r rfl rfl rfl ?hq ?_
               case hq =>
                 refine WO.p rfl rfl ?_
                 exact WO.nil ⟨rfl, rfl⟩
               refine' DT.r rfl rfl rfl ?hq ?_
               case hq =>
                 refine' WO.indexAddr (n := _) (i := _) rfl rfl rfl ?hs ?h1 rfl ?_
                 case hs => (first | exact hsL)
                 case h1 => (first | omega | (simp; omega))
                 exact WO.nil ⟨rfl, rfl⟩
               refine' DT.b rfl rfl rfl ?hq ?_
               case hq =>
                 refine' WO.load (v := _) rfl rfl ?hc rfl ?_
                 case hc => (first | (refine hL.cellV (i := i) ?_; omega))
                 exact WO.nil ⟨rfl, rfl⟩
               refine' DT.r rfl rfl rfl ?hq ?_
               case hq =>
                 refine WO.p rfl rfl ?_
                 exact WO.nil ⟨rfl, rfl⟩
               refine' DT.r rfl rfl rfl ?hq ?_
               case hq =>
                 refine' WO.indexAddr (n := _) (i := _) rfl rfl rfl ?hs ?h1 rfl ?_
                 case hs => (first | exact hsr)
                 case h1 => (first | omega | (simp; omega))
                 exact WO.nil ⟨rfl, rfl⟩
               refine' DT.b rfl rfl rfl ?hq ?_
               case hq =>
                 refine' WO.load (v := _) rfl rfl ?hc rfl ?_
                 case hc => (first | (refine RdF.cellL hrow (k := k) ?_ ?_; omega; rfl))
                 exact WO.nil ⟨rfl, rfl⟩
               refine' DT.r rfl rfl rfl ?hq ?_
               case hq =>
                 refine WO.p rfl rfl ?_
                 exact WO.nil ⟨rfl, rfl⟩
               refine' DT.r rfl rfl rfl ?hq ?_
               case hq =>
                 refine WO.ar rfl rfl rfl (by (first | exact hin.2.1)) rfl ?_
                 exact WO.nil ⟨rfl, rfl⟩
               refine' DT.r rfl rfl rfl ?hq ?_
               case hq =>
                 refine WO.ar rfl rfl rfl (by (first | exact hin.2.2)) rfl ?_
                 exact WO.nil ⟨rfl, rfl⟩
               refine DT.nil [_] rfl ?_
               refine' WO.indexAddr (n := _) (i := _) rfl rfl rfl ?hs ?h1 rfl ?_
               case hs => (first | exact hy)
               case h1 => (first | omega | (simp; omega))
               refine WO.storeE (n := linX ((Ls.getD i fun _ => 0) (fst (Ls.getD i fun _ => 0) pl)) (lessR n pl Ls X i) (-(lessR n pl Ls X i (fst (Ls.getD i fun _ => 0) pl))) (Ls.getD i fun _ => 0) k) (i := k) encI_ok rfl rfl (by unfold linX; rw [← linR]; rfl) rfl (by repeat (first | exact Pick.head | apply Pick.tail)) (by rw [lsF_len]; omega) ?_
               rw [flL_set (X := lessR n pl Ls X i) (n := n) (i := k)]
               refine WO.nil ?_
               refine W.region ?_
               refine WO.p rfl rfl (WO.ar rfl rfl rfl (by (first | (unfold in64; omega) | (unfold in64; omega))) rfl (WO.p rfl rfl ?_))
               refine WO.nil ?_
               refine' ⟨k + 1, ?hp, ?hmu, ⟨rfl, rfl, rfl, rfl, rfl, rfl, rfl, trivial⟩, ?hS⟩
               case hS => repeat (first | exact Sub.nil | refine Sub.cons (by repeat (first | exact Pick.head | apply Pick.tail)) ?_)
               case hp => omega
               case hmu => omega)
          first
          | (exfalso; omega)
          | (refine W.exit (blk_same ?_)
             obtain rfl : k = n := by omega
             rw [flL_end]
             have hst : lessR k pl Ls X (i + 1) = primF (linX ((Ls.getD i fun _ => 0) (fst (Ls.getD i fun _ => 0) pl)) (lessR k pl Ls X i) (-(lessR k pl Ls X i (fst (Ls.getD i fun _ => 0) pl))) (Ls.getD i fun _ => 0)) k := elimF_1 (by assumption)
             refine W.region ?_
             refine WO.p rfl rfl ?_
             refine WO.call rfl Try.call60 (fun L w' hi' => ref_small w' y k _ (RdF.of_ow (e := 2) encI_ok (by repeat (first | exact Pick.head | apply Pick.tail)) hi') h0 hn (lin_WN (hli _ (by omega)) (neg_W (hbi _ (by omega))) hbi hli)) rfl ?_
             rintro v2 _ ⟨_, rfl, rfl⟩
             rw [← hst]
             refine WO.fact (OwE.sl (enc := encI) (e := 2) (sz := 1) (v := v2) Pick.head) (fun hv2 => ?_)
             rw [lsF_len] at hv2
             refine WO.p rfl rfl ?_
             refine WO.nil ?_
             first | (rw [show lessR n pl Ls X i = lessR n pl Ls X (i + 1) from (elimF_0 (show lessR n pl Ls X i (fst (Ls.getD i fun _ => 0) pl) = 0 by assumption)).symm]) | skip
             refine W.region ?_
             refine WO.p rfl rfl (WO.ar rfl rfl rfl (by (first | (unfold in64; omega) | (unfold in64; omega))) rfl (WO.p rfl rfl ?_))
             refine WO.nil ?_
             refine' ⟨i + 1, _, ?hp, ?hmu, ⟨rfl, rfl, rfl, rfl, trivial⟩, ?hS⟩
             case hS => repeat (first | exact Sub.nil | refine Sub.cons (by repeat (first | exact Pick.head | apply Pick.tail)) ?_)
             case hp => exact ⟨by omega, by assumption⟩
             case hmu => omega)))
  first
  | (exfalso; omega)
  | (refine W.exit (blk_same ?_)
     refine W.sreg ?_
     refine WO.p rfl rfl (WO.p rfl rfl ?_)
     refine WO.nil ?_
     refine W.ret ?_
     obtain rfl : i = Ls.length := by omega
     exact fin.ret (Res.one rfl (RV.tmp rfl)) ⟨y, rfl, fun h hs => Sub.sat (by repeat (first | exact Sub.nil | refine Sub.cons (by repeat (first | exact Pick.head | apply Pick.tail)) ?_)) hs⟩)
end Go.Proofs.Ytelmclmklkiphaa
namespace Go.Proofs.Ytelmclmklkiphaa
open Go Go.TH
attribute [local irreducible] W WO pt
set_option maxRecDepth 10000
set_option maxHeartbeats 1000000
def stR (n : Nat) (Ls : List (Nat → Int)) (y : Nat → Int) : List (Nat → Int) := if fst y n = n then Ls else Ls.map (elimF n y (fst y n)) ++ [y]
/-- the lists behind the first rows -/
def LsR (n : Nat) (rows : List (List Int)) : Nat → List (Nat → Int)
  | 0 => []
  | i + 1 => stR n (LsR n rows i) (lessR n n (LsR n rows i) (fnL (rows.getD i [])) (LsR n rows i).length)
def redR (n : Nat) (rows : List (List Int)) (i : Nat) : Nat → Int := lessR n n (LsR n rows i) (fnL (rows.getD i [])) (LsR n rows i).length
section
variable {n : Nat} {rows : List (List Int)} {i : Nat}
theorem LsR_dep (h : fst (redR n rows i) n = n) : LsR n rows (i + 1) = LsR n rows i := if_pos h
theorem LsR_new (h : fst (redR n rows i) n ≠ n) : LsR n rows (i + 1) = (LsR n rows i).map (elimF n (redR n rows i) (fst (redR n rows i) n)) ++ [redR n rows i] := if_neg h
theorem LsR_len : ∀ i, (LsR n rows i).length ≤ i
  | 0 => Nat.le_refl _
  | i + 1 => by
    have := LsR_len i
    by_cases h : fst (redR n rows i) n = n
    · rw [LsR_dep h]; omega
    rw [LsR_new h]; simp; omega
end
/-- the first k are changed -/
def mapT (G : (Nat → Int) → Nat → Int) (Ls : List (Nat → Int)) (k : Nat) : List (Nat → Int) := (Ls.take k).map G ++ Ls.drop k
section
variable {G : (Nat → Int) → Nat → Int} {Ls : List (Nat → Int)} {k n : Nat}
theorem mapT_0 : mapT G Ls 0 = Ls := by simp [mapT]
theorem mapT_all : mapT G Ls Ls.length = Ls.map G := by simp [mapT]
theorem mapT_len : (mapT G Ls k).length = Ls.length := by simp [mapT]; omega
theorem mapT_at (h : k < Ls.length) : (mapT G Ls k).getD k (fun _ => 0) = Ls.getD k fun _ => 0 := by
  unfold mapT
  rw [List.getD_eq_getElem?_getD, List.getD_eq_getElem?_getD, List.getElem?_append_right (by simp; omega), List.getElem?_drop]
  congr 2
  simp; omega
theorem mapT_succ (h : k < Ls.length) : (mapT G Ls k).set k (G (Ls.getD k fun _ => 0)) = mapT G Ls (k + 1) := by
  unfold mapT
  rw [List.set_append_right _ _ (by simp; omega), show k - ((Ls.take k).map G).length = 0 by simp; omega, List.drop_eq_getElem_cons h, List.set_cons_zero, List.take_add_one, List.getElem?_eq_getElem h]
  simp [List.getD_eq_getElem?_getD, List.getElem?_eq_getElem h]
  rw [List.take_add_one, List.getElem?_map, List.getElem?_eq_getElem h]
  simp
theorem rowsF_set {y : Nat → Int} : (rowsF n Ls).set k (lsF y n) = rowsF n (Ls.set k y) := by
  unfold rowsF
  rw [List.map_set]
end
section
variable {α : Type} {enc : α → List Value} {e sz : Nat}
theorem RowsE.setR : ∀ {rv : List Value} {xss : List (List α)} {k : Nat} {z : Value} {ys : List α} {h h1 h2 : Hp}, k < xss.length → Split h h1 h2 → RowsE enc e sz rv xss h1 → OwE enc e sz z ys h2 → RowsE enc e sz (rv.set k z) (xss.set k ys) h
  | r :: rv, xs :: xss, 0, z, ys, h, h1, h2, _, s, ⟨a, b, t, oa, rb⟩, o => by
    obtain ⟨r1, u1, u2⟩ := s.comm.swap t
    obtain ⟨r2, u3, u4⟩ := split_assoc u1 u2.comm
    rw [List.set_cons_zero, List.set_cons_zero]
    refine ⟨h2, fun k => if h2 k = none then h k else none, fun k => ?_, o, ?_⟩
    · have := s k
      cases ha : h1 k <;> cases hb : h2 k <;> simp_all
    refine RowsE.upS rb fun k o' hk => ?_
    have e1 := s k
    have e2 := t k
    cases ha : h1 k <;> cases hb : h2 k <;> cases hc : a k <;> cases hd : b k <;> simp_all
  | r :: rv, xs :: xss, k + 1, z, ys, h, h1, h2, hk, s, ⟨a, b, t, oa, rb⟩, o => by
    obtain ⟨r1, u1, u2⟩ := s.comm.swap t
    rw [List.set_cons_succ, List.set_cons_succ]
    exact ⟨a, r1, u1, oa, RowsE.setR (by simpa using hk) u2.comm rb o⟩
  | [], [], k, _, _, _, _, _, hk, _, _, _ => by simp at hk
  | [], _ :: _, _, _, _, _, _, _, _, _, h, _ => h.elim
  | _ :: _, [], _, _, _, _, _, _, hk, _, _, _ => by simp at hk
where
  RowsE.upS : ∀ {rv : List Value} {xss : List (List α)} {h h1 : Hp}, RowsE enc e sz rv xss h1 → (∀ k o, h1 k = some o → h k = some o) → RowsE enc e sz rv xss h
  | [], [], _, _, _, _ => trivial
  | r :: rv, xs :: xss, h, h1, ⟨a, b, t, oa, rb⟩, hk => by
    refine ⟨a, fun k => if a k = none then h k else none, fun k => ?_, oa, RowsE.upS rb fun k o hb => ?_⟩
    · rcases t k with ⟨p, q⟩ | ⟨p, q⟩
      · left; simp [p]
      by_cases g : a k = none
      · left; simp [g]
      right
      simp only [g, if_false, true_and]
      obtain ⟨o, ho⟩ := Option.ne_none_iff_exists'.1 g
      rw [ho]; exact hk k o (by rw [q, ho])
    rcases t k with ⟨p, q⟩ | ⟨p, q⟩
    · simp only [p, if_true]; exact hk k o (by rw [q, hb])
    rw [p] at hb; cases hb
  | [], _ :: _, _, _, h, _ => h.elim
  | _ :: _, [], _, _, h, _ => h.elim
theorem rowsSet {rv : List Value} {xss : List (List α)} {k : Nat} {z : Value} {ys : List α} {H H1 H2 : List HP} (p : Pick (RowsE enc e sz rv xss) H H1) (q : Pick (OwE enc e sz z ys) H1 H2) (hk : k < xss.length) : ∀ h, sat H h → sat (RowsE enc e sz (rv.set k z) (xss.set k ys) :: H2) h := fun h hs => by
  obtain ⟨a, r, s, ha, hr⟩ := p.sat hs
  obtain ⟨b, c, t, hb, hc⟩ := q.sat hr
  obtain ⟨r', s', t'⟩ := split_assoc s t
  exact ⟨r', c, s', RowsE.setR hk t' ha hb, hc⟩
end
theorem isSl_lit {a : Option Addr} {n c : Nat} (hn : n ≤ 9223372036854775807) (ha : 0 < n → ∃ b o, a = some ⟨b, o, none⟩) : IsSl (.slice a n c) n := ⟨hn, a, c, rfl, ha⟩
theorem OwC.cellV {P : Program} {C : Cx P} {H H' : List HP} {e n i : Nat} {v u : Value} {cs : List Value} (p : Pick (OwC e 1 v n cs) H H') (hl : i < cs.length) (hu : cs.getD i undef = u) : Cell C H (elt v i 1) u := by
  subst hu
  exact OwC.cell1 p hl
/-- what keeps all numbers small -/
structure BdR (n : Nat) (rows : List (List Int)) : Prop where
  ls : ∀ i, i ≤ rows.length → ∀ j, j < (LsR n rows i).length → BdN n ((LsR n rows i).getD j fun _ => 0) ∧ fst ((LsR n rows i).getD j fun _ => 0) n < n
  red : ∀ i, i < rows.length → ∀ j, j ≤ (LsR n rows i).length → BdN n (lessR n n (LsR n rows i) (fnL (rows.getD i [])) j)
theorem lessR_one {n : Nat} {y l : Nat → Int} : lessR n n [y] l 1 = elimF n y (fst y n) l := rfl
theorem BdR.elim {n : Nat} {rows : List (List Int)} (h : BdR n rows) {i k : Nat} (hi : i < rows.length) (hd : fst (redR n rows i) n ≠ n) (hk : k < (LsR n rows i).length) : BdN n (elimF n (redR n rows i) (fst (redR n rows i) n) ((LsR n rows i).getD k fun _ => 0)) := by
  have h1 := (h.ls (i + 1) (by omega) k (by rw [LsR_new hd]; simp; omega)).1
  rw [LsR_new hd] at h1
  rw [List.getD_eq_getElem?_getD, List.getElem?_append_left (by simpa using hk), List.getElem?_map, List.getElem?_eq_getElem hk] at h1
  rw [List.getD_eq_getElem?_getD, List.getElem?_eq_getElem hk]
  exact h1
theorem ref_Reduced (w : World) (n : Nat) (v : Value) (rv : List Value) (rows : List (List Int)) (hB : RdR encI 1 w.heap.size w v rv rows) (hok : OkB n rows) (hbd : BdR n rows) :
    Ct Try.prog 54 [v, .int .i64 (n : Int)].toArray w fun r w' => ∃ Hq, (∃ x : Value × List Value × Value, r = .tuple #[x.1, x.2.2] ∧ Hq = [OwC 25 1 x.1 (LsR n rows rows.length).length x.2.1, RowsE encI 2 1 x.2.1 (rowsF n (LsR n rows rows.length))]) ∧ TH.Inv w [] Hq w' := by
  refine Ct.ofI (X := Value × List Value × Value) (p := fun x r => r = .tuple #[x.1, x.2.2]) (Hx := fun x => [OwC 25 1 x.1 (LsR n rows rows.length).length x.2.1, RowsE encI 2 1 x.2.1 (rowsF n (LsR n rows rows.length))]) mixed tyTab Try.func54 rfl rfl ?_
  replace hB : RdR encI 1 (fnCx mixed tyTab Try.f54.ntmps w).B (fnCx mixed tyTab Try.f54.ntmps w).w0 v rv rows := hB
  have h8 := hok.1
  have hn5 := hok.2.1
  refine W.sreg ?_
  refine WO.p rfl rfl (WO.p rfl rfl ?_)
  refine WO.nil ?_
  refine W.sreg ?_
  refine WO.p rfl rfl (WO.p rfl rfl ?_)
  refine WO.nil ?_
  refine W.seq ?_
  refine W.sreg ?_
  refine WO.p rfl rfl ?_
  refine WO.nil ?_
  refine W.block ?_
  refine W.chg (owcNil (e := 25) (sz := 1)) ?_
  refine W.chg (rowsNil (enc := encI) (e := 2) (sz := 1)) ?_
  refine W.chg (owcNil (e := 25) (sz := 1)) ?_
  refine W.loop6 (fun (i : Nat) (lv : Value) (rvs : List Value) (fv : Value) (fc : Nat) (fcs : List Value) => i ≤ rows.length ∧ fc ≤ i)
    (fun (i : Nat) (lv : Value) (rvs : List Value) (fv : Value) (fc : Nat) (fcs : List Value) => [(0, v), (1, .int .i64 (n : Int)), (6, lv), (7, fv), (8, .int .i64 (i : Int))])
    (fun (i : Nat) (lv : Value) (rvs : List Value) (fv : Value) (fc : Nat) (fcs : List Value) => [OwC 25 1 lv (LsR n rows i).length rvs, RowsE encI 2 1 rvs (rowsF n (LsR n rows i)), OwC 25 1 fv fc fcs])
    (fun (i : Nat) (lv : Value) (rvs : List Value) (fv : Value) (fc : Nat) (fcs : List Value) => rows.length - i) 0 (.slice none 0 0) [] (.slice none 0 0) 0 []
    (by exact ⟨by omega, by omega⟩) ⟨rfl, rfl, rfl, rfl, rfl, trivial⟩ (by repeat (first | exact Sub.nil | refine Sub.cons (by repeat (first | exact Pick.head | apply Pick.tail)) ?_)) ?_
  rintro i lv rvs fv fc fcs ⟨hi, hfc⟩
  refine W.seq ?_
  refine W.sreg ?_
  refine WO.p rfl rfl (WO.p rfl rfl ?_)
  refine' WO.len (n := _) rfl rfl ?hs rfl ?_
  case hs => (first | exact hB.sl)
  refine WO.p rfl rfl ?_
  refine WO.nil ?_
  refine W.cond_bl rfl (fun c1 => ?_) (fun c1 => ?_)
  · first
    | (exfalso; omega)
    | (refine W.skip ?_
       refine W.seq ?_
       refine W.block ?_
       have hil := hok.len (i := i) (by omega)
       have hll := LsR_len (n := n) (rows := rows) i
       have hls := hbd.ls i (by omega)
       refine W.fact (OwC.sl (e := 25) (sz := 1) (v := lv) (n := (LsR n rows i).length) (cs := rvs) (by repeat (first | exact Pick.head | apply Pick.tail))) (fun hlv => ?_)
       refine W.fact (RowsE.ocF (enc := encI) (e := 2) (sz := 1) (rv := rvs) (xss := rowsF n (LsR n rows i)) (by repeat (first | exact Pick.head | apply Pick.tail))) (fun hrv => ?_)
       rw [rowsF_len] at hrv
       refine W.sreg ?_
       refine WO.p rfl rfl (WO.p rfl rfl (WO.p rfl rfl ?_))
       refine' WO.indexAddr (n := _) (i := _) rfl rfl rfl ?hs ?h1 rfl ?_
       case hs => (first | exact hB.sl)
       case h1 => (first | omega | (simp; omega))
       refine' WO.load (v := _) rfl rfl ?hc rfl ?_
       case hc => (first | (refine hB.cellV (i := i) ?_; omega))
       refine WO.p rfl rfl ?_
       refine WO.call rfl Try.call56 (fun L w' hi' => ref_less w' lv _ rvs n n (LsR n rows i) (fnL (rows.getD i [])) (RdR.of_ow (e := 2) (e' := 25) (n := (LsR n rows i).length) encI_ok (by repeat (first | exact Pick.head | apply Pick.tail)) (by repeat (first | exact Pick.head | apply Pick.tail)) hi') (by rw [lsF_fnL (by omega)]; exact (hB.row i (by omega)).later hi') (by omega) (by omega) (Nat.le_refl _) (fun j hj => (hls j hj).2) (hbd.red i (by omega)) (fun j hj => (hls j hj).1) (by omega)) rfl ?_
       rintro xv _ ⟨_, rfl, rfl⟩
       rw [show lessR n n (LsR n rows i) (fnL (rows.getD i [])) (LsR n rows i).length = redR n rows i from rfl]
       refine WO.fact (OwE.form (enc := encI) (e := 2) (sz := 1) (v := xv) Pick.head) (fun hx => ?_)
       rw [lsF_len] at hx
       obtain ⟨xa, xc, rfl⟩ := hx
       refine WO.fact (OwE.sl (enc := encI) (e := 2) (sz := 1) (v := .slice xa n xc) Pick.head) (fun hxs => ?_)
       rw [lsF_len] at hxs
       refine WO.p rfl rfl ?_
       refine WO.nil ?_
       refine W.seq ?_
       refine W.sreg ?_
       refine WO.p rfl rfl (WO.p rfl rfl ?_)
       refine WO.callR (r := .int .i64 (fst (redR n rows i) n : Nat)) rfl Try.call55 (fun L w' hi' => by rw [← fst_ls (F := redR n rows i) (Nat.le_refl n)]; exact ref_first w' _ _ n (RdF.of_ow (e := 2) encI_ok (by repeat (first | exact Pick.head | apply Pick.tail)) hi') (by rw [lsF_len]; omega)) rfl ?_
       refine WO.p rfl rfl (WO.p rfl rfl ?_)
       refine WO.nil ?_
       refine W.cond_bl rfl (fun c2 => ?_) (fun c2 => ?_)
       · first
         | (exfalso; omega)
         | (refine W.sreg ?_
            refine WO.p rfl rfl (WO.p rfl rfl ?_)
            refine' WO.buildSl (cs := _) rfl rfl rfl rfl ?hf rfl rfl ?hl rfl (fun v1 => ?_)
            case hf => (conv => lhs; simp [-List.getD_eq_getElem?_getD, fillL, vcl, wrl, TTab.pl?.lget']) <;> rfl
            case hl => rfl
            refine WO.appendN (m := 1) (news := [.slice xa n xc]) rfl rfl rfl rfl rfl (p := (by repeat (first | exact Pick.head | apply Pick.tail))) (isSl_lit (by omega) (fun _ => ⟨_, _, rfl⟩)) (OwC.cells (by repeat (first | exact Pick.head | apply Pick.tail))) rfl (by simp [Value.oneCell']) (by omega) (by omega) rfl (fun v' => ?_)
            refine WO.p rfl rfl ?_
            refine WO.nil ?_
            refine W.exit (blk_same ?_)
            first | (have hd : fst (redR n rows i) n = n := (by omega); rw [← LsR_dep hd]) | (refine W.chg (rowsSnoc (enc := encI) (e := 2) (sz := 1) (rv := rv2) (by repeat (first | exact Pick.head | apply Pick.tail)) (by repeat (first | exact Pick.head | apply Pick.tail))) ?_; rw [show rowsF n ((LsR n rows i).map (elimF n (redR n rows i) (fst (redR n rows i) n))) ++ [lsF (redR n rows i) n] = rowsF n (LsR n rows (i + 1)) by rw [LsR_new hnd]; simp [rowsF], show (LsR n rows i).length + 1 = (LsR n rows (i + 1)).length by rw [LsR_new hnd]; simp])
            refine W.region ?_
            refine WO.p rfl rfl (WO.ar rfl rfl rfl (by (first | (unfold in64; omega) | (unfold in64; omega))) rfl (WO.p rfl rfl ?_))
            refine WO.nil ?_
            refine' ⟨i + 1, _, _, _, _, _, ?hp, ?hmu, ⟨rfl, rfl, rfl, rfl, rfl, trivial⟩, ?hS⟩
            case hS => repeat (first | exact Sub.nil | refine Sub.cons (by repeat (first | exact Pick.head | apply Pick.tail)) ?_)
            case hp => exact ⟨by omega, by omega⟩
            case hmu => omega)
       first
       | (exfalso; omega)
       | (refine W.skip ?_
          refine W.seq ?_
          have hnd : fst (redR n rows i) n ≠ n := by omega
          have hfx := fst_le (redR n rows i) n
          rw [← mapT_0 (G := elimF n (redR n rows i) (fst (redR n rows i) n)) (Ls := LsR n rows i)]
          rw [mapT_len]
          refine W.sreg ?_
          refine WO.p rfl rfl ?_
          refine WO.nil ?_
          refine W.block ?_
          refine W.loop2 (fun (k : Nat) (rv2 : List Value) => k ≤ (LsR n rows i).length)
            (fun (k : Nat) (rv2 : List Value) => [(0, v), (1, .int .i64 (n : Int)), (6, lv), (7, fv), (8, .int .i64 (i : Int)), (9, .slice xa n xc), (10, .int .i64 (k : Int))])
            (fun (k : Nat) (rv2 : List Value) => [OwC 25 1 lv (LsR n rows i).length rv2, RowsE encI 2 1 rv2 (rowsF n (mapT (elimF n (redR n rows i) (fst (redR n rows i) n)) (LsR n rows i) k)), OwC 25 1 fv fc fcs, OwE encI 2 1 (.slice xa n xc) (lsF (redR n rows i) n)])
            (fun (k : Nat) (rv2 : List Value) => (LsR n rows i).length - k) 0 rvs
            (by omega) ⟨rfl, rfl, rfl, rfl, rfl, rfl, rfl, trivial⟩ (by repeat (first | exact Sub.nil | refine Sub.cons (by repeat (first | exact Pick.head | apply Pick.tail)) ?_)) ?_
          rintro k rv2 hk
          refine W.seq ?_
          refine W.sreg ?_
          refine WO.p rfl rfl (WO.p rfl rfl ?_)
          refine' WO.len (n := _) rfl rfl ?hs rfl ?_
          case hs => (first | exact hlv)
          refine WO.p rfl rfl ?_
          refine WO.nil ?_
          refine W.cond_bl rfl (fun c3 => ?_) (fun c3 => ?_)
          · first
            | (exfalso; omega)
            | (refine W.skip ?_
               refine W.seq ?_
               refine W.block ?_
               refine W.fact (RowsE.ocF (enc := encI) (e := 2) (sz := 1) (rv := rv2) (xss := rowsF n (mapT (elimF n (redR n rows i) (fst (redR n rows i) n)) (LsR n rows i) k)) (by repeat (first | exact Pick.head | apply Pick.tail))) (fun hr2 => ?_)
               rw [rowsF_len, mapT_len] at hr2
               have hmk := mapT_at (G := elimF n (redR n rows i) (fst (redR n rows i) n)) (Ls := LsR n rows i) (k := k) (by omega)
               have hrk : (rowsF n (mapT (elimF n (redR n rows i) (fst (redR n rows i) n)) (LsR n rows i) k)).getD k [] = lsF ((LsR n rows i).getD k fun _ => 0) n := by rw [rowsF_at (by rw [mapT_len]; omega), hmk]
               have hel := hbd.elim (i := i) (k := k) (by omega) hnd (by omega)
               refine W.region ?_
               refine WO.p rfl rfl (WO.p rfl rfl (WO.p rfl rfl ?_))
               refine' WO.buildSl (cs := _) rfl rfl rfl rfl ?hf rfl rfl ?hl rfl (fun v1 => ?_)
               case hf => (conv => lhs; simp [-List.getD_eq_getElem?_getD, fillL, vcl, wrl, TTab.pl?.lget']) <;> rfl
               case hl => rfl
               refine WO.p rfl rfl (WO.p rfl rfl ?_)
               refine' WO.indexAddr (n := _) (i := _) rfl rfl rfl ?hs ?h1 rfl ?_
               case hs => (first | exact hlv)
               case h1 => (first | omega | (simp; omega))
               refine' WO.load (v := _) rfl rfl ?hc rfl ?_
               case hc => (first | (refine OwC.cellV (i := k) (cs := rv2) (by repeat (first | exact Pick.head | apply Pick.tail)) ?_ ?_; omega; rfl))
               refine WO.p rfl rfl ?_
               refine WO.call rfl Try.call56 (fun L w' hi' => ref_less w' _ _ [.slice xa n xc] n n [redR n rows i] ((LsR n rows i).getD k fun _ => 0) (RdR.of_lit (e' := 25) (n := 1) (by repeat (first | exact Pick.head | apply Pick.tail)) hi' rfl (fun j hj => by obtain rfl : j = 0 := (by simp [rowsF] at hj; omega); exact RdF.of_ow (e := 2) encI_ok (by repeat (first | exact Pick.head | apply Pick.tail)) hi')) (hrk ▸ (RdR.of_ow (e := 2) (e' := 25) (n := (LsR n rows i).length) (v := lv) (rv := rv2) encI_ok (by repeat (first | exact Pick.head | apply Pick.tail)) (by repeat (first | exact Pick.head | apply Pick.tail)) hi').row k (by rw [rowsF_len, mapT_len]; omega)) (by omega) (by omega) (Nat.le_refl _) (fun j hj => by obtain rfl : j = 0 := (by simp at hj; omega); show fst (redR n rows i) n < n; omega) (fun j hj => by rcases (show j = 0 ∨ j = 1 by simp at hj; omega) with rfl | rfl; exact (hls k (by omega)).1; exact hel) (fun j hj => by obtain rfl : j = 0 := (by simp at hj; omega); exact hbd.red i (by omega) _ (Nat.le_refl _)) (by simp)) rfl ?_
               rintro zv _ ⟨_, rfl, rfl⟩
               refine WO.fact (OwE.form (enc := encI) (e := 2) (sz := 1) (v := zv) Pick.head) (fun hz => ?_)
               rw [lsF_len] at hz
               obtain ⟨za, zc, rfl⟩ := hz
               refine' WO.indexAddr (n := _) (i := _) rfl rfl rfl ?hs ?h1 rfl ?_
               case hs => (first | exact hlv)
               case h1 => (first | omega | (simp; omega))
               refine WO.storeOw (i := k) (cs := rv2) rfl rfl rfl rfl (by repeat (first | exact Pick.head | apply Pick.tail)) (by omega) ?_
               refine WO.chg (rowsSet (enc := encI) (e := 2) (sz := 1) (rv := rv2) (k := k) (by repeat (first | exact Pick.head | apply Pick.tail)) (by repeat (first | exact Pick.head | apply Pick.tail)) (by rw [rowsF_len, mapT_len]; omega)) ?_
               rw [show lessR n n [redR n rows i] ((LsR n rows i).getD k fun _ => 0) [redR n rows i].length = elimF n (redR n rows i) (fst (redR n rows i) n) ((LsR n rows i).getD k fun _ => 0) from rfl, rowsF_set, mapT_succ (by omega)]
               refine WO.nil ?_
               refine W.region ?_
               refine WO.p rfl rfl (WO.ar rfl rfl rfl (by (first | (unfold in64; omega) | (unfold in64; omega))) rfl (WO.p rfl rfl ?_))
               refine WO.nil ?_
               refine' ⟨k + 1, _, ?hp, ?hmu, ⟨rfl, rfl, rfl, rfl, rfl, rfl, rfl, trivial⟩, ?hS⟩
               case hS => repeat (first | exact Sub.nil | refine Sub.cons (by repeat (first | exact Pick.head | apply Pick.tail)) ?_)
               case hp => omega
               case hmu => omega)
          first
          | (exfalso; omega)
          | (refine W.exit (blk_same ?_)
             obtain rfl : k = (LsR n rows i).length := by omega
             rw [mapT_all]
             refine W.region ?_
             refine WO.p rfl rfl (WO.p rfl rfl ?_)
             refine' WO.buildSl (cs := _) rfl rfl rfl rfl ?hf rfl rfl ?hl rfl (fun v1 => ?_)
             case hf => (conv => lhs; simp [-List.getD_eq_getElem?_getD, fillL, vcl, wrl, TTab.pl?.lget']) <;> rfl
             case hl => rfl
             refine WO.appendN (m := 1) (news := [.slice xa n xc]) rfl rfl rfl rfl rfl (p := (by repeat (first | exact Pick.head | apply Pick.tail))) (isSl_lit (by omega) (fun _ => ⟨_, _, rfl⟩)) (OwC.cells (by repeat (first | exact Pick.head | apply Pick.tail))) rfl (by simp [Value.oneCell']) (by omega) (by omega) rfl (fun v' => ?_)
             refine WO.p rfl rfl ?_
             refine WO.nil ?_
             first | (have hd : fst (redR n rows i) n = n := (by omega); rw [← LsR_dep hd]) | (refine W.chg (rowsSnoc (enc := encI) (e := 2) (sz := 1) (rv := rv2) (by repeat (first | exact Pick.head | apply Pick.tail)) (by repeat (first | exact Pick.head | apply Pick.tail))) ?_; rw [show rowsF n ((LsR n rows i).map (elimF n (redR n rows i) (fst (redR n rows i) n))) ++ [lsF (redR n rows i) n] = rowsF n (LsR n rows (i + 1)) by rw [LsR_new hnd]; simp [rowsF], show (LsR n rows i).length + 1 = (LsR n rows (i + 1)).length by rw [LsR_new hnd]; simp])
             refine W.region ?_
             refine WO.p rfl rfl (WO.ar rfl rfl rfl (by (first | (unfold in64; omega) | (unfold in64; omega))) rfl (WO.p rfl rfl ?_))
             refine WO.nil ?_
             refine' ⟨i + 1, _, _, _, _, _, ?hp, ?hmu, ⟨rfl, rfl, rfl, rfl, rfl, trivial⟩, ?hS⟩
             case hS => repeat (first | exact Sub.nil | refine Sub.cons (by repeat (first | exact Pick.head | apply Pick.tail)) ?_)
             case hp => exact ⟨by omega, by omega⟩
             case hmu => omega)))
  first
  | (exfalso; omega)
  | (refine W.exit (blk_same ?_)
     refine W.sreg ?_
     refine WO.p rfl rfl (WO.p rfl rfl (WO.p rfl rfl (WO.p rfl rfl ?_)))
     refine WO.nil ?_
     refine W.ret ?_
     obtain rfl : i = rows.length := by omega
     exact fin.ret (Res.two rfl (RV.tmp rfl) (RV.tmp rfl)) ⟨(lv, rvs, fv), rfl, fun h hs => Sub.sat (by repeat (first | exact Sub.nil | refine Sub.cons (by repeat (first | exact Pick.head | apply Pick.tail)) ?_)) hs⟩)
end Go.Proofs.Ytelmclmklkiphaa
namespace Go.Proofs.Ytelmclmklkiphaa
open Go Go.TH
set_option maxHeartbeats 1000000
def sumL : List Nat → (Nat → Int) → Int
  | [], _ => 0
  | i :: I, f => f i + sumL I f
theorem sumL_cg {f g : Nat → Int} : ∀ {I : List Nat}, (∀ i ∈ I, f i = g i) → sumL I f = sumL I g
  | [], _ => rfl
  | i :: I, h => by
    show f i + sumL I f = g i + sumL I g
    rw [h i (by simp), sumL_cg fun j hj => h j (by simp [hj])]
theorem sumL_add (f g : Nat → Int) : ∀ (I : List Nat), sumL I (fun i => f i + g i) = sumL I f + sumL I g
  | [] => rfl
  | i :: I => by
    show (f i + g i) + sumL I _ = (f i + sumL I f) + (g i + sumL I g)
    rw [sumL_add f g I]; omega
theorem sumL_mul (a : Int) (f : Nat → Int) : ∀ (I : List Nat), sumL I (fun i => a * f i) = a * sumL I f
  | [] => by simp [sumL]
  | i :: I => by
    show a * f i + sumL I _ = a * (f i + sumL I f)
    rw [sumL_mul a f I, Int.mul_add]
theorem sumL_zero {f : Nat → Int} : ∀ {I : List Nat}, (∀ i ∈ I, f i = 0) → sumL I f = 0
  | [], _ => rfl
  | i :: I, h => by
    show f i + sumL I f = 0
    rw [h i (by simp), sumL_zero fun j hj => h j (by simp [hj])]; rfl
theorem sumL_lin (a b : Int) (c d : Nat → Int) (g : Nat → Int) (I : List Nat) : sumL I (fun i => (a * c i + b * d i) * g i) = a * sumL I (fun i => c i * g i) + b * sumL I (fun i => d i * g i) := by
  rw [← sumL_mul, ← sumL_mul, ← sumL_add]
  exact sumL_cg fun i _ => by rw [Int.add_mul, Int.mul_assoc, Int.mul_assoc]
theorem sumL_bd {f : Nat → Int} {M : Int} : ∀ {I : List Nat}, (∀ i ∈ I, -M ≤ f i ∧ f i ≤ M) → -((I.length : Int) * M) ≤ sumL I f ∧ sumL I f ≤ (I.length : Int) * M
  | [], _ => by simp [sumL]
  | i :: I, h => by
    have h1 := sumL_bd (I := I) fun j hj => h j (by simp [hj])
    have h2 := h i (by simp)
    have h3 : (((i :: I).length : Nat) : Int) * M = (I.length : Int) * M + M := by rw [List.length_cons, Int.natCast_add, Int.add_mul]; simp
    rw [h3]
    show -_ ≤ f i + sumL I f ∧ f i + sumL I f ≤ _
    omega
theorem sumL_swap (f : Nat → Nat → Int) : ∀ (I J : List Nat), sumL I (fun i => sumL J (f i)) = sumL J (fun j => sumL I fun i => f i j)
  | [], J => by
    show 0 = _
    exact (sumL_zero fun _ _ => rfl).symm
  | i :: I, J => by
    show sumL J (f i) + sumL I _ = sumL J (fun j => f i j + sumL I fun i => f i j)
    rw [sumL_add, sumL_swap f I J]
theorem sumL_one {g : Nat → Int} {x : Nat} : ∀ {I : List Nat}, I.Nodup → x ∈ I → sumL I (fun i => (if i = x then 1 else 0) * g i) = g x
  | [], _, h => by simp at h
  | i :: I, hn, h => by
    rw [List.nodup_cons] at hn
    show (if i = x then 1 else 0) * g i + sumL I _ = g x
    by_cases e : i = x
    · subst e
      rw [if_pos rfl, sumL_zero fun j hj => by rw [if_neg (fun q : j = i => hn.1 (q ▸ hj)), Int.zero_mul]]
      omega
    rw [if_neg e, sumL_one hn.2 ((List.mem_cons.1 h).resolve_left fun q => e q.symm)]
    omega
/-! ## Determinants, laid out by columns -/
def alt (F : List Nat → Int) (g : Nat → Int) : List Nat → Int
  | [] => 0
  | i :: J => g i * F J - alt (fun K => F (i :: K)) g J
def det (G : Nat → Nat → Int) : List Nat → List Nat → Int
  | [], _ => 1
  | c :: cs, I => alt (det G cs) (fun i => G i c) I
/-- with what each row is met -/
def co (F : List Nat → Int) : List Nat → Nat → Int
  | [], _ => 0
  | i :: J, t => if t = i then F J else -co (fun K => F (i :: K)) J t
theorem alt_co (g : Nat → Int) : ∀ (I : List Nat) (F : List Nat → Int), I.Nodup → alt F g I = sumL I fun i => co F I i * g i
  | [], _, _ => rfl
  | i :: J, F, hn => by
    rw [List.nodup_cons] at hn
    show g i * F J - alt (fun K => F (i :: K)) g J = co F (i :: J) i * g i + sumL J fun j => co F (i :: J) j * g j
    rw [alt_co g J _ hn.2, show co F (i :: J) i = F J from if_pos rfl, sumL_cg (f := fun j => co F (i :: J) j * g j) (g := fun j => (-1) * (co (fun K => F (i :: K)) J j * g j)) fun j hj => by
      rw [show co F (i :: J) j = -co (fun K => F (i :: K)) J j from if_neg (fun q : j = i => hn.1 (q ▸ hj)), Int.neg_mul]; omega, sumL_mul, Int.mul_comm]
    omega
theorem alt_lin (a b : Int) (g : Nat → Int) : ∀ (I : List Nat) (F F' : List Nat → Int), alt (fun J => a * F J + b * F' J) g I = a * alt F g I + b * alt F' g I
  | [], _, _ => by simp [alt]
  | i :: J, F, F' => by
    show g i * (a * F J + b * F' J) - alt (fun K => a * F (i :: K) + b * F' (i :: K)) g J = a * (g i * F J - alt (fun K => F (i :: K)) g J) + b * (g i * F' J - alt (fun K => F' (i :: K)) g J)
    rw [alt_lin a b g J]
    grind
theorem alt_swap (c d : Nat → Int) : ∀ (I : List Nat) (F : List Nat → Int), alt (fun J => alt F d J) c I = -alt (fun J => alt F c J) d I
  | [], _ => rfl
  | i :: J, F => by
    show c i * alt F d J - alt (fun K => d i * F K - alt (fun L => F (i :: L)) d K) c J = -(d i * alt F c J - alt (fun K => c i * F K - alt (fun L => F (i :: L)) c K) d J)
    have e1 := alt_lin (d i) (-1) c J F (fun K => alt (fun L => F (i :: L)) d K)
    have e2 := alt_lin (c i) (-1) d J F (fun K => alt (fun L => F (i :: L)) c K)
    have e3 := alt_swap c d J (fun L => F (i :: L))
    rw [show (fun K => d i * F K - alt (fun L => F (i :: L)) d K) = fun K => d i * F K + -1 * alt (fun L => F (i :: L)) d K by funext K; omega, e1, show (fun K => c i * F K - alt (fun L => F (i :: L)) c K) = fun K => c i * F K + -1 * alt (fun L => F (i :: L)) c K by funext K; omega, e2, e3]
    grind
section
variable {G : Nat → Nat → Int}
theorem det_swap (c d : Nat) (cs I : List Nat) : det G (c :: d :: cs) I = -det G (d :: c :: cs) I := alt_swap _ _ I (det G cs)
theorem det_cg {s : Int} {cs cs' : List Nat} (h : ∀ I, det G cs I = s * det G cs' I) (c : Nat) (I : List Nat) : det G (c :: cs) I = s * det G (c :: cs') I := by
  show alt (det G cs) _ I = s * alt (det G cs') _ I
  have := alt_lin s 0 (fun i => G i c) I (det G cs') (det G cs')
  rw [show det G cs = fun J => s * det G cs' J + 0 * det G cs' J by funext J; rw [h J]; omega, this]
  omega
theorem det_front {k : Nat} : ∀ {cs : List Nat}, k ∈ cs → ∃ s : Int, (s = 1 ∨ s = -1) ∧ ∀ I, det G cs I = s * det G (k :: cs.erase k) I
  | [], h => by simp at h
  | c :: r, h => by
    by_cases e : c = k
    · subst e
      exact ⟨1, .inl rfl, fun I => by rw [List.erase_cons_head]; omega⟩
    obtain ⟨s, hs, hr⟩ := det_front (cs := r) ((List.mem_cons.1 h).resolve_left fun q => e q.symm)
    refine ⟨-s, by omega, fun I => ?_⟩
    rw [det_cg hr c I, det_swap, List.erase_cons_tail (by simpa using e), Int.neg_mul_neg_swap]
where
  Int.neg_mul_neg_swap {s x : Int} : s * -x = -s * x := by rw [Int.mul_neg, Int.neg_mul]
theorem det_dup {k : Nat} {cs : List Nat} (h : k ∈ cs) (I : List Nat) : det G (k :: cs) I = 0 := by
  obtain ⟨s, _, hr⟩ := det_front (G := G) h
  have h2 := det_swap (G := G) k k (cs.erase k) I
  rw [det_cg hr k I, show det G (k :: k :: cs.erase k) I = 0 by omega, Int.mul_zero]
/-- how great a determinant of numbers of at most 4 can be -/
def dbN : Nat → Int
  | 0 => 1
  | r + 1 => ((r + 1 : Nat) : Int) * (4 * dbN r)
theorem alt_bd {S : Nat → Prop} {g : Nat → Int} (hg : ∀ i, S i → -4 ≤ g i ∧ g i ≤ 4) : ∀ (I : List Nat) (F : List Nat → Int) (B : Int), 0 ≤ B → (∀ i ∈ I, S i) → (∀ J, J.length + 1 = I.length → (∀ i ∈ J, S i) → -B ≤ F J ∧ F J ≤ B) →
    -((I.length : Int) * (4 * B)) ≤ alt F g I ∧ alt F g I ≤ (I.length : Int) * (4 * B)
  | [], _, _, _, _, _ => by simp [alt]
  | i :: J, F, B, hB, hS, hF => by
    have h1 := mul_bd (hg i (hS i (by simp))) (hF J rfl fun j hj => hS j (by simp [hj]))
    have h2 := alt_bd hg J (fun K => F (i :: K)) B hB (fun j hj => hS j (by simp [hj])) fun K hK hKS => hF (i :: K) (by simp [hK]) fun j hj => by
      rcases List.mem_cons.1 hj with h | h
      · rw [h]; exact hS i (by simp)
      exact hKS j h
    have h3 : (((i :: J).length : Nat) : Int) * (4 * B) = (J.length : Int) * (4 * B) + 4 * B := by rw [List.length_cons, Int.natCast_add, Int.add_mul]; simp
    rw [h3]
    show -_ ≤ g i * F J - alt (fun K => F (i :: K)) g J ∧ g i * F J - alt (fun K => F (i :: K)) g J ≤ _
    omega
theorem dbN_pos : ∀ r, 0 ≤ dbN r
  | 0 => by decide
  | r + 1 => Int.mul_nonneg (by omega) (Int.mul_nonneg (by omega) (dbN_pos r))
theorem det_bd {S : Nat → Prop} : ∀ (cs I : List Nat), (∀ i, S i → ∀ k ∈ cs, -4 ≤ G i k ∧ G i k ≤ 4) → cs.length = I.length → (∀ i ∈ I, S i) → -dbN cs.length ≤ det G cs I ∧ det G cs I ≤ dbN cs.length
  | [], _, _, _, _ => by simp [det, dbN]
  | c :: cs, I, hG, hl, hS => by
    have h := alt_bd (S := S) (g := fun i => G i c) (fun i hi => hG i hi c (by simp)) I (det G cs) (dbN cs.length) (dbN_pos _) hS fun J hJ hJS => det_bd cs J (fun i hi k hk => hG i hi k (by simp [hk])) (by simp at hl; omega) hJS
    rw [← hl] at h
    exact h
theorem co_bd {S : Nat → Prop} {B : Int} : ∀ (I : List Nat) (F : List Nat → Int), 0 ≤ B → (∀ i ∈ I, S i) → (∀ J, J.length + 1 = I.length → (∀ i ∈ J, S i) → -B ≤ F J ∧ F J ≤ B) → ∀ t, -B ≤ co F I t ∧ co F I t ≤ B
  | [], _, hB, _, _, t => by show -B ≤ 0 ∧ 0 ≤ B; omega
  | i :: J, F, hB, hS, hF, t => by
    show -B ≤ (if t = i then F J else _) ∧ (if t = i then F J else _) ≤ B
    split
    · exact hF J rfl fun j hj => hS j (by simp [hj])
    have := co_bd J (fun K => F (i :: K)) hB (fun j hj => hS j (by simp [hj])) (fun K hK hKS => hF (i :: K) (by simp [hK]) fun j hj => by
      rcases List.mem_cons.1 hj with h | h
      · rw [h]; exact hS i (by simp)
      exact hKS j h) t
    omega
end
/-! ## Rows of which none is a combination of the others -/
/-- the numbers of a combination -/
def cmb (B : Nat → Nat → Int) (I : List Nat) (c : Nat → Int) (k : Nat) : Int := sumL I fun i => c i * B i k
theorem cmb_lin (B : Nat → Nat → Int) (I : List Nat) (a b : Int) (c d : Nat → Int) (k : Nat) : cmb B I (fun i => a * c i + b * d i) k = a * cmb B I c k + b * cmb B I d k := sumL_lin a b c d _ I
structure Bs (B : Nat → Nat → Int) (I P : List Nat) : Prop where
  iN : I.Nodup
  pN : P.Nodup
  len : I.length = P.length
  ind : ∀ c : Nat → Int, (∀ p ∈ P, cmb B I c p = 0) → ∀ i ∈ I, c i = 0
  dne : det B P I ≠ 0
theorem Bs.nil (B : Nat → Nat → Int) : Bs B [] [] := ⟨List.nodup_nil, List.nodup_nil, rfl, fun _ _ i hi => by simp at hi, by show (1 : Int) ≠ 0; decide⟩
theorem cmb_det (B : Nat → Nat → Int) {I : List Nat} (hn : I.Nodup) (P : List Nat) (k : Nat) : cmb B I (co (det B P) I) k = det B (k :: P) I := (alt_co _ I (det B P) hn).symm
theorem Bs.add {B : Nat → Nat → Int} {I P : List Nat} (h : Bs B I P) {x q : Nat} (hx : x ∉ I) (hq : q ∉ P) {c : Nat → Int} (hc : c x ≠ 0) (h0 : ∀ p ∈ P, cmb B (x :: I) c p = 0) (h1 : cmb B (x :: I) c q ≠ 0) : Bs B (x :: I) (q :: P) := by
  have hn : (x :: I).Nodup := List.nodup_cons.2 ⟨hx, h.iN⟩
  have hind : ∀ d : Nat → Int, (∀ p ∈ q :: P, cmb B (x :: I) d p = 0) → ∀ i ∈ x :: I, d i = 0 := by
    intro d hd
    have e0 : ∀ k, cmb B (x :: I) (fun i => c x * d i + -d x * c i) k = cmb B I (fun i => c x * d i + -d x * c i) k := fun k => by
      show (c x * d x + -d x * c x) * B x k + cmb B I (fun i => c x * d i + -d x * c i) k = cmb B I (fun i => c x * d i + -d x * c i) k
      rw [show c x * d x + -d x * c x = 0 by rw [Int.neg_mul, Int.mul_comm (d x)]; omega, Int.zero_mul]
      omega
    have e1 := h.ind (fun i => c x * d i + -d x * c i) fun p hp => by
      rw [← e0, cmb_lin, hd p (by simp [hp]), h0 p hp]; omega
    have e2 : cmb B (x :: I) (fun i => c x * d i + -d x * c i) q = 0 := by
      rw [e0]
      exact sumL_zero fun i hi => by
        show (c x * d i + -d x * c i) * B i q = 0
        rw [e1 i hi, Int.zero_mul]
    rw [cmb_lin, hd q (by simp), Int.mul_zero, Int.zero_add] at e2
    have e3 : d x = 0 := by
      rcases Int.mul_eq_zero.1 e2 with g | g
      · omega
      exact absurd g h1
    intro i hi
    rcases List.mem_cons.1 hi with g | g
    · rw [g]; exact e3
    have := e1 i g
    simp only [e3] at this
    rcases Int.mul_eq_zero.1 (show c x * d i = 0 by omega) with g | g
    · exact absurd g hc
    exact g
  refine ⟨hn, List.nodup_cons.2 ⟨hq, h.pN⟩, by simp [h.len], hind, fun hz => ?_⟩
  have := hind (co (det B P) (x :: I)) (fun p hp => by
    rw [cmb_det B hn]
    rcases List.mem_cons.1 hp with g | g
    · rw [g]; exact hz
    exact det_dup g _) x (by simp)
  exact h.dne (by rw [← this]; exact (if_pos rfl).symm)
/-- the combination that is 0 at all places but p -/
theorem Bs.cof {B : Nat → Nat → Int} {I P : List Nat} (h : Bs B I P) {S : Nat → Prop} (hS : ∀ i ∈ I, S i) (hB : ∀ i, S i → ∀ p ∈ P, -4 ≤ B i p ∧ B i p ≤ 4) {p : Nat} (hp : p ∈ P) :
    ∃ c : Nat → Int, (∀ i, -dbN (P.length - 1) ≤ c i ∧ c i ≤ dbN (P.length - 1)) ∧ (∀ k, (∀ i, S i → -4 ≤ B i k ∧ B i k ≤ 4) → -dbN P.length ≤ cmb B I c k ∧ cmb B I c k ≤ dbN P.length) ∧ cmb B I c p = det B P I ∧ ∀ q ∈ P, q ≠ p → cmb B I c q = 0 := by
  obtain ⟨s, hs, hr⟩ := det_front (G := B) hp
  have hl : (P.erase p).length = P.length - 1 := List.length_erase_of_mem hp
  have hp0 : 0 < P.length := List.length_pos_of_mem hp
  have hm : ∀ (x M : Int), -M ≤ x ∧ x ≤ M → -M ≤ s * x ∧ s * x ≤ M := fun x M h => by rcases hs with rfl | rfl <;> omega
  have hcm : ∀ k, cmb B I (fun i => s * co (det B (P.erase p)) I i) k = s * det B (k :: P.erase p) I := fun k => by
    rw [← cmb_det B h.iN, cmb, cmb, ← sumL_mul]
    exact sumL_cg fun i _ => Int.mul_assoc _ _ _
  refine ⟨fun i => s * co (det B (P.erase p)) I i, fun i => hm _ _ ?_, fun k hk => ?_, ?_, fun q hq hn => ?_⟩
  · rw [← hl]
    exact co_bd (S := S) I _ (dbN_pos _) hS (fun J hJ hJS => det_bd _ J (fun i hi k hk => hB i hi k (List.mem_of_mem_erase hk)) (by rw [hl]; have := h.len; omega) hJS) i
  · rw [hcm]
    have := det_bd (G := B) (S := S) (k :: P.erase p) I (fun i hi j hj => by
      rcases List.mem_cons.1 hj with g | g
      · rw [g]; exact hk i hi
      exact hB i hi j (List.mem_of_mem_erase g)) (by rw [List.length_cons, hl]; have := h.len; omega) hS
    rw [show (k :: P.erase p).length = P.length by rw [List.length_cons, hl]; omega] at this
    exact hm _ _ this
  · rw [hcm, hr I]
  rw [hcm, det_dup ((List.mem_erase_of_ne hn).2 hq), Int.mul_zero]
end Go.Proofs.Ytelmclmklkiphaa
namespace Go.Proofs.Ytelmclmklkiphaa
open Go Go.TH
set_option maxHeartbeats 1000000
/-! ## Least terms -/
theorem gcdF_mulD {X : Nat → Int} {d m : Nat} : ∀ {n : Nat}, (∀ k, k < n → d ∣ m * (X k).natAbs) → d ∣ m * gcdF X n
  | 0, _ => by show d ∣ m * 0; rw [Nat.mul_zero]; exact Nat.dvd_zero d
  | n + 1, h => by
    show d ∣ m * Nat.gcd (gcdF X n) (X n).natAbs
    rw [← Nat.gcd_mul_left]
    exact Nat.dvd_gcd (gcdF_mulD fun k hk => h k (by omega)) (h n (by omega))
theorem dvd_of_prim {X : Nat → Int} {n : Nat} {a b : Int} (h1 : gcdF X n = 1) (h : ∀ k, k < n → b ∣ a * X k) : b ∣ a := by
  have h2 := gcdF_mulD (X := X) (d := b.natAbs) (m := a.natAbs) (n := n) fun k hk => by
    have := Int.natAbs_dvd_natAbs.2 (h k hk)
    rwa [Int.natAbs_mul] at this
  rw [h1, Nat.mul_one] at h2
  exact Int.natAbs_dvd_natAbs.1 h2
theorem cast_dvd {d : Nat} {x : Int} (h : d ∣ x.natAbs) : (d : Int) ∣ x := Int.natAbs_dvd_natAbs.1 (by rwa [Int.natAbs_natCast])
theorem prim_ex (X : Nat → Int) (n : Nat) : ∃ g : Int, g ≠ 0 ∧ ∀ k, k < n → X k = g * primF X n k := by
  unfold primF
  split
  · exact ⟨1, by decide, fun k _ => by omega⟩
  refine ⟨(gcdF X n : Nat), by omega, fun k hk => ?_⟩
  have h1 : ((gcdF X n : Nat) : Int) ∣ X k := cast_dvd (gcdF_of hk)
  exact (Int.mul_tdiv_cancel' h1).symm
theorem prim_gcd (X : Nat → Int) (n : Nat) : gcdF (primF X n) n ≤ 1 := by
  by_cases g : gcdF X n < 2
  · have e : primF X n = X := if_pos g
    rw [e]; omega
  have e : ∀ k, k < n → (X k).natAbs = gcdF X n * (primF X n k).natAbs := fun k hk => by
    have h1 : ((gcdF X n : Nat) : Int) ∣ X k := cast_dvd (gcdF_of hk)
    have h2 : X k = ((gcdF X n : Nat) : Int) * primF X n k := by
      rw [show primF X n k = (X k).tdiv (gcdF X n : Nat) by unfold primF; rw [if_neg g]]
      exact (Int.mul_tdiv_cancel' h1).symm
    have h3 := congrArg Int.natAbs h2
    rwa [Int.natAbs_mul, Int.natAbs_natCast] at h3
  have h1 : gcdF X n * gcdF (primF X n) n ∣ gcdF X n := gcdF_dvd.2 fun k hk => by
    rw [e k hk]; exact Nat.mul_dvd_mul_left _ (gcdF_of hk)
  have h2 := Nat.le_of_dvd (by omega) h1
  have h3 : gcdF X n * gcdF (primF X n) n ≤ gcdF X n * 1 := by rw [Nat.mul_one]; exact h2
  exact Nat.le_of_mul_le_mul_left h3 (show 0 < gcdF X n from Nat.lt_of_lt_of_le (by decide) (Nat.le_of_not_lt g))
theorem gcd_one {X : Nat → Int} {n k : Nat} (h : gcdF X n ≤ 1) (hk : k < n) (hx : X k ≠ 0) : gcdF X n = 1 := by
  have : gcdF X n ≠ 0 := fun e => hx (gcdF_zero.1 e k hk)
  omega
theorem cancel {a b c : Int} (h : a ≠ 0) (e : a * b = a * c) : b = c := Int.eq_of_mul_eq_mul_left h e
theorem le_mul {m x M : Int} (hm : m ≠ 0) (h : -M ≤ m * x ∧ m * x ≤ M) : -M ≤ x ∧ x ≤ M := by
  have h1 : (m * x).natAbs = m.natAbs * x.natAbs := Int.natAbs_mul m x
  have h2 : x.natAbs ≤ m.natAbs * x.natAbs := Nat.le_mul_of_pos_left _ (by omega)
  omega
/-! ## A family of rows -/
structure Fam (N n : Nat) (B : Nat → Nat → Int) (M R : Int) : Prop where
  n5 : n ≤ 5
  nN : n ≤ N
  b4 : ∀ i, i < 9 → ∀ k, k < n → -4 ≤ B i k ∧ B i k ≤ 4
  bR : ∀ i, i < 9 → ∀ k, k < N → -R ≤ B i k ∧ B i k ≤ R
  bM : ∀ (I : List Nat) (c : Nat → Int), I.Nodup → (∀ i ∈ I, i < 8) → (∀ k, k < n → -122880 ≤ cmb B I c k ∧ cmb B I c k ≤ 122880) → (∀ i, -6144 ≤ c i ∧ c i ≤ 6144) → ∀ k, k < N → -M ≤ cmb B I c k ∧ cmb B I c k ≤ M
  sm : 122880 * R + 20 * M ≤ 268435456
  R0 : 0 ≤ R
  M4 : 4 ≤ M
  pr : (∀ i, i < 9 → gcdF (B i) N ≤ 1) ∨ N = n
structure Ent (N : Nat) (B : Nat → Nat → Int) (I P : List Nat) (p : Nat) (l : Nat → Int) : Prop where
  comb : ∃ (a : Int) (c : Nat → Int), a ≠ 0 ∧ ∀ k, k < N → a * l k = cmb B I c k
  ne : l p ≠ 0
  z : ∀ q ∈ P, q ≠ p → l q = 0
  pr : gcdF l N ≤ 1 ∨ ∀ k, k < N → -4 ≤ l k ∧ l k ≤ 4
/-- the state behind m rows -/
structure St (N n : Nat) (B : Nat → Nat → Int) (m : Nat) (I P : List Nat) (f : Nat → Option (Nat → Int)) : Prop where
  bs : Bs B I P
  lt : ∀ p ∈ P, p < n
  im : ∀ i ∈ I, i < m
  dom : ∀ p, (∃ l, f p = some l) ↔ p ∈ P
  ent : ∀ p l, f p = some l → Ent N B I P p l
  sp : ∀ i, i < m → ∃ (t : Int) (c : Nat → Int), t ≠ 0 ∧ ∀ k, k < n → t * B i k = cmb B I c k
theorem St.nil (N n : Nat) (B : Nat → Nat → Int) : St N n B 0 [] [] (fun _ => none) :=
  ⟨Bs.nil B, fun p h => (by simp at h), fun i h => (by simp at h), fun p => ⟨fun ⟨_, h⟩ => (by cases h), fun h => (by simp at h)⟩, fun p l h => (by cases h), fun i h => (by omega)⟩
theorem nodup_le : ∀ {n : Nat} {P : List Nat}, P.Nodup → (∀ p ∈ P, p < n) → P.length ≤ n
  | 0, [], _, _ => Nat.le_refl _
  | 0, p :: P, _, hl => by have := hl p (by simp); omega
  | n + 1, P, hn, hl => by
    have h1 := nodup_le (n := n) (hn.erase n) fun p hp => by
      rw [hn.mem_erase_iff] at hp
      have := hl p hp.2
      omega
    have h2 : P.length ≤ (P.erase n).length + 1 := by
      by_cases g : n ∈ P
      · rw [List.length_erase_of_mem g]; omega
      rw [List.erase_of_not_mem g]; omega
    omega
theorem dbN_le {r : Nat} (h : r ≤ 5) : dbN r ≤ 122880 ∧ dbN (r - 1) ≤ 6144 := by
  match r, h with
  | 0, _ => decide
  | 1, _ => decide
  | 2, _ => decide
  | 3, _ => decide
  | 4, _ => decide
  | 5, _ => decide
section
variable {N n m : Nat} {B : Nat → Nat → Int} {M R : Int} {I P : List Nat} {f : Nat → Option (Nat → Int)}
theorem St.small (hF : Fam N n B M R) (h : St N n B m I P f) : P.length ≤ 5 := Nat.le_trans (nodup_le h.bs.pN h.lt) hF.n5
/-- the least numbers that have 0 at all places but p -/
structure Cof (N : Nat) (B : Nat → Nat → Int) (I P : List Nat) (M : Int) (p : Nat) (c : Nat → Int) : Prop where
  at_ : cmb B I c p = det B P I
  z : ∀ q ∈ P, q ≠ p → cmb B I c q = 0
  bd : ∀ k, k < N → -M ≤ cmb B I c k ∧ cmb B I c k ≤ M
theorem St.D_bd (hF : Fam N n B M R) (h : St N n B m I P f) (hm : m ≤ 8) : -122880 ≤ det B P I ∧ det B P I ≤ 122880 := by
  have h1 := det_bd (G := B) (S := fun i => i < 9) P I (fun i hi k hk => hF.b4 i hi k (h.lt k hk)) h.bs.len.symm (fun i hi => by have := h.im i hi; show i < 9; omega)
  have h2 := (dbN_le (h.small hF)).1
  omega
theorem St.cof (hF : Fam N n B M R) (h : St N n B m I P f) (hm : m ≤ 8) {p : Nat} (hp : p ∈ P) : ∃ c, Cof N B I P M p c := by
  obtain ⟨c, h1, h2, h3, h4⟩ := h.bs.cof (S := fun i => i < 9) (fun i hi => by have := h.im i hi; show i < 9; omega) (fun i hi q hq => hF.b4 i hi q (h.lt q hq)) hp
  have hd := dbN_le (h.small hF)
  refine ⟨c, h3, h4, hF.bM I c h.bs.iN (fun i hi => by have := h.im i hi; omega) (fun k hk => ?_) fun i => ?_⟩
  · have := h2 k fun i hi => hF.b4 i hi k hk
    omega
  have := h1 i
  omega
theorem Ent.ratio {p : Nat} {l c : Nat → Int} (hN : ∀ q ∈ P, q < N) (hb : Bs B I P) (hp : p ∈ P) (h : Ent N B I P p l) (hc : Cof N B I P M p c) {k : Nat} (hk : k < N) : l p * cmb B I c k = det B P I * l k := by
  obtain ⟨a, c0, ha, h0⟩ := h.comb
  have e1 := hb.ind (fun i => (a * l p) * c i + (-det B P I) * c0 i) fun q hq => by
    rw [cmb_lin, ← h0 q (hN q hq)]
    by_cases g : q = p
    · rw [g, hc.at_]; grind
    rw [hc.z q hq g, h.z q hq g]; grind
  have e2 : cmb B I (fun i => (a * l p) * c i + (-det B P I) * c0 i) k = 0 := sumL_zero fun i hi => by
    show ((a * l p) * c i + (-det B P I) * c0 i) * B i k = 0
    rw [e1 i hi, Int.zero_mul]
  rw [cmb_lin, ← h0 k hk] at e2
  refine cancel ha ?_
  grind
theorem Ent.dvd {p : Nat} {l c : Nat → Int} (hN : ∀ q ∈ P, q < N) (hb : Bs B I P) (hp : p ∈ P) (h : Ent N B I P p l) (hc : Cof N B I P M p c) (hg : gcdF l N ≤ 1) : l p ∣ det B P I :=
  dvd_of_prim (gcd_one hg (hN p hp) h.ne) fun k hk => ⟨cmb B I c k, (h.ratio hN hb hp hc hk).symm⟩
theorem Ent.bd {p : Nat} {l c : Nat → Int} (hN : ∀ q ∈ P, q < N) (hb : Bs B I P) (hp : p ∈ P) (h : Ent N B I P p l) (hc : Cof N B I P M p c) (hM : 4 ≤ M) {k : Nat} (hk : k < N) : -M ≤ l k ∧ l k ≤ M := by
  rcases h.pr with hg | hs
  · obtain ⟨t, ht⟩ := h.dvd hN hb hp hc hg
    have e1 := h.ratio hN hb hp hc hk
    rw [ht, Int.mul_assoc] at e1
    have e2 := cancel h.ne e1
    refine le_mul (m := t) (fun e => hb.dne ?_) ?_
    · rw [ht, e, Int.mul_zero]
    rw [← e2]; exact hc.bd k hk
  have := hs k hk; omega
theorem St.bdF (hF : Fam N n B M R) (h : St N n B m I P f) (hm : m ≤ 8) {p : Nat} {l : Nat → Int} (hl : f p = some l) {k : Nat} (hk : k < N) : -268435456 ≤ l k ∧ l k ≤ 268435456 := by
  have hp := (h.dom p).1 ⟨l, hl⟩
  obtain ⟨c, hc⟩ := h.cof hF hm hp
  have h1 := (h.ent p l hl).bd (fun q hq => Nat.lt_of_lt_of_le (h.lt q hq) hF.nN) h.bs hp hc hF.M4 hk
  have h2 := hF.sm
  have h3 := hF.R0
  have h4 := hF.M4
  omega
/-! ## A row on its way -/
structure Ray (N : Nat) (B : Nat → Nat → Int) (I P : List Nat) (M : Int) (x : Nat) (done : Nat → Prop) (j : Nat) (X : Nat → Int) : Prop where
  ex : ∃ (a b : Int) (u : Nat → Int), a ≠ 0 ∧ b ≠ 0 ∧ (∀ k, k < N → a * X k = b * (det B P I * B x k + cmb B I u k)) ∧ (∀ q ∈ P, done q → det B P I * B x q + cmb B I u q = 0) ∧ (∀ q ∈ P, ¬ done q → cmb B I u q = 0) ∧ ∀ k, k < N → -((j : Int) * (4 * M)) ≤ cmb B I u k ∧ cmb B I u k ≤ (j : Int) * (4 * M)
  pr : X = B x ∨ gcdF X N ≤ 1
theorem cmb_0 (k : Nat) : cmb B I (fun _ => 0) k = 0 := sumL_zero fun i _ => Int.zero_mul _
theorem Ray.start (hb : Bs B I P) (x : Nat) {done : Nat → Prop} (h0 : ∀ q ∈ P, ¬ done q) : Ray N B I P M x done 0 (B x) := by
  refine ⟨⟨det B P I, 1, fun _ => 0, hb.dne, by decide, fun k _ => ?_, fun q hq h => absurd h (h0 q hq), fun q _ _ => cmb_0 q, fun k _ => ?_⟩, .inl rfl⟩
  · rw [cmb_0]; omega
  rw [cmb_0]; simp
theorem Ray.skip {x j : Nat} {X : Nat → Int} {done done' : Nat → Prop} (h : Ray N B I P M x done j X) (hd : ∀ q ∈ P, (done' q ↔ done q)) : Ray N B I P M x done' j X := by
  obtain ⟨⟨a, b, u, h1, h2, h3, h4, h5, h6⟩, h7⟩ := h
  exact ⟨⟨a, b, u, h1, h2, h3, fun q hq g => h4 q hq ((hd q hq).1 g), fun q hq g => h5 q hq fun g' => g ((hd q hq).2 g'), h6⟩, h7⟩
theorem Ray.step (hN : ∀ q ∈ P, q < N) (hb : Bs B I P) (hM : 4 ≤ M) {x j p : Nat} {X l c : Nat → Int} {done done' : Nat → Prop} (h : Ray N B I P M x done j X) (hp : p ∈ P) (hnd : ¬ done p) (hd : ∀ q ∈ P, (done' q ↔ done q ∨ q = p)) (hl : Ent N B I P p l) (hc : Cof N B I P M p c) (hx : -4 ≤ B x p ∧ B x p ≤ 4) : Ray N B I P M x done' (j + 1) (elimF N l p X) := by
  obtain ⟨⟨a, b, u, h1, h2, h3, h4, h5, h6⟩, h7⟩ := h
  have hup := h5 p hp hnd
  have hpN := hN p hp
  have e3 := h3 p hpN
  rw [hup] at e3
  have hz' : ∀ q ∈ P, done' q → det B P I * B x q + cmb B I (fun i => 1 * u i + -B x p * c i) q = 0 := fun q hq g => by
    rw [cmb_lin]
    by_cases e : q = p
    · rw [e, hup, hc.at_]; grind
    have g' : done q := ((hd q hq).1 g).resolve_right e
    have := h4 q hq g'
    rw [hc.z q hq e]; grind
  have hn' : ∀ q ∈ P, ¬ done' q → cmb B I (fun i => 1 * u i + -B x p * c i) q = 0 := fun q hq g => by
    have e : q ≠ p := fun e => g ((hd q hq).2 (.inr e))
    have := h5 q hq fun g' => g ((hd q hq).2 (.inl g'))
    rw [cmb_lin, this, hc.z q hq e]; grind
  have hbd : ∀ k, k < N → -(((j + 1 : Nat) : Int) * (4 * M)) ≤ cmb B I (fun i => 1 * u i + -B x p * c i) k ∧ cmb B I (fun i => 1 * u i + -B x p * c i) k ≤ ((j + 1 : Nat) : Int) * (4 * M) := fun k hk => by
    have g1 := h6 k hk
    have g2 := mul_bd (a := -B x p) (A := 4) (by omega) (hc.bd k hk)
    have g3 : ((j + 1 : Nat) : Int) * (4 * M) = (j : Int) * (4 * M) + 4 * M := by rw [Int.natCast_add, Int.add_mul]; simp
    rw [cmb_lin, g3]
    omega
  by_cases g : X p = 0
  · rw [elimF_0 g]
    have hBp : B x p = 0 := by
      rw [g, Int.mul_zero] at e3
      rcases Int.mul_eq_zero.1 e3.symm with q | q
      · exact absurd q h2
      rcases Int.mul_eq_zero.1 (show det B P I * B x p = 0 by omega) with q | q
      · exact absurd q hb.dne
      exact q
    refine ⟨⟨a, b, fun i => 1 * u i + -B x p * c i, h1, h2, fun k hk => ?_, hz', hn', hbd⟩, h7⟩
    rw [cmb_lin, h3 k hk, hBp]; grind
  rw [elimF_1 g]
  obtain ⟨t, ht, hpe⟩ := prim_ex (linX (l p) X (-(X p)) l) N
  refine ⟨⟨a * t, b * l p, fun i => 1 * u i + -B x p * c i, ?_, ?_, fun k hk => ?_, hz', hn', hbd⟩, .inr (prim_gcd _ N)⟩
  · exact fun e => (Int.mul_eq_zero.1 e).elim h1 ht
  · exact fun e => (Int.mul_eq_zero.1 e).elim h2 hl.ne
  have q1 := hpe k hk
  have q2 := hl.ratio hN hb hp hc hk
  have q3 := h3 k hk
  rw [cmb_lin, Int.mul_assoc, ← q1]
  show a * (l p * X k + -X p * l k) = _
  grind
/-- numbers on the way stay small -/
theorem Ray.bd (hF : Fam N n B M R) (hst : St N n B m I P f) (hm : m ≤ 8) {x j : Nat} {X : Nat → Int} {done : Nat → Prop} (h : Ray N B I P M x done j X) (hj : j ≤ 5) (hx : x < 9) {k : Nat} (hk : k < N) : -268435456 ≤ X k ∧ X k ≤ 268435456 := by
  obtain ⟨⟨a, b, u, h1, h2, h3, h4, h5, h6⟩, h7⟩ := h
  have hsm := hF.sm
  have hR0 := hF.R0
  have hM4 := hF.M4
  have hbx := hF.bR x hx k hk
  rcases h7 with e | hg
  · rw [e]; omega
  by_cases h0 : X k = 0
  · omega
  have g1 := gcd_one hg hk h0
  have g2 : b ∣ a := dvd_of_prim g1 fun k hk => ⟨_, h3 k hk⟩
  obtain ⟨t, rfl⟩ := g2
  have g3 := h3 k hk
  rw [Int.mul_assoc] at g3
  have g4 := cancel h2 g3
  have g5 := mul_bd (hst.D_bd hF hm) hbx
  have g6 := h6 k hk
  have g7 : (j : Int) * (4 * M) ≤ 5 * (4 * M) := Int.mul_le_mul_of_nonneg_right (by omega) (by omega)
  exact le_mul (m := t) (fun e => h1 (by rw [e, Int.mul_zero])) (by omega)
/-- all is done: what is left -/
theorem Ray.zero {x j : Nat} {X : Nat → Int} {done : Nat → Prop} (hN : ∀ q ∈ P, q < N) (h : Ray N B I P M x done j X) (hall : ∀ q ∈ P, done q) : ∀ q ∈ P, X q = 0 := fun q hq => by
  obtain ⟨⟨a, b, u, h1, h2, h3, h4, h5, h6⟩, h7⟩ := h
  have := h3 q (hN q hq)
  rw [h4 q hq (hall q hq), Int.mul_zero] at this
  exact (Int.mul_eq_zero.1 this).resolve_left h1
/-- a row that can be computed: it is a combination -/
theorem Ray.dep {x j : Nat} {X : Nat → Int} {done : Nat → Prop} (hnN : n ≤ N) (hb : Bs B I P) (h : Ray N B I P M x done j X) (hz : ∀ k, k < n → X k = 0) : ∃ (t : Int) (c : Nat → Int), t ≠ 0 ∧ ∀ k, k < n → t * B x k = cmb B I c k := by
  obtain ⟨⟨a, b, u, h1, h2, h3, h4, h5, h6⟩, h7⟩ := h
  refine ⟨det B P I, fun i => (-1) * u i + 0 * u i, hb.dne, fun k hk => ?_⟩
  have := h3 k (by omega)
  rw [hz k hk, Int.mul_zero] at this
  rw [cmb_lin]
  rcases Int.mul_eq_zero.1 this.symm with q | q
  · exact absurd q h2
  omega
/-- and if it is a combination, nothing is left -/
theorem Ray.of_dep {x j : Nat} {X : Nat → Int} {done : Nat → Prop} (hnN : n ≤ N) (hPn : ∀ q ∈ P, q < n) (hb : Bs B I P) (h : Ray N B I P M x done j X) (hall : ∀ q ∈ P, done q) {t : Int} {c : Nat → Int} (ht : t ≠ 0) (hc : ∀ k, k < n → t * B x k = cmb B I c k) : ∀ k, k < n → X k = 0 := fun k hk => by
  obtain ⟨⟨a, b, u, h1, h2, h3, h4, h5, h6⟩, h7⟩ := h
  have e := hb.ind (fun i => det B P I * c i + t * u i) fun q hq => by
    rw [cmb_lin, ← hc q (hPn q hq)]
    have := h4 q hq (hall q hq)
    grind
  have e2 : cmb B I (fun i => det B P I * c i + t * u i) k = 0 := sumL_zero fun i hi => by
    show (det B P I * c i + t * u i) * B i k = 0
    rw [e i hi, Int.zero_mul]
  rw [cmb_lin, ← hc k hk] at e2
  have e3 : det B P I * B x k + cmb B I u k = 0 := by
    rcases Int.mul_eq_zero.1 (show t * (det B P I * B x k + cmb B I u k) = 0 by grind) with q | q
    · exact absurd q ht
    exact q
  have := h3 k (by omega)
  rw [e3, Int.mul_zero] at this
  exact (Int.mul_eq_zero.1 this).resolve_left h1
theorem cmb_ext {x : Nat} (hx : x ∉ I) (c : Nat → Int) (v : Int) (k : Nat) : cmb B (x :: I) (fun i => if i = x then v else c i) k = v * B x k + cmb B I c k := by
  show (if x = x then v else c x) * B x k + sumL I _ = _
  rw [if_pos rfl]
  congr 1
  exact sumL_cg fun i hi => by
    show (if i = x then v else c i) * B i k = c i * B i k
    rw [if_neg (fun q : i = x => hx (q ▸ hi))]
/-- a row that cannot is taken up -/
theorem St.new (hF : Fam N n B M R) (hm : m < 8) (h : St N n B m I P f) {j : Nat} {X : Nat → Int} {done : Nat → Prop} (hr : Ray N B I P M m done j X) (hall : ∀ q ∈ P, done q) {q : Nat} (hq : q < n) (hX : X q ≠ 0) {f' : Nat → Option (Nat → Int)} (hf : ∀ p, f' p = if p = q then some X else (f p).map (elimF N X q)) : St N n B (m + 1) (m :: I) (q :: P) f' := by
  have hPN : ∀ q ∈ P, q < N := fun q hq => Nat.lt_of_lt_of_le (h.lt q hq) hF.nN
  have hz := hr.zero hPN hall
  have hqP : q ∉ P := fun g => hX (hz q g)
  have hmI : m ∉ I := fun g => by have := h.im m g; omega
  have hqN : q < N := Nat.lt_of_lt_of_le hq hF.nN
  obtain ⟨⟨a, b, u, h1, h2, h3, h4, h5, h6⟩, h7⟩ := hr
  have hcv : ∀ k, cmb B (m :: I) (fun i => if i = m then det B P I else u i) k = det B P I * B m k + cmb B I u k := fun k => cmb_ext hmI u _ k
  have hb : Bs B (m :: I) (q :: P) := h.bs.add (c := fun i => if i = m then det B P I else u i) hmI hqP (by rw [if_pos rfl]; exact h.bs.dne) (fun p hp => by rw [hcv]; exact h4 p hp (hall p hp)) (by
    rw [hcv]
    intro e
    have := h3 q hqN
    rw [e, Int.mul_zero] at this
    exact (Int.mul_eq_zero.1 this).elim h1 hX)
  have hcb : ∀ k, k < N → a * X k = cmb B (m :: I) (fun i => b * (if i = m then det B P I else u i) + 0 * u i) k := fun k hk => by
    rw [cmb_lin, hcv, h3 k hk]; omega
  refine ⟨hb, fun p hp => ?_, fun i hi => ?_, fun p => ?_, fun p l hl => ?_, fun i hi => ?_⟩
  · rcases List.mem_cons.1 hp with g | g
    · omega
    exact h.lt p g
  · rcases List.mem_cons.1 hi with g | g
    · omega
    have := h.im i g; omega
  · rw [hf p, List.mem_cons]
    by_cases g : p = q
    · rw [if_pos g]; exact ⟨fun _ => .inl g, fun _ => ⟨X, rfl⟩⟩
    rw [if_neg g]
    constructor
    · rintro ⟨l, hl⟩
      cases e : f p with
      | none => rw [e] at hl; cases hl
      | some l' => exact .inr ((h.dom p).1 ⟨l', e⟩)
    rintro (g' | g')
    · exact absurd g' g
    obtain ⟨l', e⟩ := (h.dom p).2 g'
    exact ⟨elimF N X q l', by rw [e]; rfl⟩
  · rw [hf p] at hl
    by_cases g : p = q
    · rw [if_pos g] at hl
      injection hl with hl
      subst hl g
      refine ⟨⟨a, _, h1, hcb⟩, hX, fun r hr hn => ?_, ?_⟩
      · rcases List.mem_cons.1 hr with g | g
        · exact absurd g hn
        exact hz r g
      rcases h7 with e | e
      · rcases hF.pr with g | g
        · left; rw [e]; exact g m (by omega)
        right; intro k hk; rw [e]; exact hF.b4 m (by omega) k (by omega)
      exact .inl e
    rw [if_neg g] at hl
    cases e : f p with
    | none => rw [e] at hl; cases hl
    | some l0 =>
      rw [e] at hl
      have hl' : elimF N X q l0 = l := by injection hl
      subst hl'
      have he := h.ent p l0 e
      have hpP := (h.dom p).1 ⟨l0, e⟩
      obtain ⟨a0, c0, ha0, hc0⟩ := he.comb
      have hc1 : ∀ k, k < N → a0 * l0 k = cmb B (m :: I) (fun i => if i = m then 0 else c0 i) k := fun k hk => by
        rw [cmb_ext hmI, hc0 k hk]; omega
      by_cases g0 : l0 q = 0
      · rw [elimF_0 g0]
        refine ⟨⟨a0, _, ha0, hc1⟩, he.ne, fun r hr hn => ?_, he.pr⟩
        rcases List.mem_cons.1 hr with g | g
        · rw [g]; exact g0
        exact he.z r g hn
      rw [elimF_1 g0]
      obtain ⟨t, ht, hpe⟩ := prim_ex (linX (X q) l0 (-(l0 q)) X) N
      have hv : ∀ k, k < N → t * primF (linX (X q) l0 (-(l0 q)) X) N k = X q * l0 k + -(l0 q) * X k := fun k hk => (hpe k hk).symm
      refine ⟨⟨a * a0 * t, fun i => (a * X q) * (if i = m then 0 else c0 i) + (-(a0 * l0 q)) * (b * (if i = m then det B P I else u i) + 0 * u i), ?_, fun k hk => ?_⟩, fun e0 => ?_, fun r hr hn => ?_, .inl (prim_gcd _ N)⟩
      · exact fun e => (Int.mul_eq_zero.1 e).elim (fun e => (Int.mul_eq_zero.1 e).elim h1 ha0) ht
      · rw [cmb_lin, ← hc1 k hk, ← hcb k hk, Int.mul_assoc, hv k hk]; grind
      · have hpN := hPN p hpP
        have := hv p hpN
        rw [e0, hz p hpP, Int.mul_zero, Int.mul_zero, Int.add_zero] at this
        exact (Int.mul_eq_zero.1 this.symm).elim hX he.ne
      rcases List.mem_cons.1 hr with g' | g'
      · have := hv q hqN
        rw [g']
        rcases Int.mul_eq_zero.1 (show t * primF (linX (X q) l0 (-(l0 q)) X) N q = 0 by grind) with e | e
        · exact absurd e ht
        exact e
      have := hv r (hPN r g')
      rw [hz r g', he.z r g' hn] at this
      rcases Int.mul_eq_zero.1 (show t * primF (linX (X q) l0 (-(l0 q)) X) N r = 0 by grind) with e | e
      · exact absurd e ht
      exact e
  by_cases g : i = m
  · subst g
    refine ⟨1, fun j => if j = i then 1 else (fun _ => 0) j, by decide, fun k _ => ?_⟩
    rw [cmb_ext hmI, cmb_0]; omega
  obtain ⟨t, c, ht, hc⟩ := h.sp i (by omega)
  refine ⟨t, fun j => if j = m then 0 else c j, ht, fun k hk => ?_⟩
  rw [cmb_ext hmI, hc k hk]; omega
theorem St.old (hF : Fam N n B M R) (h : St N n B m I P f) {j : Nat} {X : Nat → Int} {done : Nat → Prop} (hr : Ray N B I P M m done j X) (hz : ∀ k, k < n → X k = 0) : St N n B (m + 1) I P f := by
  refine ⟨h.bs, h.lt, fun i hi => by have := h.im i hi; omega, h.dom, h.ent, fun i hi => ?_⟩
  by_cases g : i = m
  · subst g; exact hr.dep hF.nN h.bs hz
  exact h.sp i (by omega)
/-- row x is a combination of the first m -/
def CanQ (n : Nat) (B : Nat → Nat → Int) (m x : Nat) : Prop := ∃ (t : Int) (c : Nat → Int), t ≠ 0 ∧ ∀ k, k < n → t * B x k = cmb B (List.range m) c k
theorem cmb_succ (c : Nat → Int) (k m : Nat) : cmb B (List.range (m + 1)) c k = cmb B (List.range m) c k + c m * B m k := by
  unfold cmb
  rw [List.range_succ]
  generalize List.range m = J
  induction J with
  | nil => show c m * B m k + 0 = 0 + c m * B m k; omega
  | cons i J ih =>
    show c i * B i k + sumL (J ++ [m]) _ = c i * B i k + sumL J _ + c m * B m k
    rw [ih]; omega
theorem St.spanned (h : St N n B m I P f) : ∀ (m' : Nat), m' ≤ m → ∀ c : Nat → Int, ∃ (t : Int) (d : Nat → Int), t ≠ 0 ∧ ∀ k, k < n → t * cmb B (List.range m') c k = cmb B I d k
  | 0, _, c => ⟨1, fun _ => 0, by decide, fun k _ => by rw [cmb_0]; show 1 * (0 : Int) = 0; rfl⟩
  | m' + 1, hm, c => by
    obtain ⟨t, d, ht, hd⟩ := h.spanned m' (by omega) c
    obtain ⟨s, e, hs, he⟩ := h.sp m' (by omega)
    refine ⟨t * s, fun i => s * d i + (t * c m') * e i, fun g => (Int.mul_eq_zero.1 g).elim ht hs, fun k hk => ?_⟩
    rw [cmb_succ, cmb_lin, ← hd k hk, ← he k hk]
    grind
theorem cmb_in {c : Nat → Int} {m : Nat} (hn : I.Nodup) (him : ∀ i ∈ I, i < m) (k : Nat) : cmb B I c k = cmb B (List.range m) (fun i => if i ∈ I then c i else 0) k := by
  have e : ∀ (J : List Nat), J.Nodup → sumL J (fun i => (if i ∈ I then c i else 0) * B i k) = sumL (J.filter (· ∈ I)) fun i => c i * B i k := fun J => by
    induction J with
    | nil => exact fun _ => rfl
    | cons i J ih =>
      intro hJ
      rw [List.nodup_cons] at hJ
      show (if i ∈ I then c i else 0) * B i k + sumL J _ = _
      rw [ih hJ.2, List.filter_cons]
      by_cases g : i ∈ I
      · rw [if_pos g, if_pos (by simpa using g)]; rfl
      rw [if_neg g, if_neg (by simpa using g)]; omega
  show sumL I _ = sumL (List.range m) _
  rw [e _ List.nodup_range]
  have hp : I.Perm ((List.range m).filter (· ∈ I)) := by
    refine (List.perm_ext_iff_of_nodup hn (List.nodup_range.filter _)).2 fun i => ?_
    simp only [List.mem_filter, List.mem_range, decide_eq_true_eq]
    exact ⟨fun g => ⟨him i g, g⟩, fun g => g.2⟩
  exact sumL_perm hp
where
  sumL_perm {f : Nat → Int} {I J : List Nat} (p : I.Perm J) : sumL I f = sumL J f := by
    induction p with
    | nil => rfl
    | cons x _ ih => show f x + _ = f x + _; rw [ih]
    | swap x y l => show f y + (f x + _) = f x + (f y + _); omega
    | trans _ _ ih1 ih2 => rw [ih1, ih2]
theorem Ray.can (hF : Fam N n B M R) (h : St N n B m I P f) {x j : Nat} {X : Nat → Int} {done : Nat → Prop} (hr : Ray N B I P M x done j X) (hall : ∀ q ∈ P, done q) : (∀ k, k < n → X k = 0) ↔ CanQ n B m x := by
  constructor
  · intro hz
    obtain ⟨t, c, ht, hc⟩ := hr.dep hF.nN h.bs hz
    exact ⟨t, _, ht, fun k hk => by rw [hc k hk]; exact cmb_in h.bs.iN h.im k⟩
  rintro ⟨t, c, ht, hc⟩
  obtain ⟨s, d, hs, hd⟩ := h.spanned m (Nat.le_refl _) c
  exact hr.of_dep hF.nN h.lt h.bs hall (t := s * t) (c := d) (fun g => (Int.mul_eq_zero.1 g).elim hs ht) fun k hk => by
    rw [Int.mul_assoc, hc k hk, hd k hk]
end
end Go.Proofs.Ytelmclmklkiphaa
namespace Go.Proofs.Ytelmclmklkiphaa
open Go Go.TH
set_option maxHeartbeats 1000000
theorem zr5_at {X : Nat → Int} (h : zr5 X) : ∀ k, k < 5 → X k = 0 := fun k hk => by
  obtain ⟨a0, a1, a2, a3, a4⟩ := h
  match k, hk with
  | 0, _ => exact a0
  | 1, _ => exact a1
  | 2, _ => exact a2
  | 3, _ => exact a3
  | 4, _ => exact a4
theorem dotN_mul (a : Int) (g h : Nat → Int) : ∀ n, dotN (fun k => a * g k) h n = a * dotN g h n
  | 0 => (Int.mul_zero a).symm
  | n + 1 => by
    show dotN (fun k => a * g k) h n + a * g n * h n = a * (dotN g h n + g n * h n)
    rw [dotN_mul a g h n, Int.mul_add, Int.mul_assoc]
theorem dotN_add (g g' h : Nat → Int) : ∀ n, dotN (fun k => g k + g' k) h n = dotN g h n + dotN g' h n
  | 0 => rfl
  | n + 1 => by
    show dotN (fun k => g k + g' k) h n + (g n + g' n) * h n = (dotN g h n + g n * h n) + (dotN g' h n + g' n * h n)
    rw [dotN_add g g' h n, Int.add_mul]; omega
/-- a hull, and what its sums by the rows are -/
def HuV (rows : List (List Int)) (vals : List Int) (h : Nat → Int) : Prop := (∀ k, -10 ≤ h k ∧ h k ≤ 10) ∧ ∀ i, fnL vals i = dotN (fnL (rows.getD i [])) h 5
/-- the rows, and the one that is asked for -/
def famP (rows : List (List Int)) (vals : List Int) (r : List Int) (i k : Nat) : Int := if i = 8 then rowX r 0 8 k else rowX (rows.getD i []) (fnL vals i) i k
theorem askX_eq (r : List Int) : askX r = rowX r 0 8 := by
  funext k
  unfold askX rowX
  by_cases h : k < 5
  · rw [if_pos h, if_pos h]
  rw [if_neg h, if_neg h]
  by_cases h5 : k = 5
  · rw [if_pos h5, if_neg (by omega)]
  rw [if_neg h5]
section
variable {n : Nat} {rows : List (List Int)} {vals r : List Int} {h : Nat → Int}
theorem famP_8 : famP rows vals r 8 = askX r := by
  funext k
  unfold famP
  rw [if_pos rfl, askX_eq]
theorem famP_i {i : Nat} (hi : i < 8) : famP rows vals r i = rowX (rows.getD i []) (fnL vals i) i := by
  funext k
  unfold famP
  rw [if_neg (by omega)]
theorem rowX_lt {l : List Int} {v : Int} {i k : Nat} (h : k < 5) : rowX l v i k = fnL l k := if_pos h
theorem rowX_5 {l : List Int} {v : Int} {i : Nat} : rowX l v i 5 = v := by
  unfold rowX
  rw [if_neg (by omega), if_pos rfl]
theorem rowX_6 {l : List Int} {v : Int} {i k : Nat} (h : 6 ≤ k) : rowX l v i k = if k = 6 + i then 1 else 0 := by
  unfold rowX
  rw [if_neg (by omega), if_neg (by omega)]
theorem fnL_out {l : List Int} {k : Nat} (h : l.length ≤ k) : fnL l k = 0 := by
  unfold fnL
  rw [List.getD_eq_getElem?_getD, List.getElem?_eq_none h]; rfl
theorem row_in (hok : OkB n rows) (i k : Nat) : (-4 ≤ fnL (rows.getD i []) k ∧ fnL (rows.getD i []) k ≤ 4) ∧ (n ≤ k → fnL (rows.getD i []) k = 0) := by
  by_cases hi : i < rows.length
  · exact ⟨fnL_in (hok.2.2.2 _ (getD_mem hi [])) k, fun h => fnL_out (by have := hok.len hi; omega)⟩
  have e : rows.getD i [] = [] := by rw [List.getD_eq_getElem?_getD, List.getElem?_eq_none (by omega)]; rfl
  rw [e]
  exact ⟨by rw [fnL_out (Nat.zero_le k)]; decide, fun _ => fnL_out (Nat.zero_le k)⟩
/-- numbers of the rows -/
def Gr (rows : List (List Int)) (i k : Nat) : Int := fnL (rows.getD i []) k
theorem fam_at {i k : Nat} (hk : k < 5) : famP rows vals r i k = if i = 8 then fnL r k else Gr rows i k := by
  unfold famP Gr
  rw [rowX_lt hk, rowX_lt hk]
theorem cmb_dot (h : Nat → Int) (B : Nat → Nat → Int) (I : List Nat) (c : Nat → Int) : ∀ m, sumL I (fun i => c i * dotN (B i) h m) = dotN (cmb B I c) h m
  | 0 => sumL_zero fun i _ => Int.mul_zero _
  | m + 1 => by
    show _ = dotN (cmb B I c) h m + cmb B I c m * h m
    rw [← cmb_dot h B I c m, Int.mul_comm (cmb B I c m), cmb, ← sumL_mul, ← sumL_add]
    refine sumL_cg fun i _ => ?_
    show c i * (dotN (B i) h m + B i m * h m) = _
    grind
theorem fam_6 {I : List Nat} {c : Nat → Int} (hn : I.Nodup) (hI : ∀ i ∈ I, i < 8) {k : Nat} (hk : 6 ≤ k) : cmb (famP rows vals r) I c k = if k - 6 ∈ I then c (k - 6) else 0 := by
  have e : cmb (famP rows vals r) I c k = sumL I fun i => (if i = k - 6 then 1 else 0) * c i := sumL_cg fun i hi => by
    have := hI i hi
    rw [famP_i this, rowX_6 hk, Int.mul_comm]
    congr 1
    by_cases g : k = 6 + i
    · rw [if_pos g, if_pos (by omega)]
    rw [if_neg g, if_neg (by omega)]
  rw [e]
  by_cases g : k - 6 ∈ I
  · rw [if_pos g, sumL_one hn g]
  rw [if_neg g]
  exact sumL_zero fun i hi => by rw [if_neg (fun q : i = k - 6 => g (q ▸ hi)), Int.zero_mul]
theorem fam_5 (hv : HuV rows vals h) {I : List Nat} {c : Nat → Int} (hI : ∀ i ∈ I, i < 8) : cmb (famP rows vals r) I c 5 = dotN (cmb (famP rows vals r) I c) h 5 := by
  rw [← cmb_dot]
  refine sumL_cg fun i hi => ?_
  rw [famP_i (hI i hi), rowX_5, hv.2 i]
  exact congrArg (c i * ·) (dotN_cg (fun k hk => by rw [rowX_lt hk]) fun _ _ => rfl)
theorem fam_pad (hok : OkB n rows) (hr : (r.length : Int) = n) {i k : Nat} (hk : k < 5) (hn : n ≤ k) : famP rows vals r i k = 0 := by
  rw [fam_at hk]
  split
  · exact fnL_out (by omega)
  exact (row_in hok i k).2 hn
theorem cmb_pad (hok : OkB n rows) (hr : (r.length : Int) = n) (I : List Nat) (c : Nat → Int) {k : Nat} (hk : k < 5) (hn : n ≤ k) : cmb (famP rows vals r) I c k = 0 := sumL_zero fun i _ => by rw [fam_pad hok hr hk hn, Int.mul_zero]
theorem fam_ok (hok : OkB n rows) (hv : HuV rows vals h) (hr : (r.length : Int) = n) (hw : WiB 4 r) : Fam 15 n (famP rows vals r) 6144000 200 := by
  have hn := hok.2.1
  have h4 : ∀ i k, k < 5 → -4 ≤ famP rows vals r i k ∧ famP rows vals r i k ≤ 4 := fun i k hk => by
    rw [fam_at hk]
    split
    · exact fnL_in hw k
    exact (row_in hok i k).1
  have hval : ∀ i, -200 ≤ fnL vals i ∧ fnL vals i ≤ 200 := fun i => by
    rw [hv.2 i]
    have := dotN_bd (g := fnL (rows.getD i [])) (h := h) (A := 4) (B := 10) (n := 5) (fun k _ => (row_in hok i k).1) (fun k _ => hv.1 k)
    omega
  refine ⟨by omega, by omega, fun i _ k hk => h4 i k (by omega), fun i hi k hk => ?_, fun I c hn' hI h1 h2 k hk => ?_, by decide, by decide, by decide, .inl fun i hi => ?_⟩
  · by_cases h5 : k < 5
    · have := h4 i k h5; omega
    unfold famP
    split
    · by_cases g : k = 5
      · subst g; rw [rowX_5]; decide
      rw [rowX_6 (by omega)]; split <;> decide
    by_cases g : k = 5
    · subst g; rw [rowX_5]; exact hval i
    rw [rowX_6 (by omega)]; split <;> decide
  · have h3 : ∀ k, k < 5 → -122880 ≤ cmb (famP rows vals r) I c k ∧ cmb (famP rows vals r) I c k ≤ 122880 := fun k hk => by
      by_cases g : k < n
      · exact h1 k g
      rw [cmb_pad hok hr I c hk (by omega)]; decide
    by_cases h5 : k < 5
    · have := h3 k h5; omega
    by_cases g : k = 5
    · subst g
      rw [fam_5 hv hI]
      have := dotN_bd (g := cmb (famP rows vals r) I c) (h := h) (A := 122880) (B := 10) (n := 5) h3 (fun k _ => hv.1 k)
      omega
    rw [fam_6 hn' hI (by omega)]
    split
    · have := h2 (k - 6); omega
    decide
  have e : famP rows vals r i (6 + i) = 1 := by
    unfold famP
    split
    · rename_i g; subst g; rw [rowX_6 (by omega), if_pos rfl]
    rw [rowX_6 (by omega), if_pos rfl]
  have := gcdF_of (X := famP rows vals r i) (n := 15) (k := 6 + i) (by omega)
  rw [e] at this
  exact Nat.le_of_dvd (by decide) this
end
/-! ## The table -/
theorem ray_less {N n m : Nat} {B : Nat → Nat → Int} {M R : Int} {I P : List Nat} {f : Nat → Option (Nat → Int)} (hF : Fam N n B M R) (hst : St N n B m I P f) (hm : m ≤ 8) {x : Nat} (hx : x < 9) : ∀ k, k ≤ n → ∃ j, j ≤ k ∧ Ray N B I P M x (fun q => q < k) j (lessN N f (B x) k)
  | 0, _ => ⟨0, Nat.le_refl _, Ray.start hst.bs x fun _ _ => Nat.not_lt_zero _⟩
  | k + 1, hk => by
    obtain ⟨j, hj, hr⟩ := ray_less hF hst hm hx k (by omega)
    show ∃ j, j ≤ k + 1 ∧ Ray N B I P M x (fun q => q < k + 1) j (stpF N f (lessN N f (B x) k) k)
    cases e : f k with
    | none =>
      have hkP : k ∉ P := fun g => by
        obtain ⟨l, hl⟩ := (hst.dom k).2 g
        rw [e] at hl; cases hl
      refine ⟨j, by omega, ?_⟩
      rw [stpF_none (by rw [e]; decide)]
      refine hr.skip fun q hq => ⟨fun g => ?_, fun g => by omega⟩
      have : q ≠ k := fun e' => hkP (e' ▸ hq)
      omega
    | some l =>
      have hkP := (hst.dom k).1 ⟨l, e⟩
      obtain ⟨c, hc⟩ := hst.cof hF hm hkP
      refine ⟨j + 1, by omega, ?_⟩
      rw [stpF_some e]
      exact hr.step (fun q hq => Nat.lt_of_lt_of_le (hst.lt q hq) hF.nN) hst.bs hF.M4 hkP (Nat.lt_irrefl k) (fun q _ => by omega) (hst.ent k l e) hc (hF.b4 x hx k (by omega))
section
variable {n : Nat} {rows : List (List Int)} {vals r : List Int} {h : Nat → Int}
theorem less_zero (hok : OkB n rows) (hr : (r.length : Int) = n) {I P : List Nat} {x j : Nat} {X : Nat → Int} {done : Nat → Prop} (hy : Ray 15 (famP rows vals r) I P 6144000 x done j X) {k : Nat} (hk : k < 5) (hn : n ≤ k) : X k = 0 := by
  obtain ⟨⟨a, b, u, h1, h2, h3, _⟩, _⟩ := hy
  have := h3 k (by omega)
  rw [fam_pad hok hr hk hn, cmb_pad hok hr I u hk hn, Int.mul_zero, Int.add_zero, Int.mul_zero] at this
  exact (Int.mul_eq_zero.1 this).resolve_left h1
theorem tab_st (hok : OkB n rows) (hv : HuV rows vals h) (hr : (r.length : Int) = n) (hw : WiB 4 r) : ∀ i, i ≤ rows.length → ∃ I P, St 15 n (famP rows vals r) i I P (tabF n rows vals i)
  | 0, _ => ⟨[], [], St.nil _ _ _⟩
  | i + 1, hi => by
    obtain ⟨I, P, hst⟩ := tab_st hok hv hr hw i (by omega)
    have h8 := hok.1
    have hF := fam_ok hok hv hr hw
    have hn := hok.2.1
    obtain ⟨j, hj, hy⟩ := ray_less hF hst (by omega) (x := i) (by omega) n (Nat.le_refl n)
    rw [famP_i (by omega)] at hy
    have hall : ∀ q ∈ P, q < n := hst.lt
    show ∃ I P, St 15 n (famP rows vals r) (i + 1) I P (tabS (tabF n rows vals i) (redX n rows vals i n))
    have hyX : Ray 15 (famP rows vals r) I P 6144000 i (fun q => q < n) j (redX n rows vals i n) := hy
    rcases fst_spec (redX n rows vals i n) 5 with ⟨e, h0⟩ | ⟨h1, h2, h3⟩
    · refine ⟨I, P, ?_⟩
      unfold tabS
      rw [if_pos e]
      exact hst.old hF hyX fun k hk => h0 k (by omega)
    have hq : fst (redX n rows vals i n) 5 < n := by
      refine Decidable.byContradiction fun g => h2 ?_
      exact less_zero hok hr hyX h1 (by omega)
    refine ⟨i :: I, fst (redX n rows vals i n) 5 :: P, ?_⟩
    unfold tabS
    rw [if_neg (by omega)]
    exact hst.new hF (by omega) hyX hall hq h2 fun p => rfl
/-- all numbers of the table stay small -/
theorem tab_bd (hok : OkB n rows) (hv : HuV rows vals h) : BdT n rows vals := fun i hi => by
  have hn := hok.2.1
  have h8 := hok.1
  have hr : (((List.replicate n (0 : Int)).length : Nat) : Int) = n := by simp
  have hw : WiB 4 (List.replicate n 0) := fun x hx => by rw [List.mem_replicate] at hx; omega
  have hF := fam_ok hok hv hr hw
  obtain ⟨I, P, hst⟩ := tab_st hok hv hr hw i (by omega)
  refine ⟨fun p l hl k hk => hst.bdF hF (by omega) hl hk, fun k hk => ?_⟩
  obtain ⟨j, hj, hy⟩ := ray_less hF hst (by omega) (x := i) (by omega) k hk
  rw [famP_i (by omega)] at hy
  exact fun t ht => hy.bd hF hst (by omega) (by omega) (by omega) ht
/-- what is left of a row that is asked for -/
def askF (n : Nat) (rows : List (List Int)) (vals r : List Int) (k : Nat) : Nat → Int := lessN 15 (tabF n rows vals rows.length) (askX r) k
theorem ask_bd (hok : OkB n rows) (hv : HuV rows vals h) (hr : (r.length : Int) = n) (hw : WiB 4 r) : BdF (tabF n rows vals rows.length) ∧ ∀ k, k ≤ n → BdV (askF n rows vals r k) := by
  have hn := hok.2.1
  have h8 := hok.1
  have hF := fam_ok hok hv hr hw
  obtain ⟨I, P, hst⟩ := tab_st hok hv hr hw rows.length (Nat.le_refl _)
  refine ⟨fun p l hl k hk => hst.bdF hF h8 hl hk, fun k hk => ?_⟩
  obtain ⟨j, hj, hy⟩ := ray_less hF hst h8 (x := 8) (by omega) k hk
  rw [famP_8] at hy
  exact fun t ht => hy.bd hF hst h8 (by omega) (by omega) ht
/-- row r is a combination of the rows -/
def CanD (n : Nat) (rows : List (List Int)) (r : List Int) : Prop := ∃ (t : Int) (c : Nat → Int), t ≠ 0 ∧ ∀ k, k < n → t * fnL r k = cmb (Gr rows) (List.range rows.length) c k
theorem can_fam (hok : OkB n rows) : CanQ n (famP rows vals r) rows.length 8 ↔ CanD n rows r := by
  have hn := hok.2.1
  have h8 := hok.1
  have e : ∀ (c : Nat → Int) k, k < n → cmb (famP rows vals r) (List.range rows.length) c k = cmb (Gr rows) (List.range rows.length) c k := fun c k hk => sumL_cg fun i hi => by
    have : i < rows.length := by simpa using hi
    rw [fam_at (by omega), if_neg (by omega)]
  constructor
  · rintro ⟨t, c, ht, hc⟩
    refine ⟨t, c, ht, fun k hk => ?_⟩
    rw [← e c k hk, ← hc k hk, fam_at (by omega), if_pos rfl]
  rintro ⟨t, c, ht, hc⟩
  refine ⟨t, c, ht, fun k hk => ?_⟩
  rw [e c k hk, ← hc k hk, fam_at (by omega), if_pos rfl]
theorem ask_can (hok : OkB n rows) (hv : HuV rows vals h) (hr : (r.length : Int) = n) (hw : WiB 4 r) : zr5 (askF n rows vals r n) ↔ CanD n rows r := by
  have hn := hok.2.1
  have h8 := hok.1
  have hF := fam_ok hok hv hr hw
  obtain ⟨I, P, hst⟩ := tab_st hok hv hr hw rows.length (Nat.le_refl _)
  obtain ⟨j, hj, hy⟩ := ray_less hF hst h8 (x := 8) (by omega) n (Nat.le_refl n)
  have hy' : Ray 15 (famP rows vals r) I P 6144000 8 (fun q => q < n) j (askF n rows vals r n) := by rw [famP_8] at hy; exact hy
  have h1 := hy'.can hF hst hst.lt
  rw [can_fam hok] at h1
  rw [← h1]
  unfold zr5
  constructor
  · rintro ⟨a0, a1, a2, a3, a4⟩ k hk
    match k, (show k < 5 by omega) with
    | 0, _ => exact a0
    | 1, _ => exact a1
    | 2, _ => exact a2
    | 3, _ => exact a3
    | 4, _ => exact a4
  intro g
  have : ∀ k, k < 5 → askF n rows vals r n k = 0 := fun k hk => by
    by_cases e : k < n
    · exact g k e
    exact less_zero hok hr hy' hk (by omega)
  exact ⟨this 0 (by omega), this 1 (by omega), this 2 (by omega), this 3 (by omega), this 4 (by omega)⟩
/-- what the numbers left say -/
theorem ask_lin (hok : OkB n rows) (hv : HuV rows vals h) (hr : (r.length : Int) = n) (hw : WiB 4 r) : askF n rows vals r n 14 ≠ 0 ∧ ∀ k, k < 5 → askF n rows vals r n k = askF n rows vals r n 14 * fnL r k + cmb (Gr rows) (List.range rows.length) (fun i => askF n rows vals r n (6 + i)) k := by
  have hn := hok.2.1
  have h8 := hok.1
  have hF := fam_ok hok hv hr hw
  obtain ⟨I, P, hst⟩ := tab_st hok hv hr hw rows.length (Nat.le_refl _)
  obtain ⟨j, hj, hy⟩ := ray_less hF hst h8 (x := 8) (by omega) n (Nat.le_refl n)
  have hy' : Ray 15 (famP rows vals r) I P 6144000 8 (fun q => q < n) j (askF n rows vals r n) := by rw [famP_8] at hy; exact hy
  obtain ⟨⟨a, b, u, h1, h2, h3, h4, h5, h6⟩, h7⟩ := hy'
  have hI : ∀ i ∈ I, i < 8 := fun i hi => by have := hst.im i hi; omega
  have e14 : a * askF n rows vals r n 14 = b * det (famP rows vals r) P I := by
    rw [h3 14 (by omega), famP_8, fam_6 hst.bs.iN hI (by omega), if_neg (fun g => by have := hI _ g; omega)]
    show b * (det (famP rows vals r) P I * 1 + 0) = _
    rw [Int.mul_one, Int.add_zero]
  have e6 : ∀ i, i < 8 → a * askF n rows vals r n (6 + i) = b * if i ∈ I then u i else 0 := fun i hi => by
    rw [h3 (6 + i) (by omega), famP_8, fam_6 hst.bs.iN hI (by omega), askX_eq, rowX_6 (by omega), if_neg (by omega), show 6 + i - 6 = i by omega, Int.mul_zero, Int.zero_add]
  refine ⟨fun g => ?_, fun k hk => ?_⟩
  · rw [g, Int.mul_zero] at e14
    exact (Int.mul_eq_zero.1 e14.symm).elim h2 hst.bs.dne
  refine cancel h1 ?_
  have e1 : cmb (famP rows vals r) I u k = cmb (Gr rows) (List.range rows.length) (fun i => if i ∈ I then u i else 0) k := by
    rw [cmb_in hst.bs.iN hst.im]
    refine sumL_cg fun i hi => ?_
    have : i < rows.length := by simpa using hi
    rw [fam_at hk, if_neg (by omega)]
  have e2 : a * cmb (Gr rows) (List.range rows.length) (fun i => askF n rows vals r n (6 + i)) k = b * cmb (Gr rows) (List.range rows.length) (fun i => if i ∈ I then u i else 0) k := by
    rw [cmb, cmb, ← sumL_mul, ← sumL_mul]
    refine sumL_cg fun i hi => ?_
    have : i < rows.length := by simpa using hi
    rw [← Int.mul_assoc, e6 i (by omega), ← Int.mul_assoc]
  rw [h3 k (by omega), e1, Int.mul_add, Int.mul_add, e2, ← Int.mul_assoc a, e14, fam_at hk, if_pos rfl, Int.mul_assoc]
theorem ask_val (hok : OkB n rows) (hv : HuV rows vals h) (hr : (r.length : Int) = n) (hw : WiB 4 r) (hz : zr5 (askF n rows vals r n)) : askF n rows vals r n 5 = -(askF n rows vals r n 14 * dotN (fnL r) h 5) := by
  have hn := hok.2.1
  have h8 := hok.1
  have hF := fam_ok hok hv hr hw
  obtain ⟨I, P, hst⟩ := tab_st hok hv hr hw rows.length (Nat.le_refl _)
  obtain ⟨j, hj, hy⟩ := ray_less hF hst h8 (x := 8) (by omega) n (Nat.le_refl n)
  have hy' : Ray 15 (famP rows vals r) I P 6144000 8 (fun q => q < n) j (askF n rows vals r n) := by rw [famP_8] at hy; exact hy
  obtain ⟨⟨a, b, u, h1, h2, h3, h4, h5, h6⟩, h7⟩ := hy'
  have hI : ∀ i ∈ I, i < 8 := fun i hi => by have := hst.im i hi; omega
  have e14 : a * askF n rows vals r n 14 = b * det (famP rows vals r) P I := by
    rw [h3 14 (by omega), famP_8, fam_6 hst.bs.iN hI (by omega), if_neg (fun g => by have := hI _ g; omega)]
    show b * (det (famP rows vals r) P I * 1 + 0) = _
    rw [Int.mul_one, Int.add_zero]
  have hz5 : ∀ k, k < 5 → askF n rows vals r n k = 0 := zr5_at hz
  have e5 : dotN (cmb (famP rows vals r) I u) h 5 = -(det (famP rows vals r) P I * dotN (fnL r) h 5) := by
    rw [show dotN (cmb (famP rows vals r) I u) h 5 = dotN (fun k => -(det (famP rows vals r) P I) * fnL r k) h 5 from dotN_cg (fun k hk => by
      have := h3 k (by omega)
      rw [hz5 k hk, Int.mul_zero, fam_at hk, if_pos rfl] at this
      rcases Int.mul_eq_zero.1 this.symm with g | g
      · exact absurd g h2
      rw [Int.neg_mul]; omega) (fun _ _ => rfl), dotN_mul, Int.neg_mul]
  refine cancel h1 ?_
  rw [h3 5 (by omega), fam_5 hv hI, famP_8, e5, show askX r 5 = 0 from rfl, Int.mul_zero, Int.zero_add, Int.mul_neg, Int.mul_neg, ← Int.mul_assoc, ← Int.mul_assoc, e14]
/-- no values contradict each other -/
theorem good_all (hok : OkB n rows) (hv : HuV rows vals h) : ∀ i, i ≤ rows.length → goodF n rows vals i = true
  | 0, _ => rfl
  | i + 1, hi => by
    have hn := hok.2.1
    have h8 := hok.1
    have hr : (((List.replicate n (0 : Int)).length : Nat) : Int) = n := by simp
    have hw : WiB 4 (List.replicate n 0) := fun x hx => by rw [List.mem_replicate] at hx; omega
    have hF := fam_ok hok hv hr hw
    obtain ⟨I, P, hst⟩ := tab_st hok hv hr hw i (by omega)
    obtain ⟨j, hj, hy⟩ := ray_less hF hst (by omega) (x := i) (by omega) n (Nat.le_refl n)
    show (goodF n rows vals i && _) = true
    rw [good_all hok hv i (by omega), Bool.true_and]
    rcases fst_spec (redX n rows vals i n) 5 with ⟨e, h0⟩ | ⟨h1, h2, h3⟩
    · rw [if_pos e]
      refine bl_t.2 ⟨⟨h0 0 (by omega), h0 1 (by omega), h0 2 (by omega), h0 3 (by omega), h0 4 (by omega)⟩, ?_⟩
      have e' : lessN 15 (tabF n rows vals i) (famP rows vals (List.replicate n 0) i) n = redX n rows vals i n := by rw [famP_i (by omega)]; rfl
      rw [e'] at hy
      obtain ⟨⟨a, b, u, h1, h2, h3, h4, h5, h6⟩, h7⟩ := hy
      have hI : ∀ i ∈ I, i < 8 := fun j hj => by have := hst.im j hj; omega
      have e5 : det (famP rows vals (List.replicate n 0)) P I * famP rows vals (List.replicate n 0) i 5 + cmb (famP rows vals (List.replicate n 0)) I u 5 = 0 := by
        rw [fam_5 hv hI, famP_i (by omega), rowX_5, hv.2 i, ← dotN_mul, ← dotN_add, show dotN (fun k => det (famP rows vals (List.replicate n 0)) P I * fnL (rows.getD i []) k + cmb (famP rows vals (List.replicate n 0)) I u k) h 5 = dotN (fun _ => 0) h 5 from dotN_cg (fun k hk => by
          have := h3 k (by omega)
          rw [h0 k hk, Int.mul_zero, famP_i (by omega), rowX_lt hk] at this
          exact (Int.mul_eq_zero.1 this.symm).resolve_left h2) (fun _ _ => rfl)]
        simp [dotN]
      have := h3 5 (by omega)
      rw [e5, Int.mul_zero] at this
      exact (Int.mul_eq_zero.1 this).resolve_left h1
    rw [if_neg (by omega)]
end
end Go.Proofs.Ytelmclmklkiphaa
namespace Go.Proofs.Ytelmclmklkiphaa
open Go Go.TH
set_option maxHeartbeats 1000000
def famR (rows : List (List Int)) (r : List Int) (i k : Nat) : Int := if i = 8 then fnL r k else Gr rows i k
theorem famR_ok {n : Nat} {rows : List (List Int)} {r : List Int} (hok : OkB n rows) (hw : WiB 4 r) : Fam n n (famR rows r) 122880 4 := by
  have hn := hok.2.1
  have h4 : ∀ i k, -4 ≤ famR rows r i k ∧ famR rows r i k ≤ 4 := fun i k => by
    unfold famR
    split
    · exact fnL_in hw k
    exact (row_in hok i k).1
  exact ⟨by omega, Nat.le_refl n, fun i _ k _ => h4 i k, fun i _ k _ => h4 i k, fun I c _ _ h1 _ k hk => h1 k hk, by decide, by decide, by decide, .inr rfl⟩
def zf : Nat → Int := fun _ => 0
/-- the lists, and at which place each one begins -/
structure Ri (n : Nat) (B : Nat → Nat → Int) (m : Nat) (I P : List Nat) (f : Nat → Option (Nat → Int)) (ps : List Nat) (Ls : List (Nat → Int)) : Prop where
  st : St n n B m I P f
  len : ps.length = Ls.length
  nd : ps.Nodup
  at_ : ∀ j, j < Ls.length → f (ps.getD j 0) = some (Ls.getD j fun _ => 0)
  lead : ∀ j, j < Ls.length → ∀ k, k < ps.getD j 0 → (Ls.getD j fun _ => 0) k = 0
  all : ∀ p ∈ P, ∃ j, j < Ls.length ∧ ps.getD j 0 = p
theorem Ri.nil (n : Nat) (B : Nat → Nat → Int) : Ri n B 0 [] [] (fun _ => none) [] [] := ⟨St.nil n n B, rfl, List.nodup_nil, fun j h => absurd h (Nat.not_lt_zero j), fun j h => absurd h (Nat.not_lt_zero j), fun p h => absurd h List.not_mem_nil⟩
section
variable {n m : Nat} {B : Nat → Nat → Int} {M R : Int} {I P ps : List Nat} {f : Nat → Option (Nat → Int)} {Ls : List (Nat → Int)}
theorem Ri.mem (h : Ri n B m I P f ps Ls) {j : Nat} (hj : j < Ls.length) : ps.getD j 0 ∈ P := (h.st.dom _).1 ⟨_, h.at_ j hj⟩
theorem Ri.first (h : Ri n B m I P f ps Ls) {j : Nat} (hj : j < Ls.length) : fst (Ls.getD j fun _ => 0) n = ps.getD j 0 :=
  fst_hit (h.st.lt _ (h.mem hj)) (h.lead j hj) (h.st.ent _ _ (h.at_ j hj)).ne
theorem nd_inj {ps : List Nat} (hn : ps.Nodup) {i j : Nat} (hi : i < ps.length) (hj : j < ps.length) (e : ps.getD i 0 = ps.getD j 0) : i = j := by
  rw [List.getD_eq_getElem?_getD, List.getD_eq_getElem?_getD, List.getElem?_eq_getElem hi, List.getElem?_eq_getElem hj] at e
  have e' : ps[i] = ps[j] := e
  have hp := List.pairwise_iff_getElem.1 hn
  rcases Nat.lt_trichotomy i j with g | g | g
  · exact absurd e' (hp i j hi hj g)
  · exact g
  exact absurd e'.symm (hp j i hj hi g)
/-- the first j places -/
def dnP (ps : List Nat) (j q : Nat) : Prop := ∃ i, i < j ∧ ps.getD i 0 = q
theorem ray_lessR (hF : Fam n n B M R) (h : Ri n B m I P f ps Ls) (hm : m ≤ 8) {x : Nat} (hx : x < 9) : ∀ j, j ≤ Ls.length → Ray n B I P M x (dnP ps j) j (lessR n n Ls (B x) j)
  | 0, _ => Ray.start h.st.bs x fun q _ ⟨i, hi, _⟩ => Nat.not_lt_zero i hi
  | j + 1, hj => by
    have hr := ray_lessR hF h hm hx j (by omega)
    have hP := h.mem (j := j) (by omega)
    obtain ⟨c, hc⟩ := h.st.cof hF hm hP
    show Ray n B I P M x (dnP ps (j + 1)) (j + 1) (elimF n (Ls.getD j fun _ => 0) (fst (Ls.getD j fun _ => 0) n) (lessR n n Ls (B x) j))
    rw [h.first (by omega)]
    refine hr.step (fun q hq => h.st.lt q hq) h.st.bs hF.M4 hP ?_ (fun q _ => ?_) (h.st.ent _ _ (h.at_ j (by omega))) hc (hF.b4 x hx _ (h.st.lt _ hP))
    · rintro ⟨i, hi, e⟩
      have := nd_inj h.nd (by rw [h.len]; omega) (by rw [h.len]; omega) e
      omega
    unfold dnP
    constructor
    · rintro ⟨i, hi, e⟩
      by_cases g : i = j
      · subst g; exact .inr e.symm
      exact .inl ⟨i, by omega, e⟩
    rintro (⟨i, hi, e⟩ | e)
    · exact ⟨i, by omega, e⟩
    exact ⟨j, by omega, e.symm⟩
theorem Ri.done (h : Ri n B m I P f ps Ls) : ∀ q ∈ P, dnP ps Ls.length q := fun q hq => h.all q hq
theorem Ri.le5 (hF : Fam n n B M R) (h : Ri n B m I P f ps Ls) : Ls.length ≤ 5 := by
  rw [← h.len]
  refine Nat.le_trans (nodup_le h.nd fun p hp => ?_) hF.n5
  obtain ⟨i, hi, rfl⟩ := List.getElem_of_mem hp
  have h1 : i < Ls.length := by rw [← h.len]; exact hi
  have := h.st.lt _ (h.mem h1)
  rwa [List.getD_eq_getElem?_getD, List.getElem?_eq_getElem hi] at this
theorem Ri.new (hF : Fam n n B M R) (h : Ri n B m I P f ps Ls) (hm : m < 8) {X : Nat → Int} {j : Nat} {done : Nat → Prop} (hr : Ray n B I P M m done j X) (hall : ∀ q ∈ P, done q) (hq : fst X n < n) : ∃ I P f ps, Ri n B (m + 1) I P f ps (Ls.map (elimF n X (fst X n)) ++ [X]) := by
  obtain ⟨_, hX, h0⟩ : fst X n < n ∧ X (fst X n) ≠ 0 ∧ ∀ k, k < fst X n → X k = 0 := by
    rcases fst_spec X n with ⟨e, _⟩ | g
    · omega
    exact g
  have hz := hr.zero (fun q hq => h.st.lt q hq) hall
  have hqP : fst X n ∉ P := fun g => hX (hz _ g)
  have hst := h.st.new hF hm hr hall hq hX (f' := fun p => if p = fst X n then some X else (f p).map (elimF n X (fst X n))) fun p => rfl
  have gl : ∀ j, j < Ls.length → (Ls.map (elimF n X (fst X n)) ++ [X]).getD j (fun _ => 0) = elimF n X (fst X n) (Ls.getD j fun _ => 0) := fun j hj => by
    rw [List.getD_eq_getElem?_getD, List.getElem?_append_left (by simpa using hj), List.getElem?_map, List.getD_eq_getElem?_getD, List.getElem?_eq_getElem hj]
    rfl
  have ge : (Ls.map (elimF n X (fst X n)) ++ [X]).getD Ls.length (fun _ => 0) = X := by
    rw [List.getD_eq_getElem?_getD, List.getElem?_append_right (by simp)]; simp
  have pl : ∀ j, j < Ls.length → (ps ++ [fst X n]).getD j 0 = ps.getD j 0 := fun j hj => by
    rw [List.getD_eq_getElem?_getD, List.getElem?_append_left (by rw [h.len]; exact hj), List.getD_eq_getElem?_getD]
  have pe : (ps ++ [fst X n]).getD Ls.length 0 = fst X n := by
    rw [List.getD_eq_getElem?_getD, List.getElem?_append_right (by rw [h.len]; omega), h.len]; simp
  have hlen : (Ls.map (elimF n X (fst X n)) ++ [X]).length = Ls.length + 1 := by simp
  refine ⟨m :: I, fst X n :: P, _, ps ++ [fst X n], hst, by rw [hlen, List.length_append, h.len]; rfl, ?_, fun j hj => ?_, fun j hj k hk => ?_, fun p hp => ?_⟩
  · rw [List.nodup_append]
    refine ⟨h.nd, List.pairwise_singleton _ _, fun a ha b hb e => ?_⟩
    have hb' : b = fst X n := by simpa using hb
    obtain ⟨i, hi, rfl⟩ := List.getElem_of_mem ha
    have h1 : i < Ls.length := by rw [← h.len]; exact hi
    have h2 := h.mem h1
    rw [List.getD_eq_getElem?_getD, List.getElem?_eq_getElem hi] at h2
    exact hqP (by rw [← hb', ← e]; exact h2)
  · rw [hlen] at hj
    by_cases g : j < Ls.length
    · rw [pl j g, gl j g]
      have hne : ps.getD j 0 ≠ fst X n := fun e => hqP (e ▸ h.mem g)
      show (if ps.getD j 0 = fst X n then some X else (f (ps.getD j 0)).map _) = _
      rw [if_neg hne, h.at_ j g]; rfl
    obtain rfl : j = Ls.length := by omega
    rw [pe, ge]
    exact if_pos rfl
  · rw [hlen] at hj
    by_cases g : j < Ls.length
    · rw [pl j g] at hk
      rw [gl j g]
      have hl := h.lead j g k hk
      by_cases g0 : (Ls.getD j fun _ => 0) (fst X n) = 0
      · rw [elimF_0 g0]; exact hl
      have hne : ps.getD j 0 ≠ fst X n := fun e => hqP (e ▸ h.mem g)
      have hlt : ps.getD j 0 < fst X n := by
        rcases Nat.lt_or_ge (ps.getD j 0) (fst X n) with q | q
        · exact q
        exact absurd (h.lead j g (fst X n) (by omega)) g0
      rw [elimF_1 g0]
      obtain ⟨t, ht, hpe⟩ := prim_ex (linX (X (fst X n)) (Ls.getD j fun _ => 0) (-((Ls.getD j fun _ => 0) (fst X n))) X) n
      have := hpe k (by omega)
      have e : linX (X (fst X n)) (Ls.getD j fun _ => 0) (-((Ls.getD j fun _ => 0) (fst X n))) X k = 0 := by
        unfold linX
        rw [hl, h0 k (by omega)]; omega
      rw [e] at this
      exact (Int.mul_eq_zero.1 this.symm).resolve_left ht
    obtain rfl : j = Ls.length := by omega
    rw [pe] at hk
    rw [ge]; exact h0 k hk
  rcases List.mem_cons.1 hp with g | g
  · exact ⟨Ls.length, by omega, by rw [pe, g]⟩
  obtain ⟨j, hj, e⟩ := h.all p g
  exact ⟨j, by omega, by rw [pl j hj, e]⟩
end
section
variable {n : Nat} {rows : List (List Int)} {r : List Int}
theorem ls_ri (hok : OkB n rows) (hw : WiB 4 r) : ∀ i, i ≤ rows.length → ∃ I P f ps, Ri n (famR rows r) i I P f ps (LsR n rows i)
  | 0, _ => ⟨[], [], _, [], Ri.nil n _⟩
  | i + 1, hi => by
    obtain ⟨I, P, f, ps, h⟩ := ls_ri hok hw i (by omega)
    have h8 := hok.1
    have hF := famR_ok hok hw
    have hy := ray_lessR hF h (by omega) (x := i) (by omega) _ (Nat.le_refl _)
    have e : famR rows r i = fnL (rows.getD i []) := by funext k; unfold famR; rw [if_neg (by omega)]; rfl
    have hy' : Ray n (famR rows r) I P 122880 i (dnP ps (LsR n rows i).length) (LsR n rows i).length (redR n rows i) := by rw [e] at hy; exact hy
    by_cases g : fst (redR n rows i) n = n
    · rw [LsR_dep g]
      refine ⟨I, P, f, ps, h.st.old hF hy' fun k hk => ?_, h.len, h.nd, h.at_, h.lead, h.all⟩
      rcases fst_spec (redR n rows i) n with ⟨_, h0⟩ | ⟨h1, _⟩
      · exact h0 k hk
      omega
    rw [LsR_new g]
    exact h.new hF (by omega) hy' h.done (by have := fst_le (redR n rows i) n; omega)
theorem ls_bd (hok : OkB n rows) : BdR n rows := by
  have h8 := hok.1
  have hw : WiB 4 (List.replicate n 0) := fun x hx => by rw [List.mem_replicate] at hx; omega
  have hF := famR_ok hok hw
  refine ⟨fun i hi j hj => ?_, fun i hi j hj => ?_⟩
  · obtain ⟨I, P, f, ps, h⟩ := ls_ri hok hw i hi
    refine ⟨fun k hk => h.st.bdF hF (by omega) (h.at_ j hj) hk, ?_⟩
    rw [h.first hj]
    exact h.st.lt _ (h.mem hj)
  obtain ⟨I, P, f, ps, h⟩ := ls_ri hok hw i (by omega)
  have hy := ray_lessR hF h (by omega) (x := i) (by omega) j hj
  have e : famR rows (List.replicate n 0) i = fnL (rows.getD i []) := by funext k; unfold famR; rw [if_neg (by omega)]; rfl
  rw [e] at hy
  have := h.le5 hF
  exact fun k hk => hy.bd hF h.st (by omega) (by omega) (by omega) hk
theorem lsr_bd (hok : OkB n rows) (hw : WiB 4 r) : ∀ j, j ≤ (LsR n rows rows.length).length → BdN n (lessR n n (LsR n rows rows.length) (fnL r) j) := fun j hj => by
  have h8 := hok.1
  have hF := famR_ok hok hw
  obtain ⟨I, P, f, ps, h⟩ := ls_ri hok hw rows.length (Nat.le_refl _)
  have hy := ray_lessR hF h h8 (x := 8) (by omega) j hj
  have e : famR rows r 8 = fnL r := by funext k; unfold famR; rw [if_pos rfl]
  rw [e] at hy
  have := h.le5 hF
  exact fun k hk => hy.bd hF h.st h8 (by omega) (by omega) hk
theorem lsr_can (hok : OkB n rows) (hw : WiB 4 r) : fst (lessR n n (LsR n rows rows.length) (fnL r) (LsR n rows rows.length).length) n = n ↔ CanD n rows r := by
  have h8 := hok.1
  have hF := famR_ok hok hw
  obtain ⟨I, P, f, ps, h⟩ := ls_ri hok hw rows.length (Nat.le_refl _)
  have hy := ray_lessR hF h h8 (x := 8) (by omega) _ (Nat.le_refl _)
  have e : famR rows r 8 = fnL r := by funext k; unfold famR; rw [if_pos rfl]
  have h1 := hy.can hF h.st h.done
  rw [e] at h1
  have h2 : CanQ n (famR rows r) rows.length 8 ↔ CanD n rows r := by
    have e2 : ∀ (c : Nat → Int) k, cmb (famR rows r) (List.range rows.length) c k = cmb (Gr rows) (List.range rows.length) c k := fun c k => sumL_cg fun i hi => by
      have : i < rows.length := by simpa using hi
      unfold famR
      rw [if_neg (by omega)]
    constructor
    · rintro ⟨t, c, ht, hc⟩
      exact ⟨t, c, ht, fun k hk => by rw [← e2, ← hc k hk, e]⟩
    rintro ⟨t, c, ht, hc⟩
    exact ⟨t, c, ht, fun k hk => by rw [e2, ← hc k hk, e]⟩
  rw [← h2, ← h1]
  constructor
  · intro g k hk
    rcases fst_spec (lessR n n (LsR n rows rows.length) (fnL r) (LsR n rows rows.length).length) n with ⟨_, h0⟩ | ⟨h1, _⟩
    · exact h0 k hk
    omega
  exact fun g => fst_none g
end
end Go.Proofs.Ytelmclmklkiphaa
