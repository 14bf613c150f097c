/-
  What is proved here: one row less, in plain words; books with one row less. Conditions: none; each contract states its own.
  What is proved here: the law of ranks. Conditions: none; each contract states its own.
-/
import Derived.Test.YtelmclmklkiphaaM11
import Derived.Test.YtelmclmklkiphaaM8
set_option linter.unusedVariables false
set_option linter.unusedSimpArgs false
namespace Go.Proofs.Ytelmclmklkiphaa
open Go Go.TH
attribute [local irreducible] W WO pt
set_option maxHeartbeats 1000000
/-- all but the row at i -/
def dropAt {α : Type} (l : List α) (i : Nat) : List α := l.take i ++ l.drop (i + 1)
theorem dropAt_len {α : Type} {l : List α} {i : Nat} (h : i < l.length) : (dropAt l i).length = l.length - 1 := by unfold dropAt; simp; omega
theorem dropAt_mem {α : Type} {l : List α} {i : Nat} (h : i < l.length) (z x : α) : x ∈ l ↔ x ∈ dropAt l i ++ [l.getD i z] := by
  have e : l = l.take i ++ (l.getD i z :: l.drop (i + 1)) := by
    have h1 : l.getD i z = l[i] := by rw [List.getD_eq_getElem?_getD, List.getElem?_eq_getElem h]; rfl
    rw [h1, List.getElem_cons_drop, List.take_append_drop]
  unfold dropAt
  constructor
  · intro g
    rw [e] at g
    simp only [List.mem_append, List.mem_cons, List.mem_singleton] at g ⊢
    rcases g with g | g | g
    · exact .inl (.inl g)
    · exact .inr (.inl g)
    exact .inl (.inr g)
  intro g
  rw [e]
  simp only [List.mem_append, List.mem_cons, List.mem_singleton, List.not_mem_nil, or_false] at g ⊢
  rcases g with (g | g) | g
  · exact .inl g
  · exact .inr (.inr g)
  exact .inr (.inl g)
theorem dropAt_get {α : Type} {l : List α} {i : Nat} (h : i < l.length) (z : α) {j : Nat} (hj : j < l.length - 1) : (dropAt l i).getD j z = l.getD (if j < i then j else j + 1) z := by
  unfold dropAt
  rw [List.getD_eq_getElem?_getD, List.getD_eq_getElem?_getD]
  by_cases g : j < i
  · rw [if_pos g, List.getElem?_append_left (by simp; omega), List.getElem?_take, if_pos g]
  rw [if_neg g, List.getElem?_append_right (by simp; omega), List.getElem?_drop]
  congr 2
  simp
  omega
theorem rdr_less {C : Cx Try.prog} {H H1 L : List HP} {w : World} {n i : Nat} {v v' : Value} {rv : List Value} {rows : List (List Int)} (hB : RdR encI 1 C.B C.w0 v rv rows) (hi : i < rows.length) (p : Pick (OwC 25 1 v' n (dropAt rv i)) H H1) (hv : TH.Inv C.w0 C.M (L ++ H) w) : RdR encI 1 w.heap.size w v' (dropAt rv i) (dropAt rows i) := by
  have hl := hB.len
  refine RdR.of_lit p hv (by rw [dropAt_len (by omega), dropAt_len hi, hl]) fun j h => ?_
  rw [dropAt_len hi] at h
  rw [dropAt_get (by omega) _ (by omega), dropAt_get hi _ h]
  exact (hB.row _ (by split <;> omega)).later hv
structure LessF (N : Nat) (rows : List (List Int)) (i : Nat) : Prop where
  b1 : chkB N (dropAt rows i) = 0
  p : (proE N (dropAt rows i) (rows.getD i []) = 0 ∧ rkR N (dropAt rows i) = rkR N rows) ∨ (proE N (dropAt rows i) (rows.getD i []) = 5 ∧ rkR N (dropAt rows i) + 1 = rkR N rows)
theorem less_f {N : Nat} {rows : List (List Int)} {i : Nat} (hok : OkB N rows) (hi : i < rows.length) : LessF N rows i := by
  have h8 := hok.1
  have hm : ∀ x, x ∈ rows ↔ x ∈ dropAt rows i ++ [rows.getD i []] := fun x => dropAt_mem hi [] x
  have hsub : ∀ x ∈ dropAt rows i, x ∈ rows := fun x hx => (hm x).2 (by simp [hx])
  have hok1 : OkB N (dropAt rows i) := ⟨by rw [dropAt_len hi]; omega, hok.2.1, fun x hx => hok.2.2.1 x (hsub x hx), fun x hx => hok.2.2.2 x (hsub x hx)⟩
  have hir := getD_mem hi ([] : List Int)
  have hrl := hok.2.2.1 _ hir
  have hrw := hok.2.2.2 _ hir
  obtain ⟨hok2, e1, e2⟩ := rk_more hok1 (by rw [dropAt_len hi]; omega) hrl hrw
  have e3 := rk_cg hok hok2 hm
  have q := chkBR0.2 ⟨hok1, hrl, hrw⟩
  have d := canA_D hok1 hrw
  refine ⟨chkB0.2 hok1, ?_⟩
  have p := proE_05 q
  rw [Int.toNat_natCast] at p
  rcases p with ⟨g, p⟩ | ⟨g, p⟩
  · exact .inl ⟨p, by rw [e3, e1 (d.1 g)]⟩
  exact .inr ⟨p, by rw [e3, e2 fun q => g (d.2 q)]⟩
/-- how many unit rows are not known -/
def sfN (N : Nat) (rows : List (List Int)) (k : Nat) : Nat := ((List.range k).filter fun j => decide (¬ CanA N rows (uvL N j))).length
theorem sf_yes {N : Nat} {rows : List (List Int)} {k : Nat} (h : ¬ CanA N rows (uvL N k)) : sfN N rows (k + 1) = sfN N rows k + 1 := by
  unfold sfN; rw [List.range_succ, List.filter_append]; simp [h]
theorem sf_no {N : Nat} {rows : List (List Int)} {k : Nat} (h : CanA N rows (uvL N k)) : sfN N rows (k + 1) = sfN N rows k := by
  unfold sfN; rw [List.range_succ, List.filter_append]; simp [h]
theorem sf_le (N : Nat) (rows : List (List Int)) (k : Nat) : sfN N rows k ≤ k := by
  unfold sfN; have := List.length_filter_le (fun j => decide (¬ CanA N rows (uvL N j))) (List.range k); rwa [List.length_range] at this
theorem sf_iff {N : Nat} {rows : List (List Int)} (hok : OkB N rows) : ((sfN N rows N : Nat) : Int) = 0 ↔ ((rkR N rows : Nat) : Int) = N := by
  have h1 : rkR N rows = N ↔ ∀ k, k < N → CanA N rows (uvL N k) := by
    rw [rk_full hok]
    exact ⟨fun g k hk => (canA_D hok uvL_ok.2).2 (g k hk), fun g k hk => (canA_D hok uvL_ok.2).1 (g k hk)⟩
  have h2 : sfN N rows N = 0 ↔ ∀ k, k < N → CanA N rows (uvL N k) := by
    unfold sfN
    rw [List.length_eq_zero_iff, List.filter_eq_nil_iff]
    simp
  constructor
  · intro g
    have := h1.2 (h2.1 (by omega)); omega
  intro g
  have := h2.2 (h1.1 (by omega)); omega
theorem ne4_of {p q : Prop} [Decidable p] [Decidable q] (h : p ↔ q) : EqT Try.prog .neq 4 (.bool (bl p)) (.bool (bl q)) (.bool false) := by
  intro x y w
  rw [bl_cg h]
  simp [go_sem]
end Go.Proofs.Ytelmclmklkiphaa
namespace Go.Proofs.Ytelmclmklkiphaa
open Go Go.TH
attribute [local irreducible] W WO pt
set_option maxRecDepth 10000
set_option maxHeartbeats 1000000
theorem rank_no (w : World) (n : Int) (v : Value) (x : Nat) (rv : List Value) (rows : List (List Int)) (hB : RdR encI 1 w.heap.size w v rv rows) (hf : ¬ (¬ greatP rows ∧ chkB n rows = 0)) : Ret Try.prog 6 [bookV n v, .int .u8 (x : Int)].toArray w (.bool true) := by
  refine Ret.of mixed tyTab Try.func6 rfl rfl ?_
  replace hB : RdR encI 1 (fnCx mixed tyTab Try.f6.ntmps w).B (fnCx mixed tyTab Try.f6.ntmps w).w0 v rv rows := hB
  refine W.sreg ?_
  refine WO.boxA rfl rfl (fun b1 hb1 => ?_)
  refine WO.p rfl rfl ?_
  refine WO.nil ?_
  refine W.seq ?_
  refine W.sreg ?_
  refine WO.loadA rfl rfl (Cells.own Pick.head) rfl rfl ?_
  refine WO.callR rfl Try.call7 (fun L w hi => law_great w n v rv rows (hB.later hi)) rfl ?_
  refine WO.p rfl rfl ?_
  refine WO.guard_bl rfl rfl (fun c1 => ?_) (fun c1 => ?_)
  · first
    | (exfalso; omega)
    | (refine WO.no rfl rfl (WO.no rfl rfl (WO.no rfl rfl (WO.p rfl rfl ?_)))
       refine WO.nil ?_
       refine W.cond_t rfl ?_
       refine W.sreg ?_
       refine WO.callR rfl Try.call8 (fun L w hi => l_Works w) rfl ?_
       refine WO.p rfl rfl ?_
       refine WO.nil ?_
       refine W.ret ?_
       exact fin.ret (Res.one rfl (RV.tmp rfl)) rfl)
  first
  | (exfalso; omega)
  | (refine WO.go' rfl (WO.loadA rfl rfl (Cells.own Pick.head) rfl rfl (WO.go' rfl ?_))
     refine WO.callR rfl Try.call23 (fun L w hi => ref_CheckBook w n v rv rows (hB.later hi)) rfl ?_
     refine WO.pg rfl rfl rfl (WO.p rfl rfl ?_)
     refine WO.nil ?_
     refine W.cond_bl rfl (fun c2 => ?_) (fun c2 => ?_)
     · first
       | (exfalso; omega)
       | (refine W.sreg ?_
          refine WO.callR rfl Try.call8 (fun L w hi => l_Works w) rfl ?_
          refine WO.p rfl rfl ?_
          refine WO.nil ?_
          refine W.ret ?_
          exact fin.ret (Res.one rfl (RV.tmp rfl)) rfl)
     first
     | (exfalso; omega)
     | (refine W.skip ?_
        exact absurd ⟨by assumption, by omega⟩ hf))
theorem twi_0 {N : Nat} {rows : List (List Int)} (hok : OkB N rows) {k : Nat} : (CanA N rows (uvL N k) ∧ twiE N rows (uvL N k) = 21) ∨ (¬ CanA N rows (uvL N k) ∧ twiE N rows (uvL N k) = 0) := by
  have q := chkBR0.2 ⟨hok, (uvL_ok (n := N) (k := k)).1, (uvL_ok (n := N) (k := k)).2⟩
  by_cases g : CanA N rows (uvL N k)
  · exact .inl ⟨g, twiE_21 q (by rw [Int.toNat_natCast]; exact g)⟩
  exact .inr ⟨g, twiE_0 q (by rw [Int.toNat_natCast]; exact g)⟩
theorem base_sl (va : Option Addr) (l c i d : Nat) : base (.slice va l c) = base (.slice va i d) := by cases va <;> rfl
theorem cells_take {C : Cx Try.prog} {H : List HP} {va : Option Addr} {l c : Nat} {cs : List Value} (h : Cells C H (base (.slice va l c)) cs) (i d : Nat) : Cells C H (base (.slice va i d)) (cs.take i) := fun j u hu => by
  rw [base_sl va i d l c]
  rw [List.getElem?_take] at hu
  split at hu
  · exact h j u hu
  cases hu
/-- the part behind place i -/
def tailA (va : Option Addr) (vc i : Nat) : Option Addr := if vc = i + 1 then va else va.map (·.add ((i + 1) * 1))
theorem tail_sl {va : Option Addr} {l vc i : Nat} (hl : l ≤ vc) (h63 : l ≤ 9223372036854775807) (hva : 0 < l → ∃ b o, va = some ⟨b, o, none⟩) : IsSl (.slice (tailA va vc i) (l - (i + 1)) (vc - (i + 1))) (l - (i + 1)) := by
  refine isSl_lit (by omega) fun h => ?_
  obtain ⟨b, o, rfl⟩ := hva (by omega)
  unfold tailA
  rw [if_neg (by omega)]
  exact ⟨b, o + (i + 1) * 1, by simp [Addr.add_lit]⟩
theorem cells_tail {C : Cx Try.prog} {H : List HP} {va : Option Addr} {l vc i : Nat} {cs : List Value} (hl : cs.length = l) (hvc : l ≤ vc) (hva : 0 < l → ∃ b o, va = some ⟨b, o, none⟩) (h : Cells C H (base (.slice va l vc)) cs) : Cells C H (base (.slice (tailA va vc i) (l - (i + 1)) (vc - (i + 1)))) (cs.drop (i + 1)) := fun j u hu => by
  rw [List.getElem?_drop] at hu
  have hlt := (List.getElem?_eq_some_iff.1 hu).1
  obtain ⟨b, o, rfl⟩ := hva (by omega)
  have := h (i + 1 + j) u hu
  unfold tailA
  rw [if_neg (by omega)]
  simp only [base, Option.map_some, Addr.add_lit, Option.getD_some] at this ⊢
  have e : o + (i + 1) * 1 + j = o + (i + 1 + j) := by omega
  rw [e]; exact this
theorem rank_yes (w : World) (N : Nat) (v : Value) (x : Nat) (hx : x ≤ 255) (rv : List Value) (rows : List (List Int)) (hB : RdR encI 1 w.heap.size w v rv rows) (hg : ¬ greatP rows) (h0 : chkB N rows = 0) (hcv : CapV v rows.length) : Ret Try.prog 6 [bookV N v, .int .u8 (x : Int)].toArray w (.bool true) := by
  obtain ⟨va, vc, rfl, hcl, hcn⟩ := hcv
  refine Ret.of mixed tyTab Try.func6 rfl rfl ?_
  replace hB : RdR encI 1 (fnCx mixed tyTab Try.f6.ntmps w).B (fnCx mixed tyTab Try.f6.ntmps w).w0 (.slice va rows.length vc) rv rows := hB
  have hok := chkB0.1 h0
  have h8 := hok.1
  have hn5 := hok.2.1
  have hrk := rk_le hok
  have hsf := sf_iff hok
  have hln := hB.len
  have hrV : rkV (N : Int) rows = (rkR N rows : Nat) := by rw [rkV_0 h0, Int.toNat_natCast]
  have hva : 0 < rows.length → ∃ b o, va = some ⟨b, o, none⟩ := by
    obtain ⟨_, a, c, e, h⟩ := hB.sl
    injection e with e1 e2 e3
    subst e1; exact h
  refine W.sreg ?_
  refine WO.boxA rfl rfl (fun b1 hb1 => ?_)
  refine WO.p rfl rfl ?_
  refine WO.nil ?_
  refine W.seq ?_
  refine W.sreg ?_
  refine WO.loadA rfl rfl (Cells.own Pick.head) rfl rfl ?_
  refine WO.callR (r := .bool false) rfl Try.call7 (fun L w hi => ret_to (congrArg Value.bool (bl_f.2 hg)) (law_great w N _ rv rows (hB.later hi))) rfl ?_
  refine WO.p rfl rfl (WO.go' rfl (WO.loadA rfl rfl (Cells.own Pick.head) rfl rfl (WO.go' rfl ?_)))
  refine WO.callR (r := .int .i64 0) rfl Try.call23 (fun L w hi => ret_to (congrArg (Value.int .i64) h0) (ref_CheckBook w N _ rv rows (hB.later hi))) rfl ?_
  refine WO.pg rfl rfl rfl (WO.p rfl rfl ?_)
  refine WO.nil ?_
  refine W.cond_bl rfl (fun c1 => ?_) (fun c1 => ?_)
  · first
    | (exfalso; omega)
    | (refine W.sreg ?_
       refine WO.callR rfl Try.call8 (fun L w hi => l_Works w) rfl ?_
       refine WO.p rfl rfl ?_
       refine WO.nil ?_
       refine W.ret ?_
       exact fin.ret (Res.one rfl (RV.tmp rfl)) rfl)
  first
  | (exfalso; omega)
  | (refine W.skip ?_
     refine W.sreg ?_
     refine WO.loadA rfl rfl (Cells.own Pick.head) rfl rfl ?_
     refine WO.callR (r := .tuple #[.int .i64 (rkR N rows : Nat), .int .i64 0]) rfl Try.call22 (fun L w' hi => ret_to (by rw [hrV, h0]) (c_Rank w' N _ rv rows (hB.later hi))) rfl ?_
     refine WO.p rfl rfl (WO.p rfl rfl (WO.p rfl rfl (WO.p rfl rfl (WO.p rfl rfl ?_))))
     refine WO.nil ?_
     refine W.seq ?_
     refine W.sreg ?_
     refine WO.p rfl rfl (WO.p rfl rfl (WO.p rfl rfl ?_))
     refine WO.guard_bl rfl rfl (fun c2 => ?_) (fun c2 => ?_)
     · first
       | (exfalso; omega)
       | (refine WO.no rfl rfl (WO.no rfl rfl (WO.p rfl rfl (WO.p rfl rfl (WO.no rfl rfl (WO.no rfl rfl (WO.no rfl rfl (WO.no rfl rfl (WO.no rfl rfl (WO.p rfl rfl (WO.p rfl rfl (WO.no rfl rfl ?_)))))))))))
          refine WO.no rfl rfl (WO.no rfl rfl (WO.no rfl rfl (WO.p rfl rfl ?_)))
          refine WO.nil ?_
          refine W.cond_t rfl ?_
          refine W.sreg ?_
          refine WO.p rfl rfl ?_
          refine WO.nil ?_
          refine W.ret ?_
          exact fin.ret (Res.one rfl (RV.tmp rfl)) rfl)
     first
     | (exfalso; omega)
     | (refine WO.pg rfl rfl rfl (WO.go' rfl ?_)
        refine WO.lssF rfl rfl (by omega) rfl ?_
        refine WO.p rfl rfl (WO.p rfl rfl (WO.pg rfl rfl rfl (WO.go' rfl (WO.fieldL rfl rfl rfl (WO.go' rfl (WO.load rfl rfl (Cell.own Pick.head rfl) rfl (WO.go' rfl ?_)))))))
        refine' WO.len (n := _) rfl rfl ?hs rfl ?_
        case hs => (first | exact hB.sl)
        refine WO.go' rfl ?_
        refine WO.gtrF rfl rfl (by omega) rfl ?_
        refine WO.p rfl rfl (WO.p rfl rfl (WO.pg rfl rfl rfl (WO.go' rfl (WO.field0 rfl rfl rfl (WO.go' rfl (WO.load rfl rfl (Cell.own Pick.head rfl) rfl (WO.go' rfl ?_)))))))
        refine WO.gtrF rfl rfl (by omega) rfl ?_
        refine WO.p rfl rfl ?_
        refine WO.nil ?_
        refine W.cond_f rfl ?_
        refine W.skip ?_
        refine W.sreg ?_
        refine WO.p rfl rfl ?_
        refine WO.nil ?_
        refine W.seq ?_
        refine W.sreg ?_
        refine WO.p rfl rfl ?_
        refine WO.nil ?_
        refine W.block ?_
        refine W.loop (fun (k : Nat) => k ≤ N)
          (fun (k : Nat) => [(1, .int .u8 (x : Int)), (2, .pointer (some ⟨b1, 0, none⟩)), (5, .int .i64 (rkR N rows : Nat)), (7, .int .i64 (sfN N rows k : Nat)), (8, .int .i64 (k : Int))])
          (fun (k : Nat) => [pt b1 (.cells #[.int .i64 (N : Int), .slice va rows.length vc] 24 (0, 0))])
          (fun (k : Nat) => N - k) 0
          (by omega) ⟨rfl, rfl, rfl, rfl, rfl, trivial⟩ (by repeat (first | exact Sub.nil | refine Sub.cons (by repeat (first | exact Pick.head | apply Pick.tail)) ?_)) ?_
        rintro k hk
        refine W.seq ?_
        refine W.sreg ?_
        refine WO.p rfl rfl (WO.field0 rfl rfl rfl (WO.load rfl rfl (Cell.own Pick.head rfl) rfl (WO.p rfl rfl ?_)))
        refine WO.nil ?_
        refine W.cond_bl rfl (fun c3 => ?_) (fun c3 => ?_)
        · first
          | (exfalso; omega)
          | (refine W.skip ?_
             refine W.seq ?_
             refine W.block ?_
             refine W.sreg ?_
             refine WO.field0 rfl rfl rfl (WO.load rfl rfl (Cell.own Pick.head rfl) rfl ?_)
             refine WO.makeI (n := N) rfl rfl rfl rfl (by omega) (by omega) rfl (fun zb => ?_)
             refine WO.p rfl rfl ?_
             refine WO.nil ?_
             refine W.sreg ?_
             refine WO.p rfl rfl (WO.p rfl rfl ?_)
             refine' WO.indexAddr (n := _) (i := _) rfl rfl rfl ?hs ?h1 rfl ?_
             case hs => (first | exact isSl_lit (n := N) (by omega) (fun _ => ⟨_, _, rfl⟩))
             case h1 => (first | omega | (simp; omega))
             refine WO.storeE (n := 1) (i := k) encI_ok rfl rfl rfl rfl (by repeat (first | exact Pick.head | apply Pick.tail)) (by rw [List.length_replicate]; omega) ?_
             rw [show (List.replicate N (0 : Int)).set k 1 = uvL N k from rfl]
             refine WO.nil ?_
             refine W.sreg ?_
             refine WO.loadA rfl rfl (Cells.own (Pick.tail (Pick.head))) rfl rfl (WO.p rfl rfl ?_)
             refine WO.call rfl Try.call14 (fun L w' hi => c_Twin w' N _ _ rv rows (uvL N k) (hB.later hi) (RdF.of_ow (e := 2) encI_ok (by repeat (first | exact Pick.head | apply Pick.tail)) hi)) rfl ?_
             rintro _ _ ⟨⟨z1, zl⟩, ⟨rfl, hz1, hz2⟩, rfl⟩
             dsimp only at hz1 hz2 ⊢
             refine WO.p rfl rfl (WO.p rfl rfl (WO.p rfl rfl (WO.p rfl rfl (WO.p rfl rfl ?_))))
             refine WO.nil ?_
             have htw := twi_0 hok (k := k)
             have hsl := sf_le N rows k
             refine W.sreg ?_
             refine WO.p rfl rfl (WO.p rfl rfl ?_)
             refine WO.nil ?_
             refine W.cond_bl rfl (fun c4 => ?_) (fun c4 => ?_)
             · first
               | (exfalso; omega)
               | (refine W.region ?_
                  refine WO.p rfl rfl (WO.ar rfl rfl rfl (by (first | (unfold in64; omega) | (unfold in64; omega))) rfl (WO.p rfl rfl ?_))
                  refine WO.nil ?_
                  first | (have hs := sf_yes (N := N) (rows := rows) (k := k) (by rcases htw with ⟨_, q⟩ | ⟨q, _⟩; omega; exact q); rw [show ((sfN N rows k : Nat) : Int) + 1 = ((sfN N rows (k + 1) : Nat) : Int) by rw [hs]; omega]) | (have hs := sf_no (N := N) (rows := rows) (k := k) (by rcases htw with ⟨q, _⟩ | ⟨_, q⟩; exact q; omega); rw [← hs])
                  refine W.region ?_
                  refine WO.p rfl rfl (WO.ar rfl rfl rfl (by (first | (unfold in64; omega) | (unfold in64; omega))) rfl (WO.p rfl rfl ?_))
                  refine WO.nil ?_
                  refine' ⟨k + 1, ?hp, ?hmu, ⟨rfl, rfl, rfl, rfl, rfl, trivial⟩, ?hS⟩
                  case hS => repeat (first | exact Sub.nil | refine Sub.cons (by repeat (first | exact Pick.head | apply Pick.tail)) ?_)
                  case hp => omega
                  case hmu => omega)
             first
             | (exfalso; omega)
             | (refine W.skip ?_
                first | (have hs := sf_yes (N := N) (rows := rows) (k := k) (by rcases htw with ⟨_, q⟩ | ⟨q, _⟩; omega; exact q); rw [show ((sfN N rows k : Nat) : Int) + 1 = ((sfN N rows (k + 1) : Nat) : Int) by rw [hs]; omega]) | (have hs := sf_no (N := N) (rows := rows) (k := k) (by rcases htw with ⟨q, _⟩ | ⟨_, q⟩; exact q; omega); rw [← hs])
                refine W.region ?_
                refine WO.p rfl rfl (WO.ar rfl rfl rfl (by (first | (unfold in64; omega) | (unfold in64; omega))) rfl (WO.p rfl rfl ?_))
                refine WO.nil ?_
                refine' ⟨k + 1, ?hp, ?hmu, ⟨rfl, rfl, rfl, rfl, rfl, trivial⟩, ?hS⟩
                case hS => repeat (first | exact Sub.nil | refine Sub.cons (by repeat (first | exact Pick.head | apply Pick.tail)) ?_)
                case hp => omega
                case hmu => omega))
        first
        | (exfalso; omega)
        | (refine W.exit (blk_same ?_)
           refine W.seq ?_
           rw [show k = N by omega]
           refine W.sreg ?_
           refine WO.p rfl rfl (WO.p rfl rfl (WO.p rfl rfl (WO.field0 rfl rfl rfl (WO.load rfl rfl (Cell.own Pick.head rfl) rfl (WO.p rfl rfl ?_)))))
           refine WO.eqT rfl rfl (ne4_of hsf) rfl ?_
           refine WO.nil ?_
           refine W.cond_f rfl ?_
           refine W.skip ?_
           refine W.seq ?_
           refine W.sreg ?_
           refine WO.fieldL rfl rfl rfl (WO.load rfl rfl (Cell.own Pick.head rfl) rfl ?_)
           refine' WO.len (n := _) rfl rfl ?hs rfl ?_
           case hs => (first | exact hB.sl)
           refine WO.p rfl rfl ?_
           refine WO.nil ?_
           refine W.cond_bl rfl (fun c4 => ?_) (fun c4 => ?_)
           · first
             | (exfalso; omega)
             | (refine W.sreg ?_
                refine WO.p rfl rfl ?_
                refine WO.eqlT rfl rfl (by omega) rfl ?_
                refine WO.p rfl rfl (WO.go' rfl ?_)
                refine WO.callR rfl Try.call8 (fun L w hi => l_Works w) rfl ?_
                refine WO.p rfl rfl (WO.p rfl rfl ?_)
                refine WO.nil ?_
                refine W.ret ?_
                exact fin.ret (Res.one rfl (RV.tmp rfl)) rfl)
           first
           | (exfalso; omega)
           | (refine W.skip ?_
              refine W.sreg ?_
              refine WO.p rfl rfl ?_
              refine WO.conv64 rfl rfl rfl (by unfold in64; omega) rfl ?_
              refine WO.fieldL rfl rfl rfl (WO.load rfl rfl (Cell.own Pick.head rfl) rfl ?_)
              refine' WO.len (n := _) rfl rfl ?hs rfl ?_
              case hs => (first | exact hB.sl)
              refine WO.rem rfl rfl (by omega) rfl ?_
              rw [← Int.ofNat_tmod]
              refine WO.p rfl rfl ?_
              refine WO.nil ?_
              refine W.seq ?_
              have hi : x % rows.length < rows.length := Nat.mod_lt _ (by omega)
              obtain ⟨i, hix⟩ : ∃ i, x % rows.length = i := ⟨_, rfl⟩
              rw [hix] at hi ⊢
              have hLF := less_f hok hi
              have hri := hok.2.2.1 _ (getD_mem hi [])
              refine W.drawD 16 [.r 0 [], .b 1 [], .r 3 [], .b 4 [], .r 5 [], .r 6 [], .r 8 [], .b 9 [], .r 10 [], .r 11 [], .r 12 [], .c 2 [], .c 7 [], .c 13 [], .r 14 [], .a 15 13 (.cells #[.int .i64 0, .slice none 0 0] 24 (0, 0))] [] (A0 := []) (Sub.refl _) (by kernel_rfl) ?_ ?_
              · exact (ALok.r (ALok.b (ALok.r (ALok.b (ALok.r (ALok.r (ALok.r (ALok.b (ALok.r (ALok.r (ALok.r (ALok.c (ALok.c (ALok.c (ALok.r (ALok.cons rfl rfl rfl rfl rfl ALok.nil))))))))))))))))
              refine' DT.r rfl rfl rfl ?hq ?_
              case hq =>
                refine WO.field0 rfl rfl rfl ?_
                exact WO.nil ⟨rfl, rfl⟩
              refine' DT.b rfl rfl rfl ?hq ?_
              case hq =>
                refine WO.load rfl rfl (Cell.own Pick.head rfl) rfl ?_
                exact WO.nil ⟨rfl, rfl⟩
              refine' DT.r rfl rfl rfl ?hq ?_
              case hq =>
                refine WO.fieldL rfl rfl rfl ?_
                exact WO.nil ⟨rfl, rfl⟩
              refine' DT.b rfl rfl rfl ?hq ?_
              case hq =>
                refine WO.load rfl rfl (Cell.own Pick.head rfl) rfl ?_
                exact WO.nil ⟨rfl, rfl⟩
              refine' DT.r rfl rfl rfl ?hq ?_
              case hq =>
                refine WO.p rfl rfl ?_
                exact WO.nil ⟨rfl, rfl⟩
              refine' DT.r rfl rfl rfl ?hq ?_
              case hq =>
                refine WO.sliceTo (n := i) rfl rfl rfl (by omega) rfl ?_
                exact WO.nil ⟨rfl, rfl⟩
              refine' DT.r rfl rfl rfl ?hq ?_
              case hq =>
                refine WO.fieldL rfl rfl rfl ?_
                exact WO.nil ⟨rfl, rfl⟩
              refine' DT.b rfl rfl rfl ?hq ?_
              case hq =>
                refine WO.load rfl rfl (Cell.own Pick.head rfl) rfl ?_
                exact WO.nil ⟨rfl, rfl⟩
              refine' DT.r rfl rfl rfl ?hq ?_
              case hq =>
                refine WO.p rfl rfl ?_
                exact WO.nil ⟨rfl, rfl⟩
              refine' DT.r rfl rfl rfl ?hq ?_
              case hq =>
                refine WO.ar rfl rfl rfl (by (first | (unfold in64; omega) | (unfold in64; omega))) rfl ?_
                exact WO.nil ⟨rfl, rfl⟩
              refine' DT.r rfl rfl rfl ?hq ?_
              case hq =>
                refine WO.sliceFrom (n := i + 1) rfl rfl rfl (by omega) rfl ?_
                rw [show (if vc = i + 1 then va else va.map (·.add ((i + 1) * 1))) = tailA va vc i from rfl]
                exact WO.nil ⟨rfl, rfl⟩
              refine DT.c [_] rfl rfl rfl rfl ?_
              refine WO.buildSl0 rfl rfl (fun e0 => ?_)
              refine WO.nil ⟨_, [_], rfl, rfl, (Keep.r (Keep.r (Keep.r (Keep.b (Keep.r (Keep.r (Keep.r (Keep.b (Keep.r (Keep.b (Keep.r Keep.nil))))))))))), ?_⟩
              refine DT.c [_, _] rfl rfl rfl rfl ?_
              refine WO.appendN (n := 0) (m := i) (news := rv.take i) rfl rfl rfl rfl rfl (p := (by repeat (first | exact Pick.head | apply Pick.tail))) (isSl_lit (by omega) (fun _ => hva (by omega))) (cells_take (encV_ok hB.out) i vc) (by rw [List.length_take]; omega) (fun u hu => rows_oc hB u (List.mem_of_mem_take hu)) (by omega) (by omega) rfl (fun v1 => ?_)
              rw [List.nil_append, Nat.zero_add i]
              refine WO.nil ⟨_, [_], rfl, rfl, (Keep.c (Keep.r (Keep.r (Keep.r (Keep.b (Keep.r (Keep.r (Keep.r (Keep.b (Keep.r (Keep.b (Keep.r Keep.nil)))))))))))), ?_⟩
              refine DT.c [_, _] rfl rfl rfl rfl ?_
              refine WO.appendN (n := i) (m := rows.length - (i + 1)) (news := rv.drop (i + 1)) rfl rfl rfl rfl rfl (p := (by repeat (first | exact Pick.head | apply Pick.tail))) (tail_sl hcl (by omega) hva) (cells_tail hln hcl hva (encV_ok hB.out)) (by rw [List.length_drop]; omega) (fun u hu => rows_oc hB u (List.mem_of_mem_drop hu)) (by omega) (by omega) rfl (fun v2 => ?_)
              rw [show rv.take i ++ rv.drop (i + 1) = dropAt rv i from rfl]
              refine WO.fact (OwC.form (e := 25) (sz := 1) (v := v2) Pick.head) (fun hv2 => ?_)
              obtain ⟨da, dc, rfl⟩ := hv2
              refine WO.nil ⟨_, [_], rfl, rfl, (Keep.c (Keep.c (Keep.r (Keep.r (Keep.r (Keep.b (Keep.r (Keep.r (Keep.r (Keep.b (Keep.r (Keep.b (Keep.r Keep.nil))))))))))))), ?_⟩
              refine' DT.r rfl rfl rfl ?hq ?_
              case hq =>
                refine' WO.build (cs := _) rfl rfl rfl ?hf rfl ?_
                case hf => (conv => lhs; simp [-List.getD_eq_getElem?_getD, fillL, vcl, wrl, TTab.pl?.lget']) <;> rfl
                exact WO.nil ⟨rfl, rfl⟩
              refine DT.a (fun b2 => ?_)
              refine DT.nil [_, _, _] rfl ?_
              refine WO.storeA rfl rfl rfl rfl Pick.head rfl rfl ?_
              refine WO.nil ?_
              refine W.sreg ?_
              refine WO.loadA rfl rfl (Cells.own Pick.head) rfl rfl ?_
              refine WO.callR (r := .tuple #[.int .i64 (rkR N (dropAt rows i) : Nat), .int .i64 0]) rfl Try.call22 (fun L w' hi' => ret_to (by rw [rkV_0 hLF.b1, hLF.b1, Int.toNat_natCast]) (c_Rank w' N _ (dropAt rv i) (dropAt rows i) (rdr_less hB hi (by repeat (first | exact Pick.head | apply Pick.tail)) hi'))) rfl ?_
              refine WO.p rfl rfl (WO.p rfl rfl (WO.p rfl rfl (WO.p rfl rfl (WO.p rfl rfl ?_))))
              refine WO.nil ?_
              refine W.seq ?_
              refine W.drawD 12 [.b 0 [], .r 1 [], .b 2 [], .r 3 [], .r 4 [], .b 5 [], .c 6 [], .r 7 [], .r 8 [], .r 9 [], .a 10 15 (.cells #[.slice none 0 0, .int .i64 0] 27 (0, 0)), .s 11 []] [] (A0 := []) (Sub.refl _) (by kernel_rfl) ?_ ?_
              · exact (ALok.b (ALok.r (ALok.b (ALok.r (ALok.r (ALok.b (ALok.c (ALok.r (ALok.r (ALok.r (ALok.cons rfl rfl rfl rfl rfl (ALok.s ALok.nil))))))))))))
              refine' DT.b rfl rfl rfl ?hq ?_
              case hq =>
                refine WO.loadA rfl rfl (Cells.own Pick.head) rfl rfl ?_
                exact WO.nil ⟨rfl, rfl⟩
              refine' DT.r rfl rfl rfl ?hq ?_
              case hq =>
                refine WO.fieldL rfl rfl rfl ?_
                exact WO.nil ⟨rfl, rfl⟩
              refine' DT.b rfl rfl rfl ?hq ?_
              case hq =>
                refine WO.load rfl rfl (Cell.own (Pick.tail (Pick.tail (Pick.head))) rfl) rfl ?_
                exact WO.nil ⟨rfl, rfl⟩
              refine' DT.r rfl rfl rfl ?hq ?_
              case hq =>
                refine WO.p rfl rfl ?_
                exact WO.nil ⟨rfl, rfl⟩
              refine' DT.r rfl rfl rfl ?hq ?_
              case hq =>
                refine' WO.indexAddr (n := _) (i := _) rfl rfl rfl ?hs ?h1 rfl ?_
                case hs => (first | exact hB.sl)
                case h1 => (first | omega | (simp; omega))
                exact WO.nil ⟨rfl, rfl⟩
              refine' DT.b rfl rfl rfl ?hq ?_
              case hq =>
                refine' WO.load (v := _) rfl rfl ?hc rfl ?_
                case hc => (first | (refine hB.cellV (i := i) ?_; omega))
                exact WO.nil ⟨rfl, rfl⟩
              refine DT.c [_, _, _] rfl rfl rfl rfl ?_
              refine WO.call rfl Try.call13 (fun L w' hi' => prf_to rfl (c_Proof w' N _ _ (dropAt rv i) (dropAt rows i) (rows.getD i []) (rdr_less hB hi (by repeat (first | exact Pick.head | apply Pick.tail)) hi') ((hB.row i hi).later hi'))) rfl ?_
              rintro _ _ ⟨x3, x4, rfl, rfl⟩
              refine WO.nil ⟨_, [_], rfl, rfl, (Keep.b (Keep.r (Keep.r (Keep.b (Keep.r (Keep.b Keep.nil)))))), ?_⟩
              refine' DT.r rfl rfl rfl ?hq ?_
              case hq =>
                refine WO.p rfl rfl ?_
                exact WO.nil ⟨rfl, rfl⟩
              refine' DT.r rfl rfl rfl ?hq ?_
              case hq =>
                refine WO.p rfl rfl ?_
                exact WO.nil ⟨rfl, rfl⟩
              refine' DT.r rfl rfl rfl ?hq ?_
              case hq =>
                refine WO.p rfl rfl ?_
                exact WO.nil ⟨rfl, rfl⟩
              refine DT.a (fun b3 => ?_)
              refine DT.s [_, _, _, _, _] rfl rfl rfl ?_
              refine WO.storeA rfl rfl rfl rfl Pick.head rfl rfl ?_
              refine WO.nil ⟨[_, _], rfl, rfl, (Keep.a (Keep.r (Keep.r (Keep.r (Keep.c (Keep.b (Keep.r (Keep.r (Keep.b (Keep.r (Keep.b Keep.nil))))))))))), ?_⟩
              refine DT.nil [_, _, _, _, _] rfl ?_
              refine WO.p rfl rfl ?_
              refine WO.nil ?_
              have hLp := hLF.p
              refine W.sreg ?_
              refine WO.p rfl rfl (WO.p rfl rfl (WO.p rfl rfl ?_))
              refine WO.guard_bl rfl rfl (fun c5 => ?_) (fun c5 => ?_)
              · first
                | (exfalso; omega)
                | (refine WO.pg rfl rfl rfl (WO.pg rfl rfl rfl (WO.pg rfl rfl rfl ?_))
                   refine WO.guard_bl rfl rfl (fun c6 => ?_) (fun c6 => ?_)
                   · first
                     | (exfalso; omega)
                     | (refine WO.pg rfl rfl rfl (WO.pg rfl rfl rfl (WO.go' rfl ?_))
                        refine WO.eqlT rfl rfl (by omega) rfl ?_
                        refine WO.pg rfl rfl rfl (WO.pg rfl rfl rfl (WO.no rfl rfl (WO.no rfl rfl (WO.no rfl rfl (WO.no rfl rfl (WO.no rfl rfl (WO.no rfl rfl (WO.no rfl rfl (WO.no rfl rfl (WO.pg rfl rfl rfl (WO.p rfl rfl ?_)))))))))))
                        refine WO.p rfl rfl (WO.go' rfl ?_)
                        refine WO.callR rfl Try.call8 (fun L w hi => l_Works w) rfl ?_
                        refine WO.p rfl rfl (WO.p rfl rfl ?_)
                        refine WO.nil ?_
                        refine W.ret ?_
                        exact fin.ret (Res.one rfl (RV.tmp rfl)) rfl)
                   first
                   | (exfalso; omega)
                   | (refine WO.no rfl rfl (WO.no rfl rfl (WO.no rfl rfl (WO.pg rfl rfl rfl (WO.pg rfl rfl rfl (WO.pg rfl rfl rfl (WO.go' rfl ?_))))))
                      refine WO.eqlT rfl rfl (by omega) rfl ?_
                      refine WO.pg rfl rfl rfl (WO.pg rfl rfl rfl (WO.pg rfl rfl rfl (WO.go' rfl (WO.ar rfl rfl rfl (by (first | (unfold in64; omega) | (unfold in64; omega))) rfl (WO.go' rfl ?_)))))
                      refine WO.eqlT rfl rfl (by omega) rfl ?_
                      refine WO.pg rfl rfl rfl (WO.pg rfl rfl rfl (WO.p rfl rfl (WO.p rfl rfl (WO.go' rfl ?_))))
                      refine WO.callR rfl Try.call8 (fun L w hi => l_Works w) rfl ?_
                      refine WO.p rfl rfl (WO.p rfl rfl ?_)
                      refine WO.nil ?_
                      refine W.ret ?_
                      exact fin.ret (Res.one rfl (RV.tmp rfl)) rfl))
              first
              | (exfalso; omega)
              | (refine WO.no rfl rfl (WO.no rfl rfl (WO.no rfl rfl (WO.no rfl rfl (WO.no rfl rfl (WO.no rfl rfl (WO.no rfl rfl (WO.no rfl rfl (WO.no rfl rfl (WO.no rfl rfl (WO.no rfl rfl (WO.no rfl rfl ?_)))))))))))
                 refine WO.no rfl rfl (WO.no rfl rfl (WO.no rfl rfl (WO.no rfl rfl (WO.no rfl rfl (WO.p rfl rfl (WO.p rfl rfl (WO.no rfl rfl (WO.p rfl rfl (WO.p rfl rfl ?_)))))))))
                 refine WO.nil ?_
                 refine W.ret ?_
                 exact fin.ret (Res.one rfl (RV.tmp rfl)) rfl)))))
theorem law_SecretRank (w : World) (n : Int) (v : Value) (x : Nat) (hx : x ≤ 255) (rv : List Value) (rows : List (List Int)) (hB : RdR encI 1 w.heap.size w v rv rows) (hcv : CapV v rows.length) : Ret Try.prog 6 [bookV n v, .int .u8 (x : Int)].toArray w (.bool true) := by
  by_cases hf : ¬ greatP rows ∧ chkB n rows = 0
  · obtain ⟨hg, h0⟩ := hf
    have h1 := (chkB0.1 h0).2.1
    have e : ((n.toNat : Nat) : Int) = n := by omega
    have := rank_yes w n.toNat v x hx rv rows hB hg (by rw [e]; exact h0) hcv
    rwa [e] at this
  exact rank_no w n v x rv rows hB hf
end Go.Proofs.Ytelmclmklkiphaa
