/-
  What is proved here: sides that contradict each other. Conditions: none; each contract states its own.
  What is proved here: sides that put together are two factors. Conditions: none; each contract states its own.
  What is proved here: the greatest bound of sides that put together are two factors. Conditions: none; each contract states its own.
  What is proved here: sides that contradict each other, and the greatest bound of what they say (no program in sight). Conditions: none; each theorem states its own.
  What is proved here: if no sides contradict each other, a corner fits them, at which the greatest bound is the value (no program in sight). Conditions: none; each theorem states its own.
  What is proved here: the corners, and the function that yields them. Conditions: none; each contract states its own.
  What is proved here: the greatest bound that can be made, and the least value. Conditions: none; each contract states its own.
  What is proved here: the least value of two factors. Conditions: none; each contract states its own.
  What is proved here: a corner that fits attains the greatest bound (no program in sight). Conditions: none; each theorem states its own.
  What is proved here: equal fractions have equal least terms (no program in sight). Conditions: none; each theorem states its own.
  What is proved here: what is asked of a proof, by the reference. Conditions: none; each contract states its own.
  What is proved here: the least value, if a truth with whole numbers has it (no program in sight). Conditions: none; each theorem states its own.
  What is proved here: what an evaluator reckons for parts of values, lengths, numbers and tests is what the model's operations do. Conditions: none; each lemma states its own.
  What is proved here: bits that are taken away. Conditions: each rule states its own.
  What is proved here: what an evaluator reckons for operators and conversions is what the model's operations do. Conditions: none; each lemma states its own.
  What is proved here: what an evaluator reckons for tests, conversions, appending and copying is what the model's operations do. Conditions: none; each lemma states its own.
-/
import Derived.Test.YtncjabmlkgacdaaGreatM4
import Derived.Test.YtncjabmlkgacdaaGreatM2
import Derived.Test.YtncjabmlkgacdaaGreatM3
set_option linter.unusedVariables false
set_option linter.unusedSimpArgs false
namespace Go.Proofs.YtncjabmlkgacdaaGreat.Sp
open Go Go.TH
attribute [local irreducible] W WO pt
set_option maxRecDepth 10000
set_option maxHeartbeats 1000000
theorem fi_ne {α : Type} {p : α → Bool} {xs : List α} {k : Nat} {x : α} (hx : xs[k]? = some x) (hle : k ≤ xs.findIdx p) (hn : ¬ p x = true) : k < xs.findIdx p := by
 rcases Nat.lt_or_ge k (xs.findIdx p) with h | h
 ·exact h
 ·obtain rfl : k = xs.findIdx p := by omega
  obtain ⟨hl, e⟩ := List.getElem?_eq_some_iff.1 hx
  have := List.findIdx_getElem (w := hl)
  rw [e] at this
  exact absurd this hn
theorem fi_eq {α : Type} {p : α → Bool} {xs : List α} {k : Nat} {x : α} (hx : xs[k]? = some x) (hle : k ≤ xs.findIdx p) (hp : p x = true) : k = xs.findIdx p := by
 rcases Nat.lt_or_ge k (xs.findIdx p) with h | h
 ·have := List.not_of_lt_findIdx h
  obtain ⟨hl, e⟩ := List.getElem?_eq_some_iff.1 hx
  rw [e] at this
  rw [this] at hp
  cases hp
 ·omega
def dbt (S : List Sd) (g : List Int) : Option (List Int) := match zrY S g with
 | some ys => if (tkS S g ys g.length).a = 0 ∧ (tkS S g ys g.length).b = 0 ∧ 0 < (tkS S g ys g.length).c then some ys else none
 | none => none
theorem dbt_some {S : List Sd} {g : List Int} : (dbt S g).isSome = true ↔ zrT (zrY S g) = 1 ∧ ((zrS S g (zrY S g)).a = 0 ∧ (zrS S g (zrY S g)).b = 0) ∧ 0 < (zrS S g (zrY S g)).c := by
 unfold dbt zrT zrS
 cases zrY S g with
 | none => simp
 | some ys =>
  dsimp only
  split
  ·rename_i h; simp [h]
  ·rename_i h; simp; omega
theorem dbt_zrY {S : List Sd} {g ys : List Int} (h : dbt S g = some ys) : zrY S g = some ys := by
 unfold dbt at h
 cases hz : zrY S g with
 | none => rw [hz] at h; cases h
 | some zs =>
  rw [hz] at h
  dsimp only at h
  split at h
  ·exact h
  ·cases h
theorem dbt_def {S : List Sd} {g : List Int} (h : (dbt S g).isSome = true) : ∃ ys, dbt S g = some ys ∧ zrY S g = some ys := by
 obtain ⟨ys, e⟩ := Option.isSome_iff_exists.1 h
 exact ⟨ys, e, dbt_zrY e⟩
abbrev grS (S : List Sd) : List (List Int) := grp 3 S.length
def hitD (S : List Sd) : Nat := (grS S).findIdx fun g => (dbt S g).isSome
abbrev hitG (S : List Sd) : List Int := (grS S).getD (hitD S) []
def Dbt (S : List Sd) : Prop := hitD S < (grS S).length
instance (S : List Sd) : Decidable (Dbt S) := by unfold Dbt; infer_instance
theorem Dbt.iff {S : List Sd} : Dbt S ↔ ∃ g ∈ grS S, (dbt S g).isSome = true := by
 unfold Dbt hitD
 rw [List.findIdx_lt_length]
theorem Dbt.hit {S : List Sd} (h : Dbt S) : hitG S ∈ grS S ∧ (dbt S (hitG S)).isSome = true := by
 have e : hitG S = (grS S)[hitD S] := by rw [hitG, List.getD_eq_getElem?_getD, List.getElem?_eq_getElem h]; rfl
 rw [e]
 exact ⟨List.getElem_mem _, List.findIdx_getElem (w := h)⟩
def dbS (S : List Sd) : Sd := if Dbt S then zrS S (hitG S) (zrY S (hitG S)) else sd0
def dbT (S : List Sd) : Int := if Dbt S then 1 else 0
def dbQ (S : List Sd) (mb : Nat) : Option Nat := if Dbt S then some mb else none
def dbP (S : List Sd) (mb : Nat) : HP := fun h => Dbt S → ∃ ys, dbt S (hitG S) = some ys ∧ pt mb (.map (tkL (hitG S) ys (hitG S).length).toArray (hitG S).length) h
def DbR (S : List Sd) (b3 b4 : Nat) : Option (List Int) → HP
 | none => sat [pt b3 (.cells #[.map none, .int .i64 0, .int .i64 0, .int .i64 0, .int .i64 0] 98 (0, 0)), pt b4 (.cells #[.bool false] 4 (0, 0))]
 | some g => fun h => ∃ (mb : Nat), sat [pt b3 (.cells #[.map (some mb), .int .i64 (zrS S g (zrY S g)).a, .int .i64 (zrS S g (zrY S g)).b, .int .i64 (zrS S g (zrY S g)).c, .int .i64 1] 98 (0, 0)), pt b4 (.cells #[.bool true] 4 (0, 0)), zrP g (zrY S g) mb] h
section
variable {S : List Sd} {b3 b4 : Nat} {g : List Int} {H H' H2 : List HP}
theorem dbR_none (p : Pick (pt b3 (.cells #[.map none, .int .i64 0, .int .i64 0, .int .i64 0, .int .i64 0] 98 (0, 0))) H H') (q : Pick (pt b4 (.cells #[.bool false] 4 (0, 0))) H' H2) : ∀ h, sat H h → sat (DbR S b3 b4 none :: H2) h := fun h hs =>
 sat_one (Hs := [_, _]) h (Sub.sat (.cons p (.cons q (Sub.refl _))) hs)
theorem dbR_open (p : Pick (DbR S b3 b4 none) H H') : ∀ h, sat H h → sat (pt b3 (.cells #[.map none, .int .i64 0, .int .i64 0, .int .i64 0, .int .i64 0] 98 (0, 0)) :: pt b4 (.cells #[.bool false] 4 (0, 0)) :: H') h := fun h hs =>
 sat_many (Hs := [_, _]) h (p.sat hs)
theorem dbR_some (p : Pick (DbR S b3 b4 (some g)) H H') : ∀ h, sat H h → ∃ mb : Nat, True ∧ sat (pt b3 (.cells #[.map (some mb), .int .i64 (zrS S g (zrY S g)).a, .int .i64 (zrS S g (zrY S g)).b, .int .i64 (zrS S g (zrY S g)).c, .int .i64 1] 98 (0, 0)) :: pt b4 (.cells #[.bool true] 4 (0, 0)) :: zrP g (zrY S g) mb :: H') h := fun h hs => by
 obtain ⟨h1, h2, s, ⟨v, hp⟩, hr⟩ := p.sat hs
 exact ⟨v, trivial, sat_join (H1 := [_, _, _]) s hp hr⟩
theorem dbR_pack {mb : Nat} {q : Option Nat} {t : Int} {s : Sd} {Hr : List HP} (hq : q = some mb) (hs0 : s = zrS S g (zrY S g)) (ht : t = 1) (sb : Sub H (pt b3 (.cells #[.map q, .int .i64 s.a, .int .i64 s.b, .int .i64 s.c, .int .i64 t] 98 (0, 0)) :: pt b4 (.cells #[.bool true] 4 (0, 0)) :: zrP g (zrY S g) mb :: Hr)) : ∀ h, sat H h → sat (DbR S b3 b4 (some g) :: Hr) h := fun h hs => by
 subst hq ht hs0
 obtain ⟨h1, h2, s2, hp, hr⟩ := sat_app (H1 := [_, _, _]) (sb.sat hs)
 exact ⟨h1, h2, s2, ⟨mb, hp⟩, hr⟩
theorem dbP_no {mb : Nat} (h : ¬ Dbt S) : ∀ h, sat H h → sat (dbP S mb :: H) h := fun _ hs => ⟨fun _ => none, _, split_none _, fun q => absurd q h, hs⟩
theorem dbP_yes {mb : Nat} (h : Dbt S) (p : Pick (zrP (hitG S) (zrY S (hitG S)) mb) H H') : ∀ h, sat H h → sat (dbP S mb :: H') h := fun hh hs => by
 obtain ⟨h1, h2, s, hp, hr⟩ := p.sat hs
 obtain ⟨ys, e, ez⟩ := dbt_def h.hit.2
 exact ⟨h1, h2, s, fun _ => ⟨ys, e, hp ys ez⟩, hr⟩
end
theorem c_doubt (w : World) (p : Addr) (rv sv : Value) (rl : List Rn) (hT : Tbl w.heap.size w p rv sv rl) (hok : OkRs rl) (hl : rl.length ≤ 12) :
 Ct Tryz.prog 38 [.pointer (some p)].toArray w fun v w' => ∃ Hq, (∃ mb : Nat, v = .tuple #[mdV (.map (dbQ (sds rl) mb)) (dbS (sds rl)) (dbT (sds rl)), .bool (bl (Dbt (sds rl)))] ∧ Hq = [dbP (sds rl) mb]) ∧ Inv w [] Hq w' := by
 refine Ct.ofI mixed tyTab Tryz.func38 rfl rfl ?_
 replace hT : Tbl (fnCx mixed tyTab Tryz.f38.ntmps w).B (fnCx mixed tyTab Tryz.f38.ntmps w).w0 p rv sv rl := hT
 have hsl := sds_len rl
 refine W.sreg (WO.box1 rfl (by rfl) rfl (fun b1 hb1 => (WO.alloc rfl rfl rfl (fun b2 hb2 => (WO.p rfl rfl (WO.nil (W.scope (W.sreg (WO.alloc rfl rfl rfl (fun b3 hb3 => (WO.nil (W.sreg (WO.alloc rfl rfl rfl (fun b4 hb4 => (WO.store1 rfl rfl rfl (by rfl) Pick.head rfl (WO.nil (W.seq (W.label (W.seq (W.sreg (WO.load rfl rfl (Cell.own (Pick.tail (Pick.tail (Pick.tail (Pick.head)))) rfl) rfl ?_)))))))))))))))))))))
 refine WO.call (Post := fun v Hq => ∃ b1 b2, v = .func (.func 174) #[] #[.pointer (some ⟨b1, 0, none⟩), .pointer (some ⟨b2, 0, none⟩)] ∧ Hq = [pt b2 (.cells #[.int .i64 3] 3 (0, 0)), pt b1 (.cells #[.pointer (some p)] 100 (0, 0))]) rfl Tryz.call98 (fun L w hi => c_groups w p 3) rfl ?_
 rintro _ _ ⟨b5, b6, rfl, rfl⟩
 refine WO.nil (W.block (W.chg (dbR_none (S := sds rl) (b3 := b3) (b4 := b4) (by repeat first | exact .head | apply Pick.tail) (by repeat first | exact .head | apply Pick.tail)) ?_))
 refine W.rangeFuncB (Jmp.exit 0) [pt b6 (.cells #[.int .i64 ((3 : Nat) : Int)] 3 (0, 0)), pt b5 (.cells #[.pointer (some p)] 100 (0, 0))] (fun t => [DbR (sds rl) b3 b4 (if t ≤ hitD (sds rl) then none else some (hitG (sds rl))), pt b1 (.cells #[.pointer (some p)] 100 (0, 0)), pt b2 (.cells #[.map none, .int .i64 0, .int .i64 0, .int .i64 0, .int .i64 0] 98 (0, 0))]) (grS (sds rl)) (fun g1 v1 => OwE encI 3 1 v1 g1) (hitD (sds rl)) rfl rfl rfl Tryz.call174 (by repeat (first | exact Sub.nil | refine Sub.cons (by repeat first | exact .head | apply Pick.tail) ?_)) ?_ ?_ ?_ ?_
 ·intro ll Hc hy w1 M1 hB1 hk1 hM1 hi1
  exact c_groups1 _ _ p rv sv rl hT (sds rl).length rfl 3 (by omega) (by omega) _ ll Hc hy b5 b6 w1 M1 hB1 hk1 hM1 hi1
 ·intro ll w1 M1 hB1 hM1 hk1 t g1 v1 hx hle1
  have hgr := (grp_ok (by omega) (List.mem_of_getElem? hx)).1
  replace hT := hT.agree hk1
  rw [if_pos hle1]
  refine W.region (WO.p rfl rfl (WO.nil (W.block (W.sreg (WO.load rfl rfl (Cell.own (Pick.tail (Pick.tail (Pick.head))) rfl) rfl (WO.p rfl rfl (WO.call (Post := fun v Hq => ∃ mb : Nat, v = zrV (sds rl) g1 (zrY (sds rl) g1) mb ∧ Hq = [zrP g1 (zrY (sds rl) g1) mb]) rfl Tryz.call99 (fun L w hi => c_zero w p rv sv rl (hT.later hi) hok v1 g1 (RdF.of_ow (e := 3) encI_ok (by repeat exact .head) hi) hgr) rfl ?_)))))))
  rintro _ _ ⟨mb, rfl, rfl⟩
  refine WO.alloc rfl rfl rfl (fun b5 hb5 => (WO.storeA rfl rfl rfl rfl Pick.head rfl rfl (WO.nil (W.sreg (WO.fieldL rfl rfl rfl (WO.load rfl rfl (Cell.own Pick.head rfl) rfl (WO.p rfl rfl (WO.p rfl rfl ?_))))))))
  refine WO.guard_bl rfl rfl (fun c1 => ?_) (fun c1 => ?_)
  ·refine WO.go' rfl (WO.fieldL rfl rfl rfl (WO.go' rfl (WO.loadA rfl rfl (Cells.ownAt (n := 3) Pick.head rfl) rfl rfl (WO.go' rfl (WO.callR rfl Tryz.call100 (fun L w hi => c_flat w (zrS (sds rl) g1 (zrY (sds rl) g1))) rfl (WO.go' rfl (WO.build rfl rfl rfl rfl rfl (WO.go' rfl (WO.eqT rfl rfl (eq124z (zrS (sds rl) g1 (zrY (sds rl) g1)).a (zrS (sds rl) g1 (zrY (sds rl) g1)).b) rfl (WO.p rfl rfl (WO.p rfl rfl ?_)))))))))))
   refine WO.guard_bl rfl rfl (fun c2 => ?_) (fun c2 => ?_)
   ·refine WO.go' rfl (WO.fieldL rfl rfl rfl (WO.go' rfl (WO.indexArrL (o' := 3) rfl rfl rfl (by decide) rfl rfl (WO.go' rfl (WO.load rfl rfl (Cell.own Pick.head rfl) rfl (WO.pg rfl rfl rfl (WO.p rfl rfl (WO.nil ?_))))))))
    refine W.cond_bl rfl (fun c3 => ?_) (fun c3 => ?_)
    ·refine W.chg (dbR_open (S := sds rl) (b3 := b3) (b4 := b4) (by repeat first | exact .head | apply Pick.tail)) (W.sreg (WO.loadA rfl rfl (Cells.own (Pick.tail (Pick.tail (Pick.head)))) rfl rfl (WO.storeA rfl rfl rfl rfl Pick.head rfl rfl (WO.store1 rfl rfl rfl (by rfl) (Pick.tail (Pick.head)) rfl (WO.nil (W.exit (blk_other rfl ?_)))))))
     have hds := dbt_some.2 ⟨by assumption, by assumption, by assumption⟩
     have htt := fi_eq (p := fun g => (dbt (sds rl) g).isSome) hx hle1 hds
     obtain ⟨ys, _, hzy⟩ := dbt_def hds
     refine endR.stop (bl_f.2 (by have : t = hitD (sds rl) := htt; omega)) rfl ?_
     rw [if_neg (show ¬ t + 1 ≤ hitD (sds rl) by have : t = hitD (sds rl) := htt; omega), show hitG (sds rl) = g1 by unfold hitG; rw [← (show t = hitD (sds rl) from htt), List.getD_eq_getElem?_getD, hx]; rfl]
     exact dbR_pack (mb := mb) (q := (zrY (sds rl) g1).map fun _ => mb) (s := zrS (sds rl) g1 (zrY (sds rl) g1)) (t := zrT (zrY (sds rl) g1)) (by rw [hzy]; rfl) rfl (by rw [hzy]; rfl) (by repeat (first | exact Sub.nil | refine Sub.cons (by repeat first | exact .head | apply Pick.tail) ?_))
    ·refine W.skip ?_
     have hlt := fi_ne (p := fun g => (dbt (sds rl) g).isSome) hx hle1 (fun q => by have := dbt_some.1 q; omega)
     refine endR.go (bl_t.2 hlt) ?_
     rw [if_pos (show t + 1 ≤ hitD (sds rl) from hlt)]
     exact fun h hs => Sub.sat (by repeat (first | exact Sub.nil | refine Sub.cons (by repeat first | exact .head | apply Pick.tail) ?_)) hs
   ·refine WO.no rfl rfl (WO.no rfl rfl (WO.no rfl rfl (WO.no rfl rfl (WO.p rfl rfl (WO.nil (W.cond_f rfl (W.skip ?_)))))))
    have hlt := fi_ne (p := fun g => (dbt (sds rl) g).isSome) hx hle1 (fun q => by have := dbt_some.1 q; omega)
    refine endR.go (bl_t.2 hlt) ?_
    rw [if_pos (show t + 1 ≤ hitD (sds rl) from hlt)]
    exact fun h hs => Sub.sat (by repeat (first | exact Sub.nil | refine Sub.cons (by repeat first | exact .head | apply Pick.tail) ?_)) hs
  ·refine WO.no rfl rfl (WO.no rfl rfl (WO.no rfl rfl (WO.no rfl rfl (WO.no rfl rfl (WO.p rfl rfl (WO.p rfl rfl (WO.no rfl rfl (WO.no rfl rfl (WO.no rfl rfl (WO.no rfl rfl (WO.p rfl rfl (WO.nil (W.cond_f rfl (W.skip ?_))))))))))))))
   have hlt := fi_ne (p := fun g => (dbt (sds rl) g).isSome) hx hle1 (fun q => by have := dbt_some.1 q; omega)
   refine endR.go (bl_t.2 hlt) ?_
   rw [if_pos (show t + 1 ≤ hitD (sds rl) from hlt)]
   exact fun h hs => Sub.sat (by repeat (first | exact Sub.nil | refine Sub.cons (by repeat first | exact .head | apply Pick.tail) ?_)) hs
 ·intro hAll
  rw [if_pos hAll]
  refine W.chg (dbR_open (S := sds rl) (b3 := b3) (b4 := b4) (by repeat first | exact .head | apply Pick.tail)) ?_
  have hnd : ¬ Dbt (sds rl) := by unfold Dbt; omega
  refine W.chg (dbP_no (mb := 0) hnd) (W.seq ?_)
  refine W.drawD 3 [.b 0 [], .b 1 [], .s 2 []] [] (A0 := [_]) (H0 := [_, _, _, _, _, _]) (.cons (Pick.tail (Pick.tail (Pick.tail (Pick.tail (Pick.tail (Pick.tail .head)))))) (.cons .head (.cons .head (.cons .head (.cons .head (.cons .head (.cons .head .nil))))))) (by kernel_rfl) ?_ ?_
  ·exact (ALok.b (ALok.b (ALok.s ALok.nil)))
  refine DT.b rfl rfl rfl (WO.loadA rfl rfl (Cells.own (Pick.tail (Pick.head))) rfl rfl (WO.nil ⟨rfl, rfl⟩)) (DT.b rfl rfl rfl (WO.load rfl rfl (Cell.own (Pick.tail (Pick.tail (Pick.head))) rfl) rfl (WO.nil ⟨rfl, rfl⟩)) (DT.s [_, _, _, _, _, _, _] rfl rfl rfl (WO.storeA rfl rfl rfl rfl Pick.head rfl rfl ?_)))
  refine WO.nil ⟨[_], rfl, rfl, (Keep.b (Keep.b Keep.nil)), ?_⟩
  refine DT.nil [_, _, _, _, _, _, _] rfl (WO.p rfl rfl (WO.nil (W.ret (fin.ret (Res.two rfl (RV.cell rfl rfl rfl (Cells.own (by repeat exact .head))) (RV.tmp rfl)) ?_))))
  first | exact ⟨0, by rw [show dbQ (sds rl) 0 = none from if_neg hnd, show dbS (sds rl) = sd0 from if_neg hnd, show dbT (sds rl) = 0 from if_neg hnd, bl_f.2 hnd] <;> rfl, fun h hs => Sub.sat (by repeat (first | exact Sub.nil | refine Sub.cons (by repeat first | exact .head | apply Pick.tail) ?_)) hs⟩ | exact ⟨mb, by rw [show dbQ (sds rl) mb = some mb from if_pos hyd, show dbS (sds rl) = _ from if_pos hyd, show dbT (sds rl) = 1 from if_pos hyd, bl_t.2 hyd] <;> rfl, fun h hs => Sub.sat (by repeat (first | exact Sub.nil | refine Sub.cons (by repeat first | exact .head | apply Pick.tail) ?_)) hs⟩
 ·intro hStop
  rw [if_neg (show ¬ hitD (sds rl) + 1 ≤ hitD (sds rl) by omega)]
  have hyd : Dbt (sds rl) := hStop
  refine W.chgE (dbR_some (S := sds rl) (b3 := b3) (b4 := b4) (by repeat first | exact .head | apply Pick.tail)) ?_
  rintro mb -
  refine W.chg (dbP_yes (mb := mb) hyd (by repeat first | exact .head | apply Pick.tail)) (W.exit (blk_same (W.seq ?_)))
  refine W.drawD 3 [.b 0 [], .b 1 [], .s 2 []] [] (A0 := [_]) (H0 := [_, _, _, _, _, _]) (.cons (Pick.tail (Pick.tail (Pick.tail (Pick.tail (Pick.tail (Pick.tail .head)))))) (.cons .head (.cons .head (.cons .head (.cons .head (.cons .head (.cons .head .nil))))))) (by kernel_rfl) ?_ ?_
  ·exact (ALok.b (ALok.b (ALok.s ALok.nil)))
  refine DT.b rfl rfl rfl (WO.loadA rfl rfl (Cells.own (Pick.tail (Pick.head))) rfl rfl (WO.nil ⟨rfl, rfl⟩)) (DT.b rfl rfl rfl (WO.load rfl rfl (Cell.own (Pick.tail (Pick.tail (Pick.head))) rfl) rfl (WO.nil ⟨rfl, rfl⟩)) (DT.s [_, _, _, _, _, _, _] rfl rfl rfl (WO.storeA rfl rfl rfl rfl Pick.head rfl rfl ?_)))
  refine WO.nil ⟨[_], rfl, rfl, (Keep.b (Keep.b Keep.nil)), ?_⟩
  refine DT.nil [_, _, _, _, _, _, _] rfl (WO.p rfl rfl (WO.nil (W.ret (fin.ret (Res.two rfl (RV.cell rfl rfl rfl (Cells.own (by repeat exact .head))) (RV.tmp rfl)) ?_))))
  first | exact ⟨0, by rw [show dbQ (sds rl) 0 = none from if_neg hnd, show dbS (sds rl) = sd0 from if_neg hnd, show dbT (sds rl) = 0 from if_neg hnd, bl_f.2 hnd] <;> rfl, fun h hs => Sub.sat (by repeat (first | exact Sub.nil | refine Sub.cons (by repeat first | exact .head | apply Pick.tail) ?_)) hs⟩ | exact ⟨mb, by rw [show dbQ (sds rl) mb = some mb from if_pos hyd, show dbS (sds rl) = _ from if_pos hyd, show dbT (sds rl) = 1 from if_pos hyd, bl_t.2 hyd] <;> rfl, fun h hs => Sub.sat (by repeat (first | exact Sub.nil | refine Sub.cons (by repeat first | exact .head | apply Pick.tail) ?_)) hs⟩
end Go.Proofs.YtncjabmlkgacdaaGreat.Sp
namespace Go.Proofs.YtncjabmlkgacdaaGreat.Sp
open Go Go.TH
attribute [local irreducible] W WO pt
set_option maxRecDepth 10000
set_option maxHeartbeats 1000000
abbrev Md := Nat × Sd × Int
def encMd (x : Md) : List Value := [.map (some x.1), .int .i64 x.2.1.a, .int .i64 x.2.1.b, .int .i64 x.2.1.c, .int .i64 x.2.2]
theorem encMd_ok : EncOk encMd 5 := ⟨fun _ => rfl, fun x u hu => by simp [encMd] at hu; rcases hu with rfl | rfl | rfl | rfl | rfl <;> rfl, by omega⟩
def md0 : Md := (0, sd0, 0)
abbrev Mds.at (xs : List Md) (i : Nat) : Md := xs.getD i md0
structure OkM (x : Sd × Int) : Prop where
 c : -400000000 ≤ x.1.c ∧ x.1.c ≤ 400000000
 t : 0 < x.2 ∧ x.2 ≤ 1000
def gtM (x y : Sd × Int) : Prop := y.1.c * x.2 < x.1.c * y.2
instance (x y : Sd × Int) : Decidable (gtM x y) := by unfold gtM; infer_instance
theorem red_lt {n d m e : Int} (hd : 0 < d) (he : 0 < e) : (red n d).1 * (red m e).2 < (red m e).1 * (red n d).2 ↔ n * e < m * d := by
 obtain ⟨g, hg, h1, h2, _⟩ := red_parts n hd
 obtain ⟨k, hk, h3, h4, _⟩ := red_parts m he
 generalize red n d = u at *
 generalize red m e = v at *
 have e1 : n * e = u.1 * v.2 * (g * k) := by rw [h1, h4]; grind
 have e2 : m * d = v.1 * u.2 * (g * k) := by rw [h3, h2]; grind
 have hp := Int.mul_pos hg hk
 rw [e1, e2]
 constructor
 ·exact fun h => Int.mul_lt_mul_of_pos_right h hp
 ·intro h
  rcases Int.lt_or_le (u.1 * v.2) (v.1 * u.2) with q | q
  ·exact q
  ·have := Int.mul_le_mul_of_nonneg_right q (Int.le_of_lt hp); omega
theorem red_in {n d : Int} (hn : -400000000 ≤ n ∧ n ≤ 400000000) (hd : 0 < d ∧ d ≤ 1000) : (-400000000 ≤ (red n d).1 ∧ (red n d).1 ≤ 400000000) ∧ 0 < (red n d).2 ∧ (red n d).2 ≤ 1000 := by
 obtain ⟨g, hg, h1, h2, h3, h4, h5⟩ := red_parts n hd.1
 unfold ab at h5
 omega
theorem c_bound (w : World) (x : Md) (h : OkM x.2) : Ret Tryz.prog 52 [mdV (.map (some x.1)) x.2.1 x.2.2].toArray w (raV (red x.2.1.c x.2.2)) := by
 refine Ret.of mixed tyTab Tryz.func52 rfl rfl ?_
 obtain ⟨h1, h2⟩ := h
 refine W.sreg (WO.boxA rfl rfl (fun b1 hb1 => (WO.alloc rfl rfl rfl (fun b2 hb2 => (WO.nil (W.sreg (WO.fieldL rfl rfl rfl (WO.indexArrL (o' := 3) rfl rfl rfl (by decide) rfl rfl (WO.load rfl rfl (Cell.own (Pick.tail (Pick.head)) rfl) rfl (WO.fieldL rfl rfl rfl (WO.load rfl rfl (Cell.own (Pick.tail (Pick.head)) rfl) rfl (WO.callR rfl Tryz.call92 (fun L w hi => c_ratio w x.2.1.c x.2.2 (by omega) (by omega)) rfl (WO.storeA rfl rfl rfl rfl Pick.head rfl rfl (WO.nil (W.ret ?_)))))))))))))))
 exact fin.ret (Res.one rfl (RV.cell rfl rfl rfl (Cells.own Pick.head))) rfl
theorem c_boundQ (w : World) (q : Option Nat) (s : Sd) (t : Int) (h : OkM (s, t)) : Ret Tryz.prog 52 [mdV (.map q) s t].toArray w (raV (red s.c t)) := by
 refine Ret.of mixed tyTab Tryz.func52 rfl rfl ?_
 obtain ⟨h1, h2⟩ := h
 dsimp only at h1 h2
 refine W.sreg (WO.boxA rfl rfl (fun b1 hb1 => (WO.alloc rfl rfl rfl (fun b2 hb2 => (WO.nil (W.sreg (WO.fieldL rfl rfl rfl (WO.indexArrL (o' := 3) rfl rfl rfl (by decide) rfl rfl (WO.load rfl rfl (Cell.own (Pick.tail (Pick.head)) rfl) rfl (WO.fieldL rfl rfl rfl (WO.load rfl rfl (Cell.own (Pick.tail (Pick.head)) rfl) rfl (WO.callR rfl Tryz.call92 (fun L w hi => c_ratio w s.c t (by omega) (by omega)) rfl (WO.storeA rfl rfl rfl rfl Pick.head rfl rfl (WO.nil (W.ret ?_)))))))))))))))
 exact fin.ret (Res.one rfl (RV.cell rfl rfl rfl (Cells.own Pick.head))) rfl
theorem c_before (w : World) (x y : Md) (hx : OkM x.2) (hy : OkM y.2) : Ret Tryz.prog 183 [mdV (.map (some x.1)) x.2.1 x.2.2, mdV (.map (some y.1)) y.2.1 y.2.2].toArray w (.bool (bl (gtM x.2 y.2))) := by
 refine Ret.of mixed tyTab Tryz.func183 rfl rfl ?_
 have rx := red_in hx.c hx.t
 have ry := red_in hy.c hy.t
 have m1 := mul_bd (A := 400000000) (B := 1000) ry.1 (show -1000 ≤ (red x.2.1.c x.2.2).2 ∧ (red x.2.1.c x.2.2).2 ≤ 1000 by omega)
 have m2 := mul_bd (A := 400000000) (B := 1000) rx.1 (show -1000 ≤ (red y.2.1.c y.2.2).2 ∧ (red y.2.1.c y.2.2).2 ≤ 1000 by omega)
 refine W.sreg (WO.boxA rfl rfl (fun b1 hb1 => (WO.boxA rfl rfl (fun b2 hb2 => (WO.p rfl rfl (WO.nil (W.seq ?_)))))))
 refine W.drawD 3 [.b 0 [], .b 1 [], .b 2 []] [] (A0 := []) (Sub.refl _) (by kernel_rfl) ?_ ?_
 ·repeat constructor
 refine DT.b rfl rfl rfl (WO.loadA rfl rfl (Cells.own Pick.head) rfl rfl (WO.nil ⟨rfl, rfl⟩)) (DT.b rfl rfl rfl (WO.callR rfl Tryz.call52 (fun L w hi => c_bound w y hy) rfl (WO.nil ⟨rfl, rfl⟩)) (DT.b rfl rfl rfl (WO.loadA rfl rfl (Cells.own (Pick.tail (Pick.head))) rfl rfl (WO.nil ⟨rfl, rfl⟩)) (DT.nil [_, _] rfl (WO.callR rfl Tryz.call52 (fun L w hi => c_bound w x hx) rfl ?_))))
 refine WO.callR (r := .bool (bl (gtM x.2 y.2))) rfl Tryz.call159 (fun L w hi => by have h := c_less w (red y.2.1.c y.2.2).1 (red y.2.1.c y.2.2).2 (red x.2.1.c x.2.2).1 (red x.2.1.c x.2.2).2 (by unfold in64; omega) (by unfold in64; omega); rw [show bl ((red y.2.1.c y.2.2).1 * (red x.2.1.c x.2.2).2 < (red x.2.1.c x.2.2).1 * (red y.2.1.c y.2.2).2) = bl (gtM x.2 y.2) by rw [bl_eq, bl_eq, decide_eq_decide]; exact red_lt hy.t.1 hx.t.1] at h; exact h) rfl (WO.p rfl rfl (WO.nil (W.ret ?_)))
 exact fin.ret (Res.one rfl (RV.tmp rfl)) rfl
theorem RdF.cellsM {C : Cx Tryz.prog} {H : List HP} {o : Value} {xs : List Md} (h : RdF encMd 5 C.B C.w0 o xs) {i : Nat} (h1 : i < xs.length) : Cells C H (elt o i 5) [.map (some (Mds.at xs i).1), .int .i64 (Mds.at xs i).2.1.a, .int .i64 (Mds.at xs i).2.1.b, .int .i64 (Mds.at xs i).2.1.c, .int .i64 (Mds.at xs i).2.2] := RdF.cells h h1 _
theorem tail_at {xs : List Md} {i : Nat} {n : Nat} (h : n = xs.length) : Mds.at ((xs.drop 1).take (n - 1)) i = Mds.at xs (i + 1) ∨ xs.length ≤ i + 1 := by
 subst h
 rcases Nat.lt_or_ge (i + 1) xs.length with g | g
 ·refine .inl ?_
  simp only [Mds.at, List.getD_eq_getElem?_getD]
  rw [List.getElem?_take_of_lt (by omega), List.getElem?_drop, Nat.add_comm]
 ·exact .inr g
structure FirstM (xs : List Md) (n : Nat) (x : Md) : Prop where
 mem : x ∈ xs
 max : ∀ j, j < n → j < xs.length → ¬ gtM (Mds.at xs j).2 x.2
theorem gtM_trans {x y z : Sd × Int} (hx : OkM x) (hy : OkM y) (hz : OkM z) (h1 : gtM x y) (h2 : ¬ gtM z y) : ¬ gtM z x := fun h3 => by
 unfold gtM at h1 h2 h3
 have k1 := Int.mul_lt_mul_of_pos_right h1 hz.t.1
 have k2 := Int.mul_le_mul_of_nonneg_right (Int.not_lt.1 h2) (Int.le_of_lt hx.t.1)
 have k3 := Int.mul_lt_mul_of_pos_right h3 hy.t.1
 have e1 : x.1.c * y.2 * z.2 = x.1.c * z.2 * y.2 := by grind
 have e2 : y.1.c * z.2 * x.2 = y.1.c * x.2 * z.2 := by grind
 have e3 : z.1.c * x.2 * y.2 = z.1.c * y.2 * x.2 := by grind
 omega
theorem first_no {xs : List Md} {i : Nat} {x : Md} (h : FirstM xs (i + 1) x) (hn : ¬ gtM (Mds.at xs (i + 1)).2 x.2) : FirstM xs (i + 1 + 1) x :=
 ⟨h.mem, fun j hj hl => by
  rcases Nat.lt_or_ge j (i + 1) with g | g
  ·exact h.max j g hl
  ·obtain rfl : j = i + 1 := by omega
   exact hn⟩
theorem first_yes {xs : List Md} {i : Nat} {x : Md} (h : FirstM xs (i + 1) x) (hk : ∀ x ∈ xs, OkM x.2) (hi : i + 1 < xs.length) (hn : gtM (Mds.at xs (i + 1)).2 x.2) : FirstM xs (i + 1 + 1) (Mds.at xs (i + 1)) :=
 ⟨getD_mem hi _, fun j hj hl => by
  rcases Nat.lt_or_ge j (i + 1) with g | g
  ·exact gtM_trans (hk _ (getD_mem hi _)) (hk _ h.mem) (hk _ (getD_mem hl md0)) hn (h.max j g hl)
  ·obtain rfl : j = i + 1 := by omega
   unfold gtM; omega⟩
theorem c_first (w : World) (a : Option Addr) (c : Nat) (xs : List Md) (hR : RdF encMd 5 w.heap.size w (.slice a xs.length c) xs) (hcap : xs.length ≤ c) (h0 : 0 < xs.length) (hk : ∀ x ∈ xs, OkM x.2) :
 RetE Tryz.prog 182 [.slice a xs.length c, .func (.func 183) #[] #[]].toArray w (fun r => ∃ x, FirstM xs xs.length x ∧ r = .agg (encMd x).toArray) := by
 refine RetE.of mixed tyTab Tryz.func182 rfl rfl ?_
 replace hR : RdF encMd 5 (fnCx mixed tyTab Tryz.f182.ntmps w).B (fnCx mixed tyTab Tryz.f182.ntmps w).w0 (.slice a xs.length c) xs := hR
 have hle := hR.sl.le
 have hT := hR.sub (lo := 1) (hi := xs.length) (mx := c) (by omega) hcap (Nat.le_refl _)
 generalize hsv : (Value.slice (if c = 1 then a else ofs a (1 * 5)) (xs.length - 1) (c - 1)) = sv at hT
 have hTl : ((xs.drop 1).take (xs.length - 1)).length = xs.length - 1 := by rw [List.length_take, List.length_drop]; omega
 have hTs : IsSl sv (xs.length - 1) := hTl ▸ hT.sl
 refine W.sreg (WO.alloc rfl rfl rfl (fun b1 hb1 => (WO.nil (W.sreg (WO.p rfl rfl (WO.indexAddr (i := 0) rfl rfl rfl hR.sl (by omega) rfl (WO.loadA rfl rfl (RdF.cellsM hR (i := 0) h0) rfl rfl (WO.alloc rfl rfl rfl (fun b2 hb2 => (WO.storeA rfl rfl rfl rfl Pick.head rfl rfl (WO.nil (W.seq (W.sreg (WO.p rfl rfl (WO.slSl (lo := 1) (hi := xs.length) (mx := c) rfl rfl (bnd.at (n := 1) rfl) bnd.no bnd.no (fun h => (by cases h)) (by omega) hcap (Nat.le_refl _) rfl ?_)))))))))))))))
 rw [hsv]
 refine WO.len rfl rfl hTs rfl (WO.p rfl rfl (WO.nil (W.block ?_)))
 refine W.loop2 (fun (i : Nat) (x : Md) => i ≤ xs.length - 1 ∧ FirstM xs (i + 1) x)
  (fun (i : Nat) (x : Md) => [(14, .int .i64 (i : Int)), (13, .int .i64 ((xs.length - 1 : Nat) : Int)), (12, sv), (5, .pointer (some ⟨b2, 0, none⟩)), (4, .pointer (some ⟨b1, 0, none⟩)), (1, .func (.func 183) #[] #[])])
  (fun (i : Nat) (x : Md) => [pt b2 (.cells #[.map (some x.1), .int .i64 x.2.1.a, .int .i64 x.2.1.b, .int .i64 x.2.1.c, .int .i64 x.2.2] 98 (0, 0)), pt b1 (.cells #[.map none, .int .i64 0, .int .i64 0, .int .i64 0, .int .i64 0] 98 (0, 0))])
  (fun (i : Nat) (x : Md) => xs.length - 1 - i) 0 (Mds.at xs 0)
  (by exact ⟨by omega, getD_mem h0 _, fun j hj _ => by obtain rfl : j = 0 := (by omega); unfold gtM; omega⟩) ⟨rfl, rfl, rfl, rfl, rfl, rfl, trivial⟩ (by repeat (first | exact Sub.nil | refine Sub.cons (by repeat exact .head) ?_)) ?_
 rintro i x ⟨hi0, hF⟩
 refine W.sreg (WO.p rfl rfl (WO.nil (W.seq ?_)))
 refine W.cond_bl rfl (fun c1 => ?_) (fun c1 => ?_)
 ·refine W.skip (W.seq (W.block ?_))
  have ht := (tail_at (xs := xs) (i := i) rfl).resolve_right (by omega)
  refine W.sreg (WO.indexAddr rfl rfl rfl hTs (by omega) rfl (WO.loadA rfl rfl (RdF.cellsM hT (i := i) (by omega)) rfl rfl (WO.alloc rfl rfl rfl (fun b3 hb3 => (WO.storeA rfl rfl rfl rfl Pick.head rfl rfl (WO.nil (W.sreg (WO.p rfl rfl (WO.loadA rfl rfl (Cells.own Pick.head) rfl rfl (WO.loadA rfl rfl (Cells.own (Pick.tail (Pick.head))) rfl rfl (WO.callCR (first := []) (captured := []) rfl rfl Tryz.call183 (fun L w hi' => by rw [ht]; exact c_before w (Mds.at xs (i + 1)) x (hk _ (getD_mem (by omega) _)) (hk _ hF.mem)) rfl (WO.nil ?_))))))))))))
  refine W.cond_bl rfl (fun c2 => ?_) (fun c2 => ?_)
  ·refine W.region (WO.loadA rfl rfl (Cells.own Pick.head) rfl rfl (WO.storeA rfl rfl rfl rfl (Pick.tail (Pick.head)) rfl rfl (WO.nil (W.region (WO.ar rfl rfl rfl (by unfold in64; omega) rfl (WO.p rfl rfl (WO.nil ?_)))))))
   refine' ⟨i + 1, _, ?hp, ?hmu, ⟨rfl, rfl, rfl, rfl, rfl, rfl, trivial⟩, ?hS⟩
   case hS => repeat (first | exact Sub.nil | refine Sub.cons (by repeat first | exact .head | apply Pick.tail) ?_)
   case hp => exact ⟨by omega, by rw [ht]; exact first_yes hF hk (by omega) (by assumption)⟩
   case hmu => omega
  ·refine W.skip (W.region (WO.ar rfl rfl rfl (by unfold in64; omega) rfl (WO.p rfl rfl (WO.nil ?_))))
   refine' ⟨i + 1, _, ?hp, ?hmu, ⟨rfl, rfl, rfl, rfl, rfl, rfl, trivial⟩, ?hS⟩
   case hS => repeat (first | exact Sub.nil | refine Sub.cons (by repeat first | exact .head | apply Pick.tail) ?_)
   case hp => exact ⟨by omega, first_no hF (by assumption)⟩
   case hmu => omega
 ·refine W.exit (blk_same (W.sreg (WO.loadA rfl rfl (Cells.own Pick.head) rfl rfl (WO.storeA rfl rfl rfl rfl (Pick.tail (Pick.head)) rfl rfl (WO.nil (W.ret ?_))))))
  obtain rfl : i = xs.length - 1 := by omega
  refine fin.ret (Res.one rfl (RV.cell rfl rfl rfl (Cells.own (by repeat exact .head)))) ⟨x, ?_, rfl⟩
  rw [show xs.length - 1 + 1 = xs.length by omega] at hF; exact hF
end Go.Proofs.YtncjabmlkgacdaaGreat.Sp
namespace Go.Proofs.YtncjabmlkgacdaaGreat.Sp
open Go Go.TH
attribute [local irreducible] W WO pt
set_option maxRecDepth 10000
set_option maxHeartbeats 1000000
def mst1 (a : Sd) (p q : Int) : Option (List Int × Int) := if fit2 a ⟨p, q, 0⟩ (siz ⟨p, q, 0⟩) (-(siz a)) then some ([siz ⟨p, q, 0⟩], siz a) else none
def mst2 (a b : Sd) (p q : Int) : Option (List Int × Int) :=
 if crs a b < 0 then (if 0 < -(crs a b) ∧ 0 ≤ -(crs ⟨p, q, 0⟩ b) ∧ 0 ≤ -(crs a ⟨p, q, 0⟩) then some ([-(crs ⟨p, q, 0⟩ b), -(crs a ⟨p, q, 0⟩)], -(crs a b)) else none)
 else (if 0 < crs a b ∧ 0 ≤ crs ⟨p, q, 0⟩ b ∧ 0 ≤ crs a ⟨p, q, 0⟩ then some ([crs ⟨p, q, 0⟩ b, crs a ⟨p, q, 0⟩], crs a b) else none)
def mstG (S : List Sd) (p q : Int) (g : List Int) : Option (List Int × Int) := if g.length = 1 then mst1 (atS S g 0) p q else mst2 (atS S g 0) (atS S g 1) p q
def mstL (S : List Sd) (p q : Int) (g : List Int) : List (Sd × Int) := match mstG S p q g with
 | some x => [(tkS S g x.1 g.length, x.2)]
 | none => []
abbrev g2S (S : List Sd) : List (List Int) := grp 2 S.length
def msts (S : List Sd) (p q : Int) (k : Nat) : List (Sd × Int) := ((g2S S).take k).flatMap (mstL S p q)
abbrev mstA (S : List Sd) (p q : Int) : List (Sd × Int) := (g2S S).flatMap (mstL S p q)
theorem msts_succ {S : List Sd} {p q : Int} {k : Nat} {g : List Int} (h : (g2S S)[k]? = some g) : msts S p q (k + 1) = msts S p q k ++ mstL S p q g := by
 unfold msts; rw [List.take_add_one, h, List.flatMap_append]; simp
theorem msts_end (S : List Sd) (p q : Int) : msts S p q (g2S S).length = mstA S p q := by unfold msts; rw [List.take_length]
theorem mstL_len (S : List Sd) (p q : Int) (g : List Int) : (mstL S p q g).length ≤ 1 := by unfold mstL; split <;> simp
theorem msts_len (S : List Sd) (p q : Int) : ∀ k, (msts S p q k).length ≤ k
 | 0 => by simp [msts]
 | k + 1 => by
  have ih := msts_len S p q k
  cases h : (g2S S)[k]? with
  | none =>
   have hl := List.getElem?_eq_none_iff.1 h
   have e : msts S p q (k + 1) = msts S p q k := by unfold msts; rw [List.take_of_length_le hl, List.take_of_length_le (by omega)]
   rw [e]; omega
  | some g =>
   rw [msts_succ h, List.length_append]
   have := mstL_len S p q g
   omega
theorem seg_le {β : Type} {lo : Nat} {g : Nat → List β} {B : Nat} (h : ∀ i, (g i).length ≤ B) : ∀ {hi : Nat}, (seg lo hi g).length ≤ hi * B
 | 0 => by unfold seg; simp
 | hi + 1 => by
  rcases Nat.lt_or_ge hi lo with c | c
  ·unfold seg; rw [show hi + 1 - lo = 0 by omega]; simp
  ·rw [seg_succ c, List.length_append, Nat.succ_mul]
   have := seg_le (lo := lo) h (hi := hi)
   have := h hi
   omega
theorem g2_len {S : List Sd} (h : S.length ≤ 24) : (g2S S).length ≤ 1000 := by
 have h2 : ∀ a, (F1 2 S.length a).length ≤ 25 := fun a => by
  unfold F1
  rw [List.length_cons]
  have := seg_le (lo := a + 1) (g := F2 2 S.length a) (B := 1) (fun b => by unfold F2; simp) (hi := S.length)
  omega
 have := seg_le (lo := 0) h2 (hi := S.length)
 have e : (g2S S).length = (seg 0 S.length (F1 2 S.length)).length := rfl
 rw [e]
 have : S.length * 25 ≤ 600 := by omega
 omega
theorem want_ok {p q : Int} (hp : OkN p) (hq : OkN q) : OkS 20 1000000 ⟨p, q, 0⟩ := ⟨hp, hq, by dsimp only; omega, by dsimp only; omega⟩
theorem mst_ok {S : List Sd} (hS : ∀ s ∈ S, OkS 20 100000 s) {p q : Int} (hp : OkN p) (hq : OkN q) {g : List Int} (hg : Grp S.length g) (h2 : g.length ≤ 2) {x : List Int × Int} (h : mstG S p q g = some x) : x.1.length = g.length ∧ (∀ y ∈ x.1, -1000 ≤ y ∧ y ≤ 1000) ∧ (-1000 ≤ x.2 ∧ x.2 ≤ 1000) := by
 have hgn := hg.len
 have hat : ∀ i, i < g.length → OkS 20 1000000 (atS S g i) := fun i hi => (hS _ (getD_mem (show (g.getD i 0).toNat < S.length by have := hg.rng _ (getD_mem hi 0); omega) sd0)).up (by omega) (by omega)
 have hw := want_ok hp hq
 have zw := siz_bd hw
 have s0 := hat 0 (by omega)
 have z0 := siz_bd s0
 unfold mstG at h
 split at h
 ·rename_i h1
  unfold mst1 at h
  split at h
  ·cases h
   exact ⟨h1.symm, fun y hy => by simp at hy; subst hy; omega, by dsimp only; omega⟩
  ·cases h
 ·rename_i h1
  have s1 := hat 1 (by omega)
  have c1 := (crs_bd s0 s1).2.2
  have c2 := (crs_bd hw s1).2.2
  have c3 := (crs_bd s0 hw).2.2
  unfold mst2 at h
  split at h
  ·split at h
   ·cases h
    exact ⟨by show 2 = _; omega, y2_bd (by omega) (by omega), by dsimp only; omega⟩
   ·cases h
  ·split at h
   ·cases h
    exact ⟨by show 2 = _; omega, y2_bd (by omega) (by omega), by dsimp only; omega⟩
   ·cases h
theorem siz_pos {s : Sd} (h : s.a ≠ 0 ∨ s.b ≠ 0) : 0 < siz s := by unfold siz ab; omega
theorem mst_pos {S : List Sd} (hn : ∀ s ∈ S, s.a ≠ 0 ∨ s.b ≠ 0) {p q : Int} {g : List Int} (hg : Grp S.length g) {x : List Int × Int} (h : mstG S p q g = some x) : 0 < x.2 := by
 have hgn := hg.len
 unfold mstG at h
 split at h
 ·unfold mst1 at h
  split at h
  ·cases h
   exact siz_pos (hn _ (getD_mem (show (g.getD 0 0).toNat < S.length by have := hg.rng _ (getD_mem (show 0 < g.length by omega) 0); omega) sd0))
  ·cases h
 ·unfold mst2 at h
  split at h
  ·split at h
   ·rename_i c; cases h; exact c.1
   ·cases h
  ·split at h
   ·rename_i c; cases h; exact c.1
   ·cases h
theorem mstL_ok {S : List Sd} (hS : ∀ s ∈ S, OkS 20 100000 s) (hn : ∀ s ∈ S, s.a ≠ 0 ∨ s.b ≠ 0) {p q : Int} (hp : OkN p) (hq : OkN q) {g : List Int} (hg : Grp S.length g) (h2 : g.length ≤ 2) : ∀ y ∈ mstL S p q g, OkM y := fun y hy => by
 unfold mstL at hy
 cases h : mstG S p q g with
 | none => rw [h] at hy; simp at hy
 | some x =>
  rw [h] at hy
  obtain rfl : y = (tkS S g x.1 g.length, x.2) := by simpa using hy
  obtain ⟨a1, a2, a3⟩ := mst_ok hS hp hq hg h2 h
  have a4 := mst_pos hn hg h
  have a5 := (tkS_bd hS hg.rng a2 a1 (i := g.length) (Nat.le_refl _)).c
  exact ⟨by dsimp only; omega, by dsimp only; omega⟩
theorem mstA_ok {S : List Sd} (hS : ∀ s ∈ S, OkS 20 100000 s) (hn : ∀ s ∈ S, s.a ≠ 0 ∨ s.b ≠ 0) {p q : Int} (hp : OkN p) (hq : OkN q) : ∀ y ∈ mstA S p q, OkM y := fun y hy => by
 obtain ⟨g, hg, h⟩ := List.mem_flatMap.1 hy
 have := grp_ok (m := 2) (by omega) hg
 exact mstL_ok hS hn hp hq this.1 this.2 y h
theorem sds_nz {l : List Rn} (h : OkRs l) : ∀ s ∈ sds l, s.a ≠ 0 ∨ s.b ≠ 0 := fun s hs => by
 obtain ⟨r, hr, hm⟩ := List.mem_flatMap.1 hs
 have h3 := (h r hr).2.2.1
 have : s = loS r ∨ s = hiS r := by simpa using hm
 rcases this with rfl | rfl
 ·exact h3
 ·show -r.p ≠ 0 ∨ -r.q ≠ 0; omega
def AllP (b : Nat) (cs : List (Sd × Int)) : HP := fun h => ∃ (v : Value) (xs : List Md), xs.map (·.2) = cs ∧ sat [pt b (.cells #[v] 297 (0, 0)), OwE encMd 98 5 v xs] h
def AllV (b : Nat) (v : Value) (cs : List (Sd × Int)) : HP := fun h => ∃ (xs : List Md), xs.map (·.2) = cs ∧ sat [pt b (.cells #[v] 297 (0, 0)), OwE encMd 98 5 v xs] h
theorem all_open1 {b : Nat} {cs : List (Sd × Int)} {H H' : List HP} (p : Pick (AllP b cs) H H') : ∀ h, sat H h → ∃ v : Value, True ∧ sat (AllV b v cs :: H') h := fun h hs => by
 obtain ⟨h1, h2, s, ⟨gv, xs, e, hp⟩, hr⟩ := p.sat hs
 exact ⟨gv, trivial, h1, h2, s, ⟨xs, e, hp⟩, hr⟩
theorem all_open2 {b : Nat} {v : Value} {cs : List (Sd × Int)} {H : List HP} : ∀ h, sat (AllV b v cs :: H) h → ∃ xs : List Md, xs.map (·.2) = cs ∧ sat (pt b (.cells #[v] 297 (0, 0)) :: OwE encMd 98 5 v xs :: H) h := fun h hs => by
 obtain ⟨h1, h2, s, ⟨xs, e, hp⟩, hr⟩ := hs
 exact ⟨xs, e, sat_join (H1 := [_, _]) s hp hr⟩
theorem all_pack {b : Nat} {gv : Value} {xs : List Md} {cs : List (Sd × Int)} {H Hr : List HP} (s : Sub H (pt b (.cells #[gv] 297 (0, 0)) :: OwE encMd 98 5 gv xs :: Hr)) (e : xs.map (·.2) = cs) : ∀ h, sat H h → sat (AllP b cs :: Hr) h := fun h hs => by
 obtain ⟨h1, h2, s2, hp, hr⟩ := sat_app (H1 := [_, _]) (s.sat hs)
 exact ⟨h1, h2, s2, ⟨gv, xs, e, hp⟩, hr⟩
theorem all_nil {b : Nat} {H H' : List HP} (p : Pick (pt b (.cells #[.slice none 0 0] 297 (0, 0))) H H') : ∀ h, sat H h → sat (AllP b [] :: H') h := fun h hs =>
 all_pack (xs := []) (.cons (.tail .head) (.cons .head (Sub.refl _))) rfl h (owNil (enc := encMd) (e := 98) (sz := 5) h (p.sat hs))
theorem OwE.formCap {α : Type} {P : Program} {C : Cx P} {H H' : List HP} {enc : α → List Value} {e sz : Nat} {v : Value} {xs : List α} (p : Pick (OwE enc e sz v xs) H H') : ∀ (L : List HP) w, Inv C.w0 C.M (L ++ H) w → ∃ a c, v = .slice a xs.length c ∧ xs.length ≤ c := fun L w hi => by
 obtain ⟨_, hcase⟩ := OwC.open (hi.pickL p)
 rcases hcase with ⟨h1, h2, _⟩ | ⟨g, cap, cur, rfl, q1, _⟩
 ·exact ⟨none, 0, by rw [h1, h2], by omega⟩
 ·exact ⟨_, _, rfl, q1⟩
def Bnd (S : List Sd) (p q : Int) : Prop := (p = 0 ∧ q = 0) ∨ mstA S p q ≠ []
instance (S : List Sd) (p q : Int) : Decidable (Bnd S p q) := by unfold Bnd; infer_instance
structure MostI (S : List Sd) (p q : Int) (x : Sd × Int) : Prop where
 mem : (p = 0 ∧ q = 0 ∧ x = (sd0, 1)) ∨ (¬ (p = 0 ∧ q = 0) ∧ x ∈ mstA S p q)
 max : ∀ y ∈ mstA S p q, ¬ (p = 0 ∧ q = 0) → ¬ gtM y x
theorem MostI.ok {l : List Rn} (h : OkRs l) {p q : Int} (hp : OkN p) (hq : OkN q) {x : Sd × Int} (hm : MostI (sds l) p q x) : OkM x := by
 rcases hm.mem with ⟨_, _, rfl⟩ | ⟨_, g⟩
 ·exact ⟨by simp [sd0], by simp⟩
 ·exact mstA_ok (sds_ok h) (sds_nz h) hp hq x g
theorem firstM_most {S : List Sd} {p q : Int} (h0 : ¬ (p = 0 ∧ q = 0)) {xs : List Md} {x : Md} (e : xs.map (·.2) = mstA S p q) (h : FirstM xs xs.length x) : MostI S p q x.2 := by
 refine ⟨.inr ⟨h0, e ▸ List.mem_map_of_mem h.mem⟩, fun y hy _ => ?_⟩
 rw [← e] at hy
 obtain ⟨z, hz, rfl⟩ := List.mem_map.1 hy
 obtain ⟨j, hj, rfl⟩ := List.getElem_of_mem hz
 have := h.max j hj hj
 have e2 : Mds.at xs j = xs[j] := by simp [Mds.at, hj]
 rwa [e2] at this
end Go.Proofs.YtncjabmlkgacdaaGreat.Sp
namespace Go.Proofs.YtncjabmlkgacdaaGreat.Sp
open Go Go.TH
def fitS (s : Sd) (t : Tru) : Prop := s.c * t.d ≤ s.a * t.a + s.b * t.b
theorem fitL_iff {l : List Rn} {t : Tru} : fitL l t ↔ ∀ s ∈ sds l, fitS s t := by
 constructor
 ·intro h s hs
  obtain ⟨r, hr, hm⟩ := List.mem_flatMap.1 hs
  have h1 := h r hr
  unfold fitR at h1
  have : s = loS r ∨ s = hiS r := by simpa using hm
  rcases this with rfl | rfl
  ·exact h1.1
  ·show -r.hi * t.d ≤ -r.p * t.a + -r.q * t.b
   rw [Int.neg_mul, Int.neg_mul, Int.neg_mul]; omega
 ·intro h r hr
  have h1 : fitS (loS r) t := h _ (List.mem_flatMap.2 ⟨r, hr, by simp⟩)
  have h2 : fitS (hiS r) t := h _ (List.mem_flatMap.2 ⟨r, hr, by simp⟩)
  have h3 : -r.hi * t.d ≤ -r.p * t.a + -r.q * t.b := h2
  rw [Int.neg_mul, Int.neg_mul, Int.neg_mul] at h3
  exact ⟨h1, by omega⟩
theorem fitS.by_ {s : Sd} {t : Tru} {y : Int} (h : fitS s t) (hy : 0 ≤ y) : fitS (byS s y) t := by
 unfold fitS at h
 have h1 := Int.mul_le_mul_of_nonneg_right h hy
 show s.c * y * t.d ≤ s.a * y * t.a + s.b * y * t.b
 have e1 : s.c * y * t.d = s.c * t.d * y := by grind
 have e2 : s.a * y * t.a + s.b * y * t.b = (s.a * t.a + s.b * t.b) * y := by grind
 omega
theorem fitS.add {s o : Sd} {t : Tru} (h : fitS s t) (g : fitS o t) : fitS (addS s o) t := by
 unfold fitS at h g
 show (s.c + o.c) * t.d ≤ (s.a + o.a) * t.a + (s.b + o.b) * t.b
 rw [Int.add_mul, Int.add_mul, Int.add_mul]; omega
theorem tkS_fit {S : List Sd} {t : Tru} (h : ∀ s ∈ S, fitS s t) {g ys : List Int} (hg : ∀ x ∈ g, 0 ≤ x ∧ x < S.length) (hy : ∀ y ∈ ys, 0 ≤ y) (hl : ys.length = g.length) : ∀ {i : Nat}, i ≤ g.length → fitS (tkS S g ys i) t
 | 0, _ => by unfold fitS; simp [tkS, sd0]
 | i + 1, hi => by
  have hx := hg _ (getD_mem (show i < g.length by omega) 0)
  exact (tkS_fit h hg hy hl (i := i) (by omega)).add ((h _ (getD_mem (show (g.getD i 0).toNat < S.length by omega) sd0)).by_ (hy _ (getD_mem (by omega) 0)))
theorem ab_nn' (n : Int) : 0 ≤ ab n := by unfold ab; omega
theorem siz_nn (s : Sd) : 0 ≤ siz s := by unfold siz; have := ab_nn' s.a; have := ab_nn' s.b; omega
theorem zrY_nn {S : List Sd} {g ys : List Int} (h : zrY S g = some ys) : ∀ y ∈ ys, 0 ≤ y := by
 unfold zrY at h
 split at h
 ·unfold zr2 at h
  split at h
  ·cases h
   intro y hy
   have := siz_nn (atS S g 0); have := siz_nn (atS S g 1)
   simp only [List.mem_cons, List.not_mem_nil, or_false] at hy
   rcases hy with rfl | rfl <;> omega
  ·cases h
 ·split at h
  ·unfold zr3 at h
   dsimp only at h
   split at h
   ·split at h
    ·cases h; intro y hy; simp only [List.mem_cons, List.not_mem_nil, or_false] at hy; rcases hy with rfl | rfl | rfl <;> omega
    ·cases h
   ·split at h
    ·cases h; intro y hy; simp only [List.mem_cons, List.not_mem_nil, or_false] at hy; rcases hy with rfl | rfl | rfl <;> omega
    ·cases h
  ·cases h
theorem Dbt.no {S : List Sd} (h : Dbt S) {t : Tru} (ht : 0 < t.d) : ¬ ∀ s ∈ S, fitS s t := fun hf => by
 obtain ⟨hg, hs⟩ := h.hit
 obtain ⟨ys, e, ez⟩ := dbt_def hs
 have hgr := (grp_ok (m := 3) (by omega) hg).1
 have hfit := tkS_fit hf hgr.rng (zrY_nn ez) (zrY_len ez) (i := (hitG S).length) (Nat.le_refl _)
 obtain ⟨_, ⟨h1, h2⟩, h3⟩ := dbt_some.1 hs
 rw [ez] at h1 h2 h3
 have h1' : (tkS S (hitG S) ys (hitG S).length).a = 0 := h1
 have h2' : (tkS S (hitG S) ys (hitG S).length).b = 0 := h2
 have h3' : 0 < (tkS S (hitG S) ys (hitG S).length).c := h3
 unfold fitS at hfit
 rw [h1', h2', Int.zero_mul, Int.zero_mul] at hfit
 have := Int.mul_pos h3' ht
 omega
theorem grp_two {m n i j : Nat} (h1 : i < j) (h2 : j < n) : [(i : Int), (j : Int)] ∈ grp m n :=
 mem_seg.2 ⟨i, by omega, by omega, by unfold F1; exact List.mem_cons_of_mem _ (mem_seg.2 ⟨j, by omega, h2, by unfold F2; exact List.mem_cons_self⟩)⟩
theorem grp_one {m n i : Nat} (h1 : i < n) : [(i : Int)] ∈ grp m n :=
 mem_seg.2 ⟨i, by omega, h1, by unfold F1; exact List.mem_cons_self⟩
theorem grp_three {n i j k : Nat} (h1 : i < j) (h2 : j < k) (h3 : k < n) : [(i : Int), (j : Int), (k : Int)] ∈ grp 3 n :=
 mem_seg.2 ⟨i, by omega, by omega, by
  unfold F1
  exact List.mem_cons_of_mem _ (mem_seg.2 ⟨j, by omega, by omega, by
   unfold F2
   refine List.mem_cons_of_mem _ ?_
   rw [if_pos rfl]
   exact mem_seg.2 ⟨k, by omega, h3, by simp⟩⟩)⟩
theorem ex_at {S : List Sd} {s : Sd} (h : s ∈ S) : ∃ i : Nat, i < S.length ∧ S.getD i sd0 = s := by
 obtain ⟨i, hi, e⟩ := List.getElem_of_mem h
 exact ⟨i, hi, by simp [hi, e]⟩
abbrev wS (p q : Int) : Sd := ⟨p, q, 0⟩
section
variable {S : List Sd} {p q : Int}
theorem cand_pair {a b : Sd} (ha : a ∈ S) (hb : b ∈ S) (hd : 0 < crs a b) (hx : 0 ≤ crs (wS p q) b) (hy : 0 ≤ crs a (wS p q)) : ∃ y ∈ mstA S p q, y.1.c = crs (wS p q) b * a.c + crs a (wS p q) * b.c ∧ y.2 = crs a b := by
 obtain ⟨i, hi, rfl⟩ := ex_at ha
 obtain ⟨j, hj, rfl⟩ := ex_at hb
 have hij : i ≠ j := fun e => by subst e; unfold crs at hd; have := Int.mul_comm (S.getD i sd0).a (S.getD i sd0).b; omega
 rcases Nat.lt_or_gt_of_ne hij with h | h
 ·refine ⟨(tkS S [(i : Int), (j : Int)] [crs (wS p q) (S.getD j sd0), crs (S.getD i sd0) (wS p q)] 2, crs (S.getD i sd0) (S.getD j sd0)), List.mem_flatMap.2 ⟨_, grp_two h hj, ?_⟩, ?_⟩
  ·have e : mstG S p q [(i : Int), (j : Int)] = some ([crs (wS p q) (S.getD j sd0), crs (S.getD i sd0) (wS p q)], crs (S.getD i sd0) (S.getD j sd0)) := by
    unfold mstG
    rw [if_neg (by simp)]
    show mst2 (S.getD i sd0) (S.getD j sd0) p q = _
    unfold mst2
    rw [if_neg (by omega), if_pos ⟨hd, hx, hy⟩]
   unfold mstL; rw [e]; simp
  ·refine ⟨?_, rfl⟩
   show 0 + (S.getD i sd0).c * _ + (S.getD j sd0).c * _ = _
   rw [Int.zero_add, Int.mul_comm, Int.mul_comm (S.getD j sd0).c]; rfl
 ·have n1 : crs (S.getD j sd0) (S.getD i sd0) = -crs (S.getD i sd0) (S.getD j sd0) := by unfold crs; grind
  have n2 : crs (wS p q) (S.getD i sd0) = -crs (S.getD i sd0) (wS p q) := by unfold crs; grind
  have n3 : crs (S.getD j sd0) (wS p q) = -crs (wS p q) (S.getD j sd0) := by unfold crs; grind
  refine ⟨(tkS S [(j : Int), (i : Int)] [crs (S.getD i sd0) (wS p q), crs (wS p q) (S.getD j sd0)] 2, crs (S.getD i sd0) (S.getD j sd0)), List.mem_flatMap.2 ⟨_, grp_two h hi, ?_⟩, ?_⟩
  ·have e : mstG S p q [(j : Int), (i : Int)] = some ([crs (S.getD i sd0) (wS p q), crs (wS p q) (S.getD j sd0)], crs (S.getD i sd0) (S.getD j sd0)) := by
    unfold mstG
    rw [if_neg (by simp)]
    show mst2 (S.getD j sd0) (S.getD i sd0) p q = _
    unfold mst2
    have n2' : crs ⟨p, q, 0⟩ (S.getD i sd0) = -crs (S.getD i sd0) (wS p q) := n2
    have n3' : crs (S.getD j sd0) ⟨p, q, 0⟩ = -crs (wS p q) (S.getD j sd0) := n3
    rw [n1, n2', n3', if_pos (by omega), if_pos (by omega), Int.neg_neg, Int.neg_neg, Int.neg_neg]
   unfold mstL; rw [e]; simp
  ·refine ⟨?_, rfl⟩
   show 0 + (S.getD j sd0).c * _ + (S.getD i sd0).c * _ = _
   rw [Int.zero_add, Int.add_comm, Int.mul_comm, Int.mul_comm (S.getD j sd0).c]; rfl
theorem cand_one {s : Sd} (hs : s ∈ S) (h : fit2 s (wS p q) (siz (wS p q)) (-(siz s))) : ∃ y ∈ mstA S p q, y.1.c = s.c * siz (wS p q) ∧ y.2 = siz s := by
 obtain ⟨i, hi, rfl⟩ := ex_at hs
 refine ⟨(tkS S [(i : Int)] [siz (wS p q)] 1, siz (S.getD i sd0)), List.mem_flatMap.2 ⟨_, grp_one hi, ?_⟩, ?_⟩
 ·have e : mstG S p q [(i : Int)] = some ([siz (wS p q)], siz (S.getD i sd0)) := by
   unfold mstG
   rw [if_pos (by simp)]
   show mst1 (S.getD i sd0) p q = _
   unfold mst1
   rw [if_pos h]
  unfold mstL; rw [e]; simp
 ·refine ⟨?_, rfl⟩
  show 0 + (S.getD i sd0).c * siz (wS p q) = _
  rw [Int.zero_add]
theorem mst_inv {y : Sd × Int} (h : y ∈ mstA S p q) : (∃ s ∈ S, fit2 s (wS p q) (siz (wS p q)) (-(siz s)) ∧ y.1.c = s.c * siz (wS p q) ∧ y.2 = siz s ∧ y.1.a = p * y.2 ∧ y.1.b = q * y.2) ∨
 (∃ a ∈ S, ∃ b ∈ S, 0 < crs a b ∧ 0 ≤ crs (wS p q) b ∧ 0 ≤ crs a (wS p q) ∧ y.1.c = crs (wS p q) b * a.c + crs a (wS p q) * b.c ∧ y.2 = crs a b ∧ y.1.a = p * y.2 ∧ y.1.b = q * y.2) := by
 obtain ⟨g, hg, hy⟩ := List.mem_flatMap.1 h
 obtain ⟨hgr, h2⟩ := grp_ok (m := 2) (by omega) hg
 have hgn := hgr.len
 have hat : ∀ i, i < g.length → atS S g i ∈ S := fun i hi => getD_mem (show (g.getD i 0).toNat < S.length by have := hgr.rng _ (getD_mem hi 0); omega) sd0
 unfold mstL at hy
 cases hm : mstG S p q g with
 | none => rw [hm] at hy; simp at hy
 | some x =>
  rw [hm] at hy
  obtain rfl : y = (tkS S g x.1 g.length, x.2) := by simpa using hy
  unfold mstG at hm
  split at hm
  ·rename_i h1
   unfold mst1 at hm
   split at hm
   ·rename_i hf
    cases hm
    refine .inl ⟨_, hat 0 (by omega), hf, ?_, rfl, ?_, ?_⟩
    ·rw [h1]; show 0 + (atS S g 0).c * _ = _; rw [Int.zero_add]; rfl
    ·rw [h1]; show 0 + (atS S g 0).a * siz (wS p q) = p * siz (atS S g 0)
     have k : (atS S g 0).a * siz (wS p q) + p * -(siz (atS S g 0)) = 0 := hf.2.1
     rw [Int.mul_neg] at k; omega
    ·rw [h1]; show 0 + (atS S g 0).b * siz (wS p q) = q * siz (atS S g 0)
     have k : (atS S g 0).b * siz (wS p q) + q * -(siz (atS S g 0)) = 0 := hf.2.2
     rw [Int.mul_neg] at k; omega
   ·cases hm
  ·rename_i h1
   have h2 : g.length = 2 := by omega
   have a0 := hat 0 (by omega)
   have a1 := hat 1 (by omega)
   have hc : ∀ x y : Int, tkS S g [x, y] g.length = addS (addS sd0 (byS (atS S g 0) x)) (byS (atS S g 1) y) := fun x y => by rw [h2]; rfl
   unfold mst2 at hm
   split at hm
   ·split at hm
    ·rename_i c1 c2
     cases hm
     have n1 : crs (atS S g 1) (atS S g 0) = -crs (atS S g 0) (atS S g 1) := by unfold crs; grind
     have n2 : crs (wS p q) (atS S g 0) = -crs (atS S g 0) (wS p q) := by unfold crs; grind
     have n3 : crs (atS S g 1) (wS p q) = -crs (wS p q) (atS S g 1) := by unfold crs; grind
     refine .inr ⟨_, a1, _, a0, by omega, by rw [n2]; exact c2.2.2, by rw [n3]; exact c2.2.1, ?_, n1.symm, ?_, ?_⟩
     ·rw [n2, n3, hc]
      show 0 + (atS S g 0).c * -(crs (wS p q) (atS S g 1)) + (atS S g 1).c * -(crs (atS S g 0) (wS p q)) = _
      grind
     ·rw [hc]
      show 0 + (atS S g 0).a * -(crs (wS p q) (atS S g 1)) + (atS S g 1).a * -(crs (atS S g 0) (wS p q)) = p * -(crs (atS S g 0) (atS S g 1))
      unfold crs; grind
     ·rw [hc]
      show 0 + (atS S g 0).b * -(crs (wS p q) (atS S g 1)) + (atS S g 1).b * -(crs (atS S g 0) (wS p q)) = q * -(crs (atS S g 0) (atS S g 1))
      unfold crs; grind
    ·cases hm
   ·split at hm
    ·rename_i c1 c2
     cases hm
     refine .inr ⟨_, a0, _, a1, c2.1, c2.2.1, c2.2.2, ?_, rfl, ?_, ?_⟩
     ·rw [hc]
      show 0 + (atS S g 0).c * (crs (wS p q) (atS S g 1)) + (atS S g 1).c * (crs (atS S g 0) (wS p q)) = _
      grind
     ·rw [hc]
      show 0 + (atS S g 0).a * (crs (wS p q) (atS S g 1)) + (atS S g 1).a * (crs (atS S g 0) (wS p q)) = p * (crs (atS S g 0) (atS S g 1))
      unfold crs; grind
     ·rw [hc]
      show 0 + (atS S g 0).b * (crs (wS p q) (atS S g 1)) + (atS S g 1).b * (crs (atS S g 0) (wS p q)) = q * (crs (atS S g 0) (atS S g 1))
      unfold crs; grind
    ·cases hm
theorem mst_weak {y : Sd × Int} (h : y ∈ mstA S p q) {t : Tru} (hf : ∀ s ∈ S, fitS s t) : y.1.c * t.d ≤ (p * t.a + q * t.b) * y.2 := by
 have key : fitS ⟨p * y.2, q * y.2, y.1.c⟩ t := by
  rcases mst_inv h with ⟨s, hs, _, h1, h2, h3, h4⟩ | ⟨a, ha, b, hb, _, h1, h2, h3, h4, h5, h6⟩
  ·have := (hf s hs).by_ (siz_nn (wS p q))
   unfold byS at this
   have e : s.a * siz (wS p q) = p * siz s ∧ s.b * siz (wS p q) = q * siz s := by
    rename_i k
    have k1 : s.a * siz (wS p q) + p * -(siz s) = 0 := k.2.1
    have k2 : s.b * siz (wS p q) + q * -(siz s) = 0 := k.2.2
    rw [Int.mul_neg] at k1 k2
    constructor <;> omega
   rw [e.1, e.2, ← h1, ← h2] at this
   exact this
  ·have := ((hf a ha).by_ h1).add ((hf b hb).by_ h2)
   unfold byS addS at this
   dsimp only at this
   have e1 : a.a * crs (wS p q) b + b.a * crs a (wS p q) = p * y.2 := by rw [h4]; unfold crs; grind
   have e2 : a.b * crs (wS p q) b + b.b * crs a (wS p q) = q * y.2 := by rw [h4]; unfold crs; grind
   have e3 : a.c * crs (wS p q) b + b.c * crs a (wS p q) = y.1.c := by rw [h3]; grind
   rw [e1, e2, e3] at this
   exact this
 unfold fitS at key
 dsimp only at key
 have e : (p * t.a + q * t.b) * y.2 = p * y.2 * t.a + q * y.2 * t.b := by grind
 omega
end
section
variable {S : List Sd}
theorem dbt_of {g ys : List Int} (hg : g ∈ grS S) (hz : zrY S g = some ys) (ha : (tkS S g ys g.length).a = 0) (hb : (tkS S g ys g.length).b = 0) (hc : 0 < (tkS S g ys g.length).c) : Dbt S :=
 Dbt.iff.2 ⟨g, hg, by unfold dbt; rw [hz]; dsimp only; rw [if_pos ⟨ha, hb, hc⟩]; rfl⟩
theorem dbt_pair {a b : Sd} (ha : a ∈ S) (hb : b ∈ S) (hn : a.a ≠ 0 ∨ a.b ≠ 0) (hf : fit2 a b (siz b) (siz a)) (hc : 0 < a.c * siz b + b.c * siz a) : Dbt S := by
 obtain ⟨i, hi, rfl⟩ := ex_at ha
 obtain ⟨j, hj, rfl⟩ := ex_at hb
 have hpos := siz_pos hn
 obtain ⟨f1, f2, f3⟩ := hf
 have f2' : (S.getD i sd0).a * siz (S.getD j sd0) + (S.getD j sd0).a * siz (S.getD i sd0) = 0 := f2
 have f3' : (S.getD i sd0).b * siz (S.getD j sd0) + (S.getD j sd0).b * siz (S.getD i sd0) = 0 := f3
 have hij : i ≠ j := fun e => by
  subst e
  rcases hn with h | h
  ·have := Int.mul_ne_zero h (show siz (S.getD i sd0) ≠ 0 by omega); omega
  ·have := Int.mul_ne_zero h (show siz (S.getD i sd0) ≠ 0 by omega); omega
 rcases Nat.lt_or_gt_of_ne hij with h | h
 ·refine dbt_of (grp_two (m := 3) h hj) (ys := [siz (S.getD j sd0), siz (S.getD i sd0)]) ?_ ?_ ?_ ?_
  ·show zr2 (S.getD i sd0) (S.getD j sd0) = _
   unfold zr2; rw [if_pos ⟨f1, f2, f3⟩]
  ·show 0 + _ + _ = _; rw [Int.zero_add]; exact f2'
  ·show 0 + _ + _ = _; rw [Int.zero_add]; exact f3'
  ·show 0 < 0 + _ + _; rw [Int.zero_add]; exact hc
 ·refine dbt_of (grp_two (m := 3) h hi) (ys := [siz (S.getD i sd0), siz (S.getD j sd0)]) ?_ ?_ ?_ ?_
  ·show zr2 (S.getD j sd0) (S.getD i sd0) = _
   unfold zr2
   rw [if_pos ⟨by unfold crs at f1 ⊢; grind, by show (S.getD j sd0).a * siz (S.getD i sd0) + (S.getD i sd0).a * siz (S.getD j sd0) = 0; omega, by show (S.getD j sd0).b * siz (S.getD i sd0) + (S.getD i sd0).b * siz (S.getD j sd0) = 0; omega⟩]
  ·show 0 + (S.getD j sd0).a * siz (S.getD i sd0) + (S.getD i sd0).a * siz (S.getD j sd0) = _; omega
  ·show 0 + (S.getD j sd0).b * siz (S.getD i sd0) + (S.getD i sd0).b * siz (S.getD j sd0) = _; omega
  ·show 0 < 0 + (S.getD j sd0).c * siz (S.getD i sd0) + (S.getD i sd0).c * siz (S.getD j sd0); omega
theorem zr3_pos {a b c : Sd} (h1 : 0 < crs b c) (h2 : 0 < crs c a) (h3 : 0 < crs a b) : zr3 a b c = some [crs b c, crs c a, crs a b] := by
 unfold zr3; dsimp only; rw [if_neg (by omega), if_pos (by omega)]
theorem crs_anti (a b : Sd) : crs b a = -crs a b := by unfold crs; grind
theorem zr3_neg {a b c : Sd} (h1 : 0 < crs b c) (h2 : 0 < crs c a) (h3 : 0 < crs a b) : zr3 b a c = some [crs c a, crs b c, crs a b] := by
 unfold zr3; dsimp only
 rw [crs_anti c a, crs_anti b c, crs_anti a b, if_pos (by omega), if_pos (by omega), Int.neg_neg, Int.neg_neg, Int.neg_neg]
theorem dbt_ord {a b c : Sd} {i j k : Nat} (h1 : i < j) (h2 : j < k) (h3 : k < S.length) (ea : S.getD i sd0 = a) (eb : S.getD j sd0 = b) (ec : S.getD k sd0 = c) {x y z : Int} (hz : zr3 a b c = some [x, y, z]) (ha : x * a.a + y * b.a + z * c.a = 0) (hb : x * a.b + y * b.b + z * c.b = 0) (hc : 0 < x * a.c + y * b.c + z * c.c) : Dbt S := by
 subst ea eb ec
 refine dbt_of (grp_three h1 h2 h3) (ys := [x, y, z]) hz ?_ ?_ ?_
 ·show 0 + (S.getD i sd0).a * x + (S.getD j sd0).a * y + (S.getD k sd0).a * z = 0
  rw [Int.zero_add, Int.mul_comm, Int.mul_comm (S.getD j sd0).a, Int.mul_comm (S.getD k sd0).a]; exact ha
 ·show 0 + (S.getD i sd0).b * x + (S.getD j sd0).b * y + (S.getD k sd0).b * z = 0
  rw [Int.zero_add, Int.mul_comm, Int.mul_comm (S.getD j sd0).b, Int.mul_comm (S.getD k sd0).b]; exact hb
 ·show 0 < 0 + (S.getD i sd0).c * x + (S.getD j sd0).c * y + (S.getD k sd0).c * z
  rw [Int.zero_add, Int.mul_comm, Int.mul_comm (S.getD j sd0).c, Int.mul_comm (S.getD k sd0).c]; exact hc
theorem dbt_three {a b c : Sd} (ha : a ∈ S) (hb : b ∈ S) (hc : c ∈ S) (h1 : 0 < crs b c) (h2 : 0 < crs c a) (h3 : 0 < crs a b) (hs : 0 < crs b c * a.c + crs c a * b.c + crs a b * c.c) : Dbt S := by
 have ea : crs b c * a.a + crs c a * b.a + crs a b * c.a = 0 := by unfold crs; grind
 have eb : crs b c * a.b + crs c a * b.b + crs a b * c.b = 0 := by unfold crs; grind
 obtain ⟨i, hi, ei⟩ := ex_at ha
 obtain ⟨j, hj, ej⟩ := ex_at hb
 obtain ⟨k, hk, ek⟩ := ex_at hc
 have z0 : ∀ s : Sd, crs s s = 0 := fun s => by unfold crs; grind
 have nij : i ≠ j := fun e => by subst e; rw [ei] at ej; subst ej; rw [z0] at h3; omega
 have njk : j ≠ k := fun e => by subst e; rw [ej] at ek; subst ek; rw [z0] at h1; omega
 have nik : i ≠ k := fun e => by subst e; rw [ei] at ek; subst ek; rw [z0] at h2; omega
 rcases Nat.lt_or_gt_of_ne nij with g1 | g1 <;> rcases Nat.lt_or_gt_of_ne njk with g2 | g2 <;> rcases Nat.lt_or_gt_of_ne nik with g3 | g3
 ·exact dbt_ord g1 g2 hk ei ej ek (zr3_pos h1 h2 h3) ea eb hs
 ·omega
 ·exact dbt_ord g3 g2 hj ei ek ej (zr3_neg (a := c) (b := a) (c := b) h3 h1 h2) (by omega) (by omega) (by omega)
 ·exact dbt_ord g3 g1 hj ek ei ej (zr3_pos (a := c) (b := a) (c := b) h3 h1 h2) (by omega) (by omega) (by omega)
 ·exact dbt_ord g1 g3 hk ej ei ek (zr3_neg (a := a) (b := b) (c := c) h1 h2 h3) (by omega) (by omega) (by omega)
 ·exact dbt_ord g2 g3 hi ej ek ei (zr3_pos (a := b) (b := c) (c := a) h2 h3 h1) (by omega) (by omega) (by omega)
 ·omega
 ·exact dbt_ord g2 g1 hi ek ej ei (zr3_neg (a := b) (b := c) (c := a) h2 h3 h1) (by omega) (by omega) (by omega)
end
end Go.Proofs.YtncjabmlkgacdaaGreat.Sp
namespace Go.Proofs.YtncjabmlkgacdaaGreat.Sp
open Go Go.TH
instance (s : Sd) (t : Tru) : Decidable (fitS s t) := by unfold fitS; infer_instance
theorem ab_mul {x d : Int} (hd : 0 ≤ d) : ab (x * d) = ab x * d := by
 unfold ab
 rcases Int.le_total 0 x with h | h
 ·have := Int.mul_nonneg h hd
  rw [show max x (-x) = x by omega]; omega
 ·have := Int.mul_nonneg (show 0 ≤ -x by omega) hd
  rw [Int.neg_mul] at this
  rw [show max x (-x) = -x by omega, Int.neg_mul]; omega
theorem ab_neg (x : Int) : ab (-x) = ab x := by unfold ab; omega
theorem siz_same {a k : Sd} {d e : Int} (hd : 0 ≤ d) (he : 0 ≤ e) (h1 : k.a * d = a.a * e) (h2 : k.b * d = a.b * e) : siz k * d = siz a * e := by
 unfold siz
 rw [Int.add_mul, Int.add_mul, ← ab_mul hd, ← ab_mul hd, ← ab_mul he, ← ab_mul he, h1, h2]
theorem siz_opp {a k : Sd} {d e : Int} (hd : 0 ≤ d) (he : 0 ≤ e) (h1 : k.a * d = -(a.a * e)) (h2 : k.b * d = -(a.b * e)) : siz k * d = siz a * e := by
 unfold siz
 rw [Int.add_mul, Int.add_mul, ← ab_mul hd, ← ab_mul hd, ← ab_mul he, ← ab_mul he, h1, h2, ab_neg, ab_neg]
theorem mul_cancel0 {x d : Int} (hd : 0 < d) (h : x * d = 0) : x = 0 := by
 rcases Int.mul_eq_zero.1 h with h | h <;> omega
theorem opp_dbt {S : List Sd} {a k : Sd} {d e : Int} (ha : a ∈ S) (hk : k ∈ S) (hn : a.a ≠ 0 ∨ a.b ≠ 0) (hd : 0 < d) (he : 0 < e) (h1 : k.a * d = -(a.a * e)) (h2 : k.b * d = -(a.b * e)) (hc : 0 < a.c * e + k.c * d) : Dbt S := by
 have hs := siz_opp (by omega) (by omega) h1 h2
 have hp := siz_pos hn
 refine dbt_pair ha hk hn ⟨mul_cancel0 hd ?_, mul_cancel0 hd ?_, mul_cancel0 hd ?_⟩ ?_
 ·unfold crs
  have e1 : (a.a * k.b - a.b * k.a) * d = a.a * (k.b * d) - a.b * (k.a * d) := by grind
  rw [e1, h1, h2]; grind
 ·show (a.a * siz k + k.a * siz a) * d = 0
  have e1 : (a.a * siz k + k.a * siz a) * d = a.a * (siz k * d) + (k.a * d) * siz a := by grind
  rw [e1, h1, hs]; grind
 ·show (a.b * siz k + k.b * siz a) * d = 0
  have e1 : (a.b * siz k + k.b * siz a) * d = a.b * (siz k * d) + (k.b * d) * siz a := by grind
  rw [e1, h2, hs]; grind
 ·have e1 : (a.c * siz k + k.c * siz a) * d = (a.c * e + k.c * d) * siz a := by
   have : (a.c * siz k + k.c * siz a) * d = a.c * (siz k * d) + k.c * siz a * d := by grind
   rw [this, hs]; grind
  have h3 := Int.mul_pos hc hp
  rcases Int.lt_or_le 0 (a.c * siz k + k.c * siz a) with g | g
  ·exact g
  ·have := Int.mul_nonneg (show 0 ≤ -(a.c * siz k + k.c * siz a) by omega) (Int.le_of_lt hd)
   rw [Int.neg_mul] at this; omega
def cnr (a b : Sd) : Tru := ⟨a.c * b.b - b.c * a.b, a.a * b.c - b.a * a.c, crs a b⟩
theorem cnr_val (a b k : Sd) : k.a * (cnr a b).a + k.b * (cnr a b).b = crs k b * a.c + crs a k * b.c := by unfold cnr crs; grind
theorem lin_a (a b k : Sd) : k.a * crs a b = crs k b * a.a + crs a k * b.a := by unfold crs; grind
theorem lin_b (a b k : Sd) : k.b * crs a b = crs k b * a.b + crs a k * b.b := by unfold crs; grind
theorem not_fit {s : Sd} {t : Tru} (h : ¬ fitS s t) : s.a * t.a + s.b * t.b < s.c * t.d := by unfold fitS at h; omega
section
variable {S : List Sd} {p q : Int}
theorem out_dbt (hN : ¬ Dbt S) (hn : ∀ s ∈ S, s.a ≠ 0 ∨ s.b ≠ 0) {a b k : Sd} (ha : a ∈ S) (hb : b ∈ S) (hk : k ∈ S) (hd : 0 < crs a b) (hv : crs k b * a.c + crs a k * b.c < k.c * crs a b) : 0 < crs k b ∨ 0 < crs a k := by
 rcases Int.lt_or_le 0 (crs k b) with h1 | h1
 ·exact .inl h1
 rcases Int.lt_or_le 0 (crs a k) with h2 | h2
 ·exact .inr h2
 refine absurd ?_ hN
 have la := lin_a a b k
 have lb := lin_b a b k
 rcases Int.lt_or_le (crs k b) 0 with g1 | g1
 ·rcases Int.lt_or_le (crs a k) 0 with g2 | g2
  ·have m1 := crs_anti k b
   have m2 := crs_anti a k
   refine dbt_three ha hb hk (by rw [m1]; omega) (by rw [m2]; omega) hd ?_
   rw [m1, m2, Int.neg_mul, Int.neg_mul, Int.mul_comm (crs a b)]; omega
  ·have z : crs a k = 0 := by omega
   rw [z] at la lb hv
   exact opp_dbt ha hk (hn a ha) hd (show 0 < -crs k b by omega) (by rw [la]; grind) (by rw [lb]; grind) (by rw [Int.mul_neg, Int.mul_comm a.c]; omega)
 ·have z : crs k b = 0 := by omega
  rw [z] at la lb hv
  rcases Int.lt_or_le (crs a k) 0 with g2 | g2
  ·exact opp_dbt hb hk (hn b hb) hd (show 0 < -crs a k by omega) (by rw [la]; grind) (by rw [lb]; grind) (by rw [Int.mul_neg, Int.mul_comm b.c]; omega)
  ·have z2 : crs a k = 0 := by omega
   rw [z2] at la lb
   rcases hn k hk with c | c
   ·exact absurd (mul_cancel0 hd (by omega)) c
   ·exact absurd (mul_cancel0 hd (by omega)) c
theorem cnr_fit (hN : ¬ Dbt S) (hn : ∀ s ∈ S, s.a ≠ 0 ∨ s.b ≠ 0) {a b : Sd} (ha : a ∈ S) (hb : b ∈ S) (hd : 0 < crs a b) (hx : 0 < crs (wS p q) b) (hy : 0 < crs a (wS p q)) (hmax : ∀ y ∈ mstA S p q, y.1.c * crs a b ≤ (crs (wS p q) b * a.c + crs a (wS p q) * b.c) * y.2) : ∀ k ∈ S, fitS k (cnr a b) := fun k hk => by
 refine Decidable.byContradiction fun hf => ?_
 have hv := not_fit hf
 rw [cnr_val] at hv
 have hv' : crs k b * a.c + crs a k * b.c < k.c * crs a b := hv
 have ho := out_dbt hN hn ha hb hk hd hv'
 have w1 : crs k (wS p q) * crs a b = crs k b * crs a (wS p q) - crs a k * crs (wS p q) b := by unfold crs; grind
 have w2 : crs (wS p q) k * crs a b = crs a k * crs (wS p q) b - crs k b * crs a (wS p q) := by unfold crs; grind
 have pos_of : ∀ x : Int, 0 ≤ x * crs a b → 0 ≤ x := fun x h => by
  rcases Int.lt_or_le x 0 with c | c
  ·have := Int.mul_pos (show 0 < -x by omega) hd
   rw [Int.neg_mul] at this; omega
  ·exact c
 have cA : 0 < crs k b → 0 ≤ crs k (wS p q) → False := fun h1 h2 => by
  obtain ⟨y, hy1, e1, e2⟩ := cand_pair (p := p) (q := q) hk hb h1 (Int.le_of_lt hx) h2
  have hm := hmax y hy1
  rw [e1, e2] at hm
  have g := Int.mul_lt_mul_of_pos_right hv' hx
  have e3 : (crs (wS p q) b * k.c + crs k (wS p q) * b.c) * crs a b = crs (wS p q) b * k.c * crs a b + (crs k (wS p q) * crs a b) * b.c := by grind
  rw [e3, w1] at hm
  grind
 have cB : 0 < crs a k → 0 ≤ crs (wS p q) k → False := fun h1 h2 => by
  obtain ⟨y, hy1, e1, e2⟩ := cand_pair (p := p) (q := q) ha hk h1 h2 (Int.le_of_lt hy)
  have hm := hmax y hy1
  rw [e1, e2] at hm
  have g := Int.mul_lt_mul_of_pos_right hv' hy
  have e3 : (crs (wS p q) k * a.c + crs a (wS p q) * k.c) * crs a b = (crs (wS p q) k * crs a b) * a.c + crs a (wS p q) * k.c * crs a b := by grind
  rw [e3, w2] at hm
  grind
 rcases Int.le_total (crs a k * crs (wS p q) b) (crs k b * crs a (wS p q)) with h | h
 ·have k1 : 0 ≤ crs k (wS p q) := pos_of _ (by rw [w1]; omega)
  rcases Int.lt_or_le 0 (crs k b) with g | g
  ·exact cA g k1
  ·have g2 : 0 < crs a k := ho.resolve_left (by omega)
   have := Int.mul_pos g2 hx
   have := Int.mul_nonneg (show 0 ≤ -crs k b by omega) (Int.le_of_lt hy)
   rw [Int.neg_mul] at this
   omega
 ·have k1 : 0 ≤ crs (wS p q) k := pos_of _ (by rw [w2]; omega)
  rcases Int.lt_or_le 0 (crs a k) with g | g
  ·exact cB g k1
  ·have g2 : 0 < crs k b := ho.resolve_right (by omega)
   have := Int.mul_pos g2 hy
   have := Int.mul_nonneg (show 0 ≤ -crs a k by omega) (Int.le_of_lt hx)
   rw [Int.neg_mul] at this
   omega
theorem max_frac {α : Type} (f : α → Int) (g : α → Int) : ∀ (l : List α), l ≠ [] → (∀ x ∈ l, 0 < g x) → ∃ m ∈ l, ∀ x ∈ l, f x * g m ≤ f m * g x
 | [], h, _ => absurd rfl h
 | [x], _, _ => ⟨x, by simp, fun y hy => by obtain rfl : y = x := (by simpa using hy); omega⟩
 | x :: z :: l, _, hg => by
  obtain ⟨m, hm, hmx⟩ := max_frac f g (z :: l) (by simp) (fun y hy => hg y (List.mem_cons_of_mem _ hy))
  have gx := hg x List.mem_cons_self
  have gm := hg m (List.mem_cons_of_mem _ hm)
  rcases Int.le_total (f x * g m) (f m * g x) with h | h
  ·refine ⟨m, List.mem_cons_of_mem _ hm, fun y hy => ?_⟩
   rcases List.mem_cons.1 hy with rfl | hy
   ·exact h
   ·exact hmx y hy
  ·refine ⟨x, List.mem_cons_self, fun y hy => ?_⟩
   rcases List.mem_cons.1 hy with rfl | hy
   ·omega
   ·have gy := hg y (List.mem_cons_of_mem _ hy)
    have k1 := Int.mul_le_mul_of_nonneg_right (hmx y hy) (Int.le_of_lt gx)
    have k2 := Int.mul_le_mul_of_nonneg_right h (Int.le_of_lt gy)
    have e1 : f y * g m * g x = f y * g x * g m := by grind
    have e2 : f m * g y * g x = f m * g x * g y := by grind
    have e3 : f x * g m * g y = f x * g y * g m := by grind
    rcases Int.lt_or_le (f x * g y) (f y * g x) with c | c
    ·have := Int.mul_lt_mul_of_pos_right c gm; omega
    ·exact c
def sq (b : Sd) : Int := b.a * b.a + b.b * b.b
def dot (a b : Sd) : Int := a.a * b.a + a.b * b.b
theorem sq_pos {b : Sd} (h : b.a ≠ 0 ∨ b.b ≠ 0) : 0 < sq b := by
 unfold sq
 have sp : ∀ x : Int, 0 ≤ x * x ∧ (x ≠ 0 → 0 < x * x) := fun x => by
  rcases Int.lt_trichotomy x 0 with c | c | c
  ·have := Int.mul_pos (show 0 < -x by omega) (show 0 < -x by omega)
   rw [Int.neg_mul_neg] at this
   exact ⟨by omega, fun _ => this⟩
  ·subst c; exact ⟨by omega, fun h => absurd rfl h⟩
  ·have := Int.mul_pos c c
   exact ⟨by omega, fun _ => this⟩
 rcases h with h | h
 ·have := (sp b.a).2 h; have := (sp b.b).1; omega
 ·have := (sp b.b).2 h; have := (sp b.a).1; omega
def foot (b : Sd) : Tru := ⟨b.a * b.c, b.b * b.c, sq b⟩
theorem line_fit (hN : ¬ Dbt S) (hn : ∀ s ∈ S, s.a ≠ 0 ∨ s.b ≠ 0) (hS : ∀ s ∈ S, ∃ o ∈ S, o.a = -s.a ∧ o.b = -s.b) (hw : p ≠ 0 ∨ q ≠ 0) {b : Sd} (hb : b ∈ S) (hf1 : b.a * siz (wS p q) = p * siz b) (hf2 : b.b * siz (wS p q) = q * siz b) (hmax : ∀ y ∈ mstA S p q, y.1.c * siz b ≤ b.c * siz (wS p q) * y.2) :
 (∃ j ∈ S, 0 < crs b j ∧ ∀ k ∈ S, fitS k (cnr b j)) ∨ (∀ k ∈ S, fitS k (foot b)) := by
 have hbp := siz_pos (hn b hb)
 have hwp : 0 < siz (wS p q) := siz_pos (s := wS p q) hw
 have same : ∀ k ∈ S, ∀ d e : Int, 0 < d → 0 < e → k.a * d = b.a * e → k.b * d = b.b * e → b.c * e < k.c * d → False := fun k hk d e hd he h1 h2 hc => by
  have hs := siz_same (by omega) (by omega) h1 h2
  have hkp := siz_pos (hn k hk)
  have hdb := Int.mul_pos hd hbp
  have f1 : k.a * siz (wS p q) + p * -(siz k) = 0 := mul_cancel0 hdb (by
   have : (k.a * siz (wS p q) + p * -(siz k)) * (d * siz b) = (k.a * d) * siz (wS p q) * siz b - (p * siz b) * (siz k * d) := by grind
   rw [this, h1, hs, ← hf1]; grind)
  have f2 : k.b * siz (wS p q) + q * -(siz k) = 0 := mul_cancel0 hdb (by
   have : (k.b * siz (wS p q) + q * -(siz k)) * (d * siz b) = (k.b * d) * siz (wS p q) * siz b - (q * siz b) * (siz k * d) := by grind
   rw [this, h2, hs, ← hf2]; grind)
  have f0 : crs k (wS p q) = 0 := mul_cancel0 hkp (by
   have e1 : crs k (wS p q) * siz k = k.a * (q * siz k) - k.b * (p * siz k) := by unfold crs; grind
   rw [e1, show q * siz k = k.b * siz (wS p q) by rw [Int.mul_neg] at f2; omega, show p * siz k = k.a * siz (wS p q) by rw [Int.mul_neg] at f1; omega]; grind)
  obtain ⟨y, hy, e1, e2⟩ := cand_one (p := p) (q := q) hk ⟨f0, f1, f2⟩
  have hm := hmax y hy
  rw [e1, e2] at hm
  have g1 := Int.mul_lt_mul_of_pos_right (Int.mul_lt_mul_of_pos_right hc hwp) hbp
  have g2 := Int.mul_le_mul_of_nonneg_right hm (Int.le_of_lt hd)
  have e3 : b.c * siz (wS p q) * siz k * d = b.c * siz (wS p q) * (siz k * d) := by grind
  rw [e3, hs] at g2
  have e4 : b.c * siz (wS p q) * (siz b * e) = b.c * e * siz (wS p q) * siz b := by grind
  have e5 : k.c * siz (wS p q) * siz b * d = k.c * d * siz (wS p q) * siz b := by grind
  omega
 rcases Decidable.em ((S.filter fun j => decide (0 < crs b j)) = []) with he | he
 ·
  refine .inr fun k hk => Decidable.byContradiction fun hf => ?_
  have hz : ∀ s ∈ S, ¬ 0 < crs b s := fun s hs h => by
   have : s ∈ S.filter fun j => decide (0 < crs b j) := List.mem_filter.2 ⟨hs, by simpa using h⟩
   rw [he] at this; cases this
  have z1 := hz k hk
  obtain ⟨o, ho, o1, o2⟩ := hS k hk
  have z2 := hz o ho
  have z3 : crs b o = -crs b k := by unfold crs; rw [o1, o2]; grind
  have z : crs b k = 0 := by omega
  have hv := not_fit hf
  have hv' : k.a * (b.a * b.c) + k.b * (b.b * b.c) < k.c * sq b := hv
  have l1 : k.a * sq b = b.a * dot k b := by unfold crs at z; unfold sq dot; grind
  have l2 : k.b * sq b = b.b * dot k b := by unfold crs at z; unfold sq dot; grind
  have hsq := sq_pos (hn b hb)
  have e1 : k.a * (b.a * b.c) + k.b * (b.b * b.c) = b.c * dot k b := by unfold dot; grind
  rw [e1] at hv'
  rcases Int.lt_trichotomy (dot k b) 0 with c | c | c
  ·exact hN (opp_dbt hb hk (hn b hb) hsq (show 0 < -dot k b by omega) (by rw [l1]; grind) (by rw [l2]; grind) (by rw [Int.mul_neg]; omega))
  ·rw [c] at l1 l2
   rcases hn k hk with g | g
   ·exact absurd (mul_cancel0 hsq (by omega)) g
   ·exact absurd (mul_cancel0 hsq (by omega)) g
  ·exact same k hk _ _ hsq c l1 l2 hv'
 ·refine .inl ?_
  obtain ⟨j, hj, hjm⟩ := max_frac (fun j => j.c * sq b - dot j b * b.c) (fun j => crs b j) _ he (fun x hx => by simpa using (List.mem_filter.1 hx).2)
  have hjS := (List.mem_filter.1 hj).1
  have hd : 0 < crs b j := by simpa using (List.mem_filter.1 hj).2
  refine ⟨j, hjS, hd, fun k hk => Decidable.byContradiction fun hf => ?_⟩
  have hv := not_fit hf
  rw [cnr_val] at hv
  have hv' : crs k j * b.c + crs b k * j.c < k.c * crs b j := hv
  have ho := out_dbt hN hn hb hjS hk hd hv'
  have la := lin_a b j k
  have lb := lin_b b j k
  rcases Int.lt_or_le 0 (crs b k) with g | g
  ·have hm := hjm k (List.mem_filter.2 ⟨hk, by simpa using g⟩)
   have g1 := Int.mul_lt_mul_of_pos_right hv' (sq_pos (hn b hb))
   have e1 : (k.c * sq b - dot k b * b.c) * crs b j - (j.c * sq b - dot j b * b.c) * crs b k = k.c * crs b j * sq b - (crs k j * b.c + crs b k * j.c) * sq b := by
    have e2 : dot k b * crs b j = crs k j * sq b + crs b k * dot j b := by unfold dot crs sq; grind
    have e3 : (k.c * sq b - dot k b * b.c) * crs b j = k.c * sq b * crs b j - dot k b * crs b j * b.c := by grind
    rw [e3, e2]; grind
   omega
  ·have g1 : 0 < crs k j := ho.resolve_right (by omega)
   rcases Int.lt_or_le (crs b k) 0 with g2 | g2
   ·
    have x1 : crs (wS p q) j * siz b = siz (wS p q) * crs b j := by
     have : crs (wS p q) j * siz b = (p * siz b) * j.b - (q * siz b) * j.a := by unfold crs; grind
     rw [this, ← hf1, ← hf2]; unfold crs; grind
    have x2 : crs k (wS p q) * siz b = -(siz (wS p q) * crs b k) := by
     have : crs k (wS p q) * siz b = k.a * (q * siz b) - k.b * (p * siz b) := by unfold crs; grind
     rw [this, ← hf1, ← hf2]; unfold crs; grind
    have nn : ∀ x : Int, 0 ≤ x * siz b → 0 ≤ x := fun x h => by
     rcases Int.lt_or_le x 0 with c | c
     ·have := Int.mul_pos (show 0 < -x by omega) hbp
      rw [Int.neg_mul] at this; omega
     ·exact c
    have p1 := Int.mul_pos hwp hd
    have p2 := Int.mul_pos hwp (show 0 < -crs b k by omega)
    rw [Int.mul_neg] at p2
    obtain ⟨y, hy, e1, e2⟩ := cand_pair (p := p) (q := q) hk hjS g1 (nn _ (by omega)) (nn _ (by omega))
    have hm := hmax y hy
    rw [e1, e2] at hm
    have e3 : (crs (wS p q) j * k.c + crs k (wS p q) * j.c) * siz b = (crs (wS p q) j * siz b) * k.c + (crs k (wS p q) * siz b) * j.c := by grind
    rw [e3, x1, x2] at hm
    have g3 := Int.mul_lt_mul_of_pos_right hv' hwp
    grind
   ·have z : crs b k = 0 := by omega
    rw [z] at la lb hv'
    exact same k hk _ _ hd g1 (by rw [la]; grind) (by rw [lb]; grind) (by rw [Int.mul_comm b.c]; omega)
end
end Go.Proofs.YtncjabmlkgacdaaGreat.Sp
namespace Go.Proofs.YtncjabmlkgacdaaGreat.Sp
open Go Go.TH
attribute [local irreducible] W WO pt
set_option maxRecDepth 10000
set_option maxHeartbeats 2000000
abbrev sAt (S : List Sd) (i : Nat) : Sd := S.getD i sd0
def cJ (S : List Sd) (i j : Nat) : List Tru := if crs (sAt S i) (sAt S j) = 0 then [] else [if crs (sAt S i) (sAt S j) < 0 then cnr (sAt S j) (sAt S i) else cnr (sAt S i) (sAt S j)]
def cI (S : List Sd) (i : Nat) : List Tru := foot (sAt S i) :: seg 0 i (cJ S i)
def crnS (S : List Sd) : List Tru := seg 0 S.length (cI S)
def pI (S : List Sd) (i : Nat) : Nat := (seg 0 i (cI S)).length
def pJ (S : List Sd) (i j : Nat) : Nat := pI S i + ((seg 0 j (cJ S i)).length + 1)
section
variable {S : List Sd} {i j : Nat}
theorem crn_foot (h : i < S.length) : (crnS S)[pI S i]? = some (foot (sAt S i)) := seg_get (lo := 0) (i := i) (t := 0) (g := cI S) (by omega) rfl h
theorem crn_at (h : i < S.length) (hj : j < i) {t : Tru} (hc : cJ S i j = [t]) : (crnS S)[pJ S i j]? = some t := by
 refine seg_get (lo := 0) (i := i) (g := cI S) (by omega) ?_ h
 unfold cI
 rw [List.getElem?_cons_succ]
 have := seg_get (lo := 0) (i := j) (t := 0) (g := cJ S i) (x := t) (by omega) (by rw [hc]; rfl) (hi := i) hj
 exact this
theorem cJ_n (h : crs (sAt S i) (sAt S j) < 0) : cJ S i j = [cnr (sAt S j) (sAt S i)] := by unfold cJ; rw [if_neg (by omega), if_pos h]
theorem cJ_p (h : 0 < crs (sAt S i) (sAt S j)) : cJ S i j = [cnr (sAt S i) (sAt S j)] := by unfold cJ; rw [if_neg (by omega), if_neg (by omega)]
theorem crn_mem {a b : Sd} (ha : a ∈ S) (hb : b ∈ S) (hd : 0 < crs a b) : cnr a b ∈ crnS S := by
 obtain ⟨i, hi, rfl⟩ := ex_at ha
 obtain ⟨j, hj, rfl⟩ := ex_at hb
 have hij : i ≠ j := fun e => by subst e; unfold crs at hd; have := Int.mul_comm (S.getD i sd0).a (S.getD i sd0).b; omega
 rcases Nat.lt_or_gt_of_ne hij with h | h
 ·exact mem_seg.2 ⟨j, by omega, hj, by
   unfold cI
   refine List.mem_cons_of_mem _ (mem_seg.2 ⟨i, by omega, h, ?_⟩)
   rw [cJ_n (by rw [crs_anti]; have h0 : 0 < crs (sAt S i) (sAt S j) := hd; omega)]; exact List.mem_singleton.2 rfl⟩
 ·exact mem_seg.2 ⟨i, by omega, hi, by
   unfold cI
   refine List.mem_cons_of_mem _ (mem_seg.2 ⟨j, by omega, h, ?_⟩)
   rw [cJ_p hd]; exact List.mem_singleton.2 rfl⟩
theorem foot_mem {b : Sd} (hb : b ∈ S) : foot b ∈ crnS S := by
 obtain ⟨i, hi, rfl⟩ := ex_at hb
 exact mem_seg.2 ⟨i, by omega, hi, by unfold cI; exact List.mem_cons_self⟩
end
end Go.Proofs.YtncjabmlkgacdaaGreat.Sp
namespace Go.Proofs.YtncjabmlkgacdaaGreat.Sp
open Go Go.TH
attribute [local irreducible] W WO pt
set_option maxRecDepth 10000
set_option maxHeartbeats 20000000
theorem mstL_1 {S : List Sd} {p q : Int} {g : List Int} (h : g.length = 1) (h2 : fit2 (atS S g 0) ⟨p, q, 0⟩ (siz ⟨p, q, 0⟩) (-(siz (atS S g 0)))) : mstL S p q g = [(tkS S g [siz ⟨p, q, 0⟩] g.length, siz (atS S g 0))] := by
 have e : mstG S p q g = some ([siz ⟨p, q, 0⟩], siz (atS S g 0)) := by unfold mstG; rw [if_pos h]; unfold mst1; rw [if_pos h2]
 unfold mstL; rw [e]
theorem mstL_1n {S : List Sd} {p q : Int} {g : List Int} (h : g.length = 1) (h2 : ¬ fit2 (atS S g 0) ⟨p, q, 0⟩ (siz ⟨p, q, 0⟩) (-(siz (atS S g 0)))) : mstL S p q g = [] := by
 have e : mstG S p q g = none := by unfold mstG; rw [if_pos h]; unfold mst1; rw [if_neg h2]
 unfold mstL; rw [e]
theorem mstL_2 {S : List Sd} {p q : Int} {g : List Int} {x y d : Int} (h : ¬ g.length = 1) (hc : (crs (atS S g 0) (atS S g 1) < 0 ∧ d = -(crs (atS S g 0) (atS S g 1)) ∧ x = -(crs ⟨p, q, 0⟩ (atS S g 1)) ∧ y = -(crs (atS S g 0) ⟨p, q, 0⟩)) ∨ (¬ crs (atS S g 0) (atS S g 1) < 0 ∧ d = crs (atS S g 0) (atS S g 1) ∧ x = crs ⟨p, q, 0⟩ (atS S g 1) ∧ y = crs (atS S g 0) ⟨p, q, 0⟩)) : mstL S p q g = if 0 < d ∧ 0 ≤ x ∧ 0 ≤ y then [(tkS S g [x, y] g.length, d)] else [] := by
 have e : mstG S p q g = if 0 < d ∧ 0 ≤ x ∧ 0 ≤ y then some ([x, y], d) else none := by
  unfold mstG; rw [if_neg h]; unfold mst2
  rcases hc with ⟨h1, rfl, rfl, rfl⟩ | ⟨h1, rfl, rfl, rfl⟩
  ·rw [if_pos h1]
  ·rw [if_neg h1]
 unfold mstL; rw [e]
 split
 ·rename_i c
  split at c
  ·rename_i c2; cases c; rw [if_pos c2]
  ·cases c
 ·rename_i c
  split at c
  ·cases c
  ·rename_i c2; rw [if_neg c2]
theorem c_most (w : World) (p : Addr) (rv sv : Value) (rl : List Rn) (hT : Tbl w.heap.size w p rv sv rl) (hok : OkRs rl) (hl : rl.length ≤ 12) (u v : Int) (hu : OkN u) (hv : OkN v) :
 RetE Tryz.prog 109 [.pointer (some p), .int .i64 u, .int .i64 v].toArray w (fun r => ∃ (q : Option Nat) (s : Sd) (t : Int), r = .tuple #[mdV (.map q) s t, .bool (bl (Bnd (sds rl) u v))] ∧ (Bnd (sds rl) u v → MostI (sds rl) u v (s, t))) := by
 refine RetE.of mixed tyTab Tryz.func109 rfl rfl ?_
 replace hT : Tbl (fnCx mixed tyTab Tryz.f109.ntmps w).B (fnCx mixed tyTab Tryz.f109.ntmps w).w0 p rv sv rl := hT
 have hsl := sds_len rl
 have hS := sds_ok hok
 have hw := want_ok hu hv
 have zw := siz_bd hw
 have hg2 := g2_len (S := sds rl) (by omega)
 refine W.sreg (WO.box1 rfl (by rfl) rfl (fun b1 hb1 => (WO.alloc rfl rfl rfl (fun b2 hb2 => (WO.p rfl rfl (WO.nil (W.sreg (WO.p rfl rfl (WO.p rfl rfl (WO.build rfl rfl rfl rfl rfl (WO.alloc rfl rfl rfl (fun b3 hb3 => (WO.storeA rfl rfl rfl rfl Pick.head rfl rfl (WO.nil (W.seq (W.sreg (WO.loadA rfl rfl (Cells.own Pick.head) rfl rfl (WO.build rfl rfl rfl rfl rfl (WO.eqT rfl rfl (eq124z u v) rfl (WO.nil ?_))))))))))))))))))))
 refine W.cond_bl rfl (fun c1 => ?_) (fun c1 => ?_)
 ·refine W.sreg (WO.makeMap rfl (fun mb => (WO.build rfl rfl rfl rfl rfl (WO.build rfl rfl rfl rfl rfl (WO.storeA rfl rfl rfl rfl (Pick.tail (Pick.tail (Pick.head))) rfl rfl (WO.p rfl rfl (WO.nil (W.ret ?_))))))))
  (have q := mb; exact fin.ret (Res.two rfl (RV.cell rfl rfl rfl (Cells.own (by repeat exact .head))) (RV.tmp rfl)) ⟨some mb, sd0, 1, by rw [bl_t.2 (show Bnd (sds rl) u v from .inl ⟨by omega, by omega⟩)] <;> rfl, fun _ => ⟨.inl ⟨by omega, by omega, rfl⟩, fun y _ h0 => absurd ⟨by omega, by omega⟩ h0⟩⟩)
 ·refine W.skip (W.sreg (WO.alloc rfl rfl rfl (fun b4 hb4 => (WO.nil (W.seq (W.sreg (WO.load rfl rfl (Cell.own (Pick.tail (Pick.tail (Pick.tail (Pick.head)))) rfl) rfl (WO.call (Post := fun v Hq => ∃ b1 b2, v = .func (.func 174) #[] #[.pointer (some ⟨b1, 0, none⟩), .pointer (some ⟨b2, 0, none⟩)] ∧ Hq = [pt b2 (.cells #[.int .i64 2] 3 (0, 0)), pt b1 (.cells #[.pointer (some p)] 100 (0, 0))]) rfl Tryz.call98 (fun L w hi => c_groups w p 2) rfl ?_))))))))
  rintro _ _ ⟨b5, b6, rfl, rfl⟩
  refine WO.nil (W.block (W.chg (all_nil (b := b4) (by repeat first | exact .head | apply Pick.tail)) ?_))
  refine W.rangeFuncB (Jmp.ret) [pt b6 (.cells #[.int .i64 ((2 : Nat) : Int)] 3 (0, 0)), pt b5 (.cells #[.pointer (some p)] 100 (0, 0))] (fun t => [AllP b4 (msts (sds rl) u v t), pt b3 (.cells #[.int .i64 u, .int .i64 v, .int .i64 0] 96 (0, 0)), pt b2 (.cells #[.map none, .int .i64 0, .int .i64 0, .int .i64 0, .int .i64 0] 98 (0, 0)), pt b1 (.cells #[.pointer (some p)] 100 (0, 0))]) (g2S (sds rl)) (fun g1 v1_ => OwE encI 3 1 v1_ g1) ((g2S (sds rl)).length) rfl rfl rfl Tryz.call174 (by repeat (first | exact Sub.nil | refine Sub.cons (by repeat first | exact .head | apply Pick.tail) ?_)) ?_ ?_ ?_ ?_
  ·intro ll Hc hy w1 M1 hB1 hk1 hM1 hi1
   exact c_groups1 _ _ p rv sv rl hT (sds rl).length rfl 2 (by omega) (by omega) _ ll Hc hy b5 b6 w1 M1 hB1 hk1 hM1 hi1
  ·intro ll w1 M1 hB1 hM1 hk1 t g1 v1_ hx hle1
   have hlt := (List.getElem?_eq_some_iff.1 hx).1
   have hg12 := grp_ok (m := 2) (by omega) (List.mem_of_getElem? hx)
   obtain ⟨hgr, hg2⟩ := hg12
   have hgn := hgr.len
   replace hT := hT.agree hk1
   refine W.fact (OwE.sl (enc := encI) (e := 3) (sz := 1) (v := v1_) (xs := g1) (by repeat exact .head)) (fun hgsl => (W.region (WO.p rfl rfl (WO.nil (W.block (W.seq ?_))))))
   have h0 := hgr.rng _ (getD_mem (show 0 < g1.length by omega) 0)
   have s0 : OkS 20 100000 (atS (sds rl) g1 0) := hS _ (getD_mem (show (g1.getD 0 0).toNat < (sds rl).length by omega) sd0)
   have z0 := siz_bd s0
   have u0 := s0.up (A' := 20) (B' := 1000000) (by omega) (by omega)
   have v0 := (OkS.by_ s0 (n := siz ⟨u, v, 0⟩) (N := 40) (by omega)).up (A' := 1000000000000000) (B' := 1000000000000000) (by omega) (by omega)
   have v1 := (OkS.by_ hw (n := -(siz (atS (sds rl) g1 0))) (N := 40) (by omega)).up (A' := 1000000000000000) (B' := 1000000000000000) (by omega) (by omega)
   refine W.drawD 10 [.b 0 [], .r 1 [], .r 2 [], .b 3 [], .r 4 [], .r 5 [], .b 6 [], .r 7 [], .b 8 [], .a 9 11 (.cells #[.int .i64 0, .int .i64 0, .int .i64 0] 96 (0, 0))] [] (A0 := []) (Sub.refl _) (by kernel_rfl) ?_ ?_
   ·exact (ALok.b (ALok.r (ALok.r (ALok.b (ALok.r (ALok.r (ALok.b (ALok.r (ALok.b (ALok.cons rfl rfl rfl rfl rfl ALok.nil))))))))))
   refine DT.b rfl rfl rfl (WO.load rfl rfl (Cell.own (Pick.tail (Pick.tail (Pick.tail (Pick.tail (Pick.head))))) rfl) rfl (WO.nil ⟨rfl, rfl⟩)) (DT.r rfl rfl rfl (WO.p rfl rfl (WO.nil ⟨rfl, rfl⟩)) (DT.r rfl rfl rfl (WO.field rfl rfl rfl (WO.nil ⟨rfl, rfl⟩)) ?_))
   refine' DT.b rfl rfl rfl ?hq ?_
   case hq =>
    refine' WO.load (v := _) rfl rfl ?hc rfl ?_
    case hc => ((refine RdC.cellAt hT.c (j := 1) ?_; rfl))
    exact WO.nil ⟨rfl, rfl⟩
   refine DT.r rfl rfl rfl (WO.p rfl rfl (WO.nil ⟨rfl, rfl⟩)) (DT.r rfl rfl rfl (WO.indexAddr (i := 0) rfl rfl rfl hgsl (by omega) rfl (WO.nil ⟨rfl, rfl⟩)) ?_)
   refine' DT.b rfl rfl rfl ?hq ?_
   case hq =>
    refine' WO.load (v := _) rfl rfl ?hc rfl ?_
    case hc => (first | (refine OwE.cell0 (enc := encI) (e := 3) (sz := 1) (xs := g1) (i := 0) encI_ok (by repeat exact .head) (by omega) 0 ?_; rfl))
    exact WO.nil ⟨rfl, rfl⟩
   refine' DT.r rfl rfl rfl ?hq ?_
   case hq =>
    refine' WO.indexAddrZ (n := _) rfl rfl rfl ?hs ?h00 ?h1 rfl ?_
    case hs => exact hT.s.sl
    case h00 => omega
    case h1 => (omega)
    exact WO.nil ⟨rfl, rfl⟩
   refine' DT.b rfl rfl rfl ?hq ?_
   case hq =>
    refine' WO.loadA (vs := _) rfl rfl ?hc ?hl rfl ?_
    case hc => ((refine RdF.cellsT ?_ h0.1 h0.2 rfl; exact hT.s))
    case hl => rfl
    exact WO.nil ⟨rfl, rfl⟩
   refine DT.a (fun b5 => (DT.nil [_, _, _, _, _, _] rfl (WO.storeA rfl rfl rfl rfl Pick.head rfl rfl (WO.nil (W.seq (W.sreg (WO.p rfl rfl (WO.len rfl rfl hgsl rfl (WO.p rfl rfl (WO.nil ?_))))))))))
   refine W.cond_bl rfl (fun c2 => ?_) (fun c2 => ?_)
   ·refine W.seq ?_
    refine W.drawD 3 [.b 0 [], .b 1 [], .b 2 []] [] (A0 := []) (Sub.refl _) (by kernel_rfl) ?_ ?_
    ·repeat constructor
    refine DT.b rfl rfl rfl (WO.loadA rfl rfl (Cells.own (Pick.tail (Pick.tail (Pick.tail (Pick.head))))) rfl rfl (WO.nil ⟨rfl, rfl⟩)) (DT.b rfl rfl rfl (WO.callR rfl Tryz.call175 (fun L w hi => c_size w ⟨u, v, 0⟩ hw) rfl (WO.nil ⟨rfl, rfl⟩)) (DT.b rfl rfl rfl (WO.loadA rfl rfl (Cells.own Pick.head) rfl rfl (WO.nil ⟨rfl, rfl⟩)) (DT.nil [_, _, _, _, _, _] rfl (WO.callR rfl Tryz.call175 (fun L w hi => c_size w (atS (sds rl) g1 0) u0) rfl (WO.p rfl rfl (WO.p rfl rfl (WO.nil (W.seq (W.seq ?_)))))))))
    refine W.drawD 16 [.b 0 [], .b 1 [], .b 2 [], .r 3 [], .r 4 [], .b 5 [], .r 6 [], .b 7 [], .b 8 [], .r 9 [], .r 10 [], .b 11 [], .r 15 [], .c 12 [], .f 13 [], .b 14 []] [] (A0 := []) (Sub.refl _) (by kernel_rfl) ?_ ?_
    ·repeat constructor
    refine DT.b rfl rfl rfl (WO.loadA rfl rfl (Cells.own Pick.head) rfl rfl (WO.nil ⟨rfl, rfl⟩)) (DT.b rfl rfl rfl (WO.loadA rfl rfl (Cells.own (Pick.tail (Pick.tail (Pick.tail (Pick.head))))) rfl rfl (WO.nil ⟨rfl, rfl⟩)) (DT.b rfl rfl rfl (WO.callR rfl Tryz.call168 (fun L w hi => c_cross w (atS (sds rl) g1 0) ⟨u, v, 0⟩ u0 hw) rfl (WO.nil ⟨rfl, rfl⟩)) (DT.r rfl rfl rfl (WO.p rfl rfl (WO.nil ⟨rfl, rfl⟩)) ?_)))
    refine DT.rB rfl rfl rfl (WO.p rfl rfl (WO.nil ⟨rfl, rfl⟩)) (fun c3 => ?_) (fun c3 => ?_)
    ·refine DT.b rfl rfl rfl (WO.go' rfl (WO.loadA rfl rfl (Cells.own Pick.head) rfl rfl (WO.nil ⟨rfl, rfl⟩))) (DT.r rfl rfl rfl (WO.pg rfl rfl rfl (WO.nil ⟨rfl, rfl⟩)) (DT.b rfl rfl rfl (WO.go' rfl (WO.callR rfl Tryz.call154 (fun L w hi => c_by w (atS (sds rl) g1 0) (siz ⟨u, v, 0⟩) (s0.up (by omega) (by omega)) (by omega)) rfl (WO.nil ⟨rfl, rfl⟩))) (DT.b rfl rfl rfl (WO.go' rfl (WO.loadA rfl rfl (Cells.own (Pick.tail (Pick.tail (Pick.tail (Pick.head))))) rfl rfl (WO.nil ⟨rfl, rfl⟩))) (DT.r rfl rfl rfl (WO.pg rfl rfl rfl (WO.nil ⟨rfl, rfl⟩)) (DT.r rfl rfl rfl (WO.go' rfl (WO.neg rfl (by unfold in64; omega) rfl (WO.nil ⟨rfl, rfl⟩))) ?_)))))
     refine DT.b rfl rfl rfl (WO.go' rfl (WO.callR rfl Tryz.call154 (fun L w hi => c_by w ⟨u, v, 0⟩ (-(siz (atS (sds rl) g1 0))) (hw.up (by omega) (by omega)) (by omega)) rfl (WO.nil ⟨rfl, rfl⟩))) (DT.r rfl rfl rfl (WO.go' rfl (WO.build rfl rfl rfl rfl rfl (WO.nil ⟨rfl, rfl⟩))) (DT.c [_, _, _, _, _, _] rfl rfl rfl rfl (WO.go' rfl (WO.buildSl rfl rfl rfl rfl rfl rfl rfl rfl rfl (fun v6 => ?_)))))
     refine WO.nil ⟨_, [_], rfl, rfl, (Keep.r (Keep.b (Keep.r (Keep.r (Keep.b (Keep.b (Keep.r (Keep.b (Keep.r (Keep.r (Keep.b (Keep.b (Keep.b Keep.nil))))))))))))), ?_⟩
     refine DT.f [_, _, _, _, _, _, _] rfl rfl rfl rfl (WO.go' rfl (WO.callR (r := sdV (addS (byS (atS (sds rl) g1 0) (siz ⟨u, v, 0⟩)) (byS ⟨u, v, 0⟩ (-(siz (atS (sds rl) g1 0)))))) rfl Tryz.call153 (fun L w hi => by have h := c_sum w _ [byS (atS (sds rl) g1 0) (siz ⟨u, v, 0⟩), byS ⟨u, v, 0⟩ (-(siz (atS (sds rl) g1 0)))] (RdF.of_ow (e := 96) encSd_ok (by repeat exact .head) hi) (by simp) (all_twoS v0 v1); rw [addS_two] at h; exact h) rfl (WO.nil ⟨rfl, rfl⟩))) (DT.b rfl rfl rfl (WO.go' rfl (WO.callR rfl Tryz.call100 (fun L w hi => c_flat w _) rfl (WO.nil ⟨rfl, rfl⟩))) (DT.nil [_, _, _, _, _, _, _] rfl (WO.go' rfl ?_)))
     refine WO.eqT rfl rfl (eq124z (addS (byS (atS (sds rl) g1 0) (siz ⟨u, v, 0⟩)) (byS ⟨u, v, 0⟩ (-(siz (atS (sds rl) g1 0))))).a (addS (byS (atS (sds rl) g1 0) (siz ⟨u, v, 0⟩)) (byS ⟨u, v, 0⟩ (-(siz (atS (sds rl) g1 0))))).b) rfl (WO.p rfl rfl (WO.nil ?_))
     refine W.cond_bl rfl (fun c4 => ?_) (fun c4 => ?_)
     ·have hml := mstL_1 (p := u) (q := v) (show g1.length = 1 by omega) ⟨by assumption, by assumption⟩
      refine W.chgE (all_open1 (b := b4) (cs := msts (sds rl) u v t) (by repeat first | exact .head | apply Pick.tail)) ?_
      rintro gv -
      refine W.chgE (all_open2 (b := b4) (v := gv) (cs := msts (sds rl) u v t)) ?_
      rintro gxs hgx
      have hgl : gxs.length ≤ 1000 := by have := msts_len (sds rl) u v t; rw [← hgx, List.length_map] at this; omega
      refine W.drawD 8 [.b 0 [], .b 1 [], .r 2 [], .r 3 [], .r 4 [], .c 5 [], .c 6 [], .c 7 []] [] (A0 := [_]) (H0 := [_, _, _, _, _, _, _]) (.cons (Pick.tail .head) (.cons .head (.cons .head (.cons .head (.cons .head (.cons .head (.cons .head (.cons .head .nil)))))))) (by kernel_rfl) ?_ ?_
      ·repeat constructor
      refine DT.b rfl rfl rfl (WO.load rfl rfl (Cell.own Pick.head rfl) rfl (WO.nil ⟨rfl, rfl⟩)) (DT.b rfl rfl rfl (WO.load rfl rfl (Cell.own (Pick.tail (Pick.tail (Pick.tail (Pick.tail (Pick.tail (Pick.tail (Pick.head))))))) rfl) rfl (WO.nil ⟨rfl, rfl⟩)) (DT.r rfl rfl rfl (WO.p rfl rfl (WO.nil ⟨rfl, rfl⟩)) (DT.r rfl rfl rfl (WO.p rfl rfl (WO.nil ⟨rfl, rfl⟩)) (DT.r rfl rfl rfl (WO.p rfl rfl (WO.nil ⟨rfl, rfl⟩)) (DT.c [_, _, _, _, _, _, _, _] rfl rfl rfl rfl (WO.buildSl rfl rfl rfl rfl rfl rfl rfl rfl rfl (fun v7 => ?_)))))))
      refine WO.nil ⟨_, [_, _], rfl, rfl, (Keep.r (Keep.r (Keep.r (Keep.b (Keep.b Keep.nil))))), ?_⟩
      refine DT.c [_, _, _, _, _, _, _, _, _] rfl rfl rfl rfl (WO.call (Post := fun r Hq => ∃ mb : Nat, r = mdV (.map (some mb)) (tkS (sds rl) g1 [siz ⟨u, v, 0⟩] g1.length) (siz (atS (sds rl) g1 0)) ∧ Hq = [pt mb (.map (tkL g1 [siz ⟨u, v, 0⟩] g1.length).toArray g1.length)]) rfl Tryz.call176 (fun L w hi => c_take w p rv sv rl (hT.later hi) hok _ _ g1 _ (siz (atS (sds rl) g1 0)) (RdF.of_ow (e := 3) encI_ok (by repeat first | exact .head | apply Pick.tail) hi) (RdF.of_ow (e := 2) (xs := [siz ⟨u, v, 0⟩]) encI_ok (by repeat exact .head) hi) hgr.rng hgr.nd (by show 1 = _; omega) hgr.len.2 (fun y hy => by simp at hy; subst hy; omega)) rfl ?_)
      rintro _ _ ⟨mb, rfl, rfl⟩
      refine WO.nil ⟨_, [_, _, _], rfl, rfl, (Keep.c (Keep.r (Keep.r (Keep.r (Keep.b (Keep.b Keep.nil)))))), ?_⟩
      refine DT.c [_, _, _, _, _, _, _, _, _, _] rfl rfl rfl rfl (WO.buildSl rfl rfl rfl rfl rfl rfl rfl rfl rfl (fun v8 => ?_))
      refine WO.nil ⟨_, [_, _, _, _], rfl, rfl, (Keep.c (Keep.c (Keep.r (Keep.r (Keep.r (Keep.b (Keep.b Keep.nil))))))), ?_⟩
      refine DT.nil [_, _, _, _, _, _, _, _, _, _, _] rfl ?_
      refine' WO.appendE (enc := encMd) (m := 1) (xs := gxs) (ys := [(mb, tkS (sds rl) g1 [siz ⟨u, v, 0⟩] g1.length, siz (atS (sds rl) g1 0))]) encMd_ok rfl rfl rfl rfl rfl (by repeat first | exact .head | apply Pick.tail) (isSl_lit (by omega) (fun _ => ⟨_, _, rfl⟩)) (by omega) rfl (OwC.cells .head) (by omega) (by omega) rfl (fun g c => ?_)
      refine WO.store1 rfl rfl rfl (by rfl) (Pick.tail (Pick.tail (Pick.tail (Pick.tail (Pick.head))))) rfl (WO.nil (W.exit (blk_same (endR.go (bl_t.2 hlt) ?_))))
      (rw [msts_succ hx, hml]; exact all_pack (by repeat (first | exact Sub.nil | refine Sub.cons (by repeat first | exact .head | apply Pick.tail) ?_)) (by rw [List.map_append, hgx]; rfl))
     ·refine W.skip (W.exit (blk_same (endR.go (bl_t.2 hlt) ?_)))
      (rw [msts_succ hx, mstL_1n (by omega) (fun q => by exact absurd q.2 (by assumption)), List.append_nil]; exact fun h hs => Sub.sat (by repeat (first | exact Sub.nil | refine Sub.cons (by repeat first | exact .head | apply Pick.tail) ?_)) hs)
    ·refine DT.b rfl rfl rfl (WO.no rfl rfl (WO.nil ⟨rfl, rfl⟩)) (DT.r rfl rfl rfl (WO.no rfl rfl (WO.nil ⟨rfl, rfl⟩)) (DT.b rfl rfl rfl (WO.no rfl rfl (WO.nil ⟨rfl, rfl⟩)) (DT.b rfl rfl rfl (WO.no rfl rfl (WO.nil ⟨rfl, rfl⟩)) (DT.r rfl rfl rfl (WO.no rfl rfl (WO.nil ⟨rfl, rfl⟩)) (DT.r rfl rfl rfl (WO.no rfl rfl (WO.nil ⟨rfl, rfl⟩)) (DT.b rfl rfl rfl (WO.no rfl rfl (WO.nil ⟨rfl, rfl⟩)) (DT.r rfl rfl rfl (WO.no rfl rfl (WO.nil ⟨rfl, rfl⟩)) (DT.c [_, _, _, _, _, _] rfl rfl rfl rfl (WO.no rfl rfl ?_)))))))))
     refine WO.nil ⟨_, [], rfl, rfl, (Keep.r (Keep.b (Keep.r (Keep.r (Keep.b (Keep.b (Keep.r (Keep.b (Keep.r (Keep.r (Keep.b (Keep.b (Keep.b Keep.nil))))))))))))), ?_⟩
     refine DT.f [_, _, _, _, _, _] rfl rfl rfl rfl (WO.no rfl rfl (WO.nil ⟨rfl, rfl⟩)) (DT.b rfl rfl rfl (WO.no rfl rfl (WO.nil ⟨rfl, rfl⟩)) (DT.nil [_, _, _, _, _, _] rfl (WO.no rfl rfl (WO.p rfl rfl (WO.nil (W.cond_f rfl (W.skip (W.exit (blk_same (endR.go (bl_t.2 hlt) ?_))))))))))
     (rw [msts_succ hx, mstL_1n (by omega) (fun q => by exact absurd q.1 (by assumption)), List.append_nil]; exact fun h hs => Sub.sat (by repeat (first | exact Sub.nil | refine Sub.cons (by repeat first | exact .head | apply Pick.tail) ?_)) hs)
   ·refine W.skip (W.seq ?_)
    have h1 := hgr.rng _ (getD_mem (show 1 < g1.length by omega) 0)
    have s1 : OkS 20 100000 (atS (sds rl) g1 1) := hS _ (getD_mem (show (g1.getD 1 0).toNat < (sds rl).length by omega) sd0)
    have u1 := s1.up (A' := 20) (B' := 1000000) (by omega) (by omega)
    have d1 := (crs_bd u0 u1).2.2
    have d2 := (crs_bd hw u1).2.2
    have d3 := (crs_bd u0 hw).2.2
    refine W.drawD 10 [.b 0 [], .r 1 [], .r 2 [], .b 3 [], .r 4 [], .r 5 [], .b 6 [], .r 7 [], .b 8 [], .a 9 14 (.cells #[.int .i64 0, .int .i64 0, .int .i64 0] 96 (0, 0))] [] (A0 := []) (Sub.refl _) (by kernel_rfl) ?_ ?_
    ·exact (ALok.b (ALok.r (ALok.r (ALok.b (ALok.r (ALok.r (ALok.b (ALok.r (ALok.b (ALok.cons rfl rfl rfl rfl rfl ALok.nil))))))))))
    refine DT.b rfl rfl rfl (WO.load rfl rfl (Cell.own (Pick.tail (Pick.tail (Pick.tail (Pick.tail (Pick.tail (Pick.head)))))) rfl) rfl (WO.nil ⟨rfl, rfl⟩)) (DT.r rfl rfl rfl (WO.p rfl rfl (WO.nil ⟨rfl, rfl⟩)) (DT.r rfl rfl rfl (WO.field rfl rfl rfl (WO.nil ⟨rfl, rfl⟩)) ?_))
    refine' DT.b rfl rfl rfl ?hq ?_
    case hq =>
     refine' WO.load (v := _) rfl rfl ?hc rfl ?_
     case hc => ((refine RdC.cellAt hT.c (j := 1) ?_; rfl))
     exact WO.nil ⟨rfl, rfl⟩
    refine DT.r rfl rfl rfl (WO.p rfl rfl (WO.nil ⟨rfl, rfl⟩)) (DT.r rfl rfl rfl (WO.indexAddr (i := 1) rfl rfl rfl hgsl (by omega) rfl (WO.nil ⟨rfl, rfl⟩)) ?_)
    refine' DT.b rfl rfl rfl ?hq ?_
    case hq =>
     refine' WO.load (v := _) rfl rfl ?hc rfl ?_
     case hc => (first | (refine OwE.cell0 (enc := encI) (e := 3) (sz := 1) (xs := g1) (i := 1) encI_ok (by repeat first | exact .head | apply Pick.tail) (by omega) 0 ?_; rfl))
     exact WO.nil ⟨rfl, rfl⟩
    refine' DT.r rfl rfl rfl ?hq ?_
    case hq =>
     refine' WO.indexAddrZ (n := _) rfl rfl rfl ?hs ?h00 ?h1 rfl ?_
     case hs => exact hT.s.sl
     case h00 => omega
     case h1 => (omega)
     exact WO.nil ⟨rfl, rfl⟩
    refine' DT.b rfl rfl rfl ?hq ?_
    case hq =>
     refine' WO.loadA (vs := _) rfl rfl ?hc ?hl rfl ?_
     case hc => ((refine RdF.cellsT ?_ h1.1 h1.2 rfl; exact hT.s))
     case hl => rfl
     exact WO.nil ⟨rfl, rfl⟩
    refine DT.a (fun b9 => (DT.nil [_, _, _, _, _, _, _] rfl (WO.storeA rfl rfl rfl rfl Pick.head rfl rfl (WO.nil (W.sreg (WO.loadA rfl rfl (Cells.own (Pick.tail (Pick.head))) rfl rfl (WO.p rfl rfl (WO.p rfl rfl (WO.nil (W.sreg (WO.p rfl rfl (WO.loadA rfl rfl (Cells.own Pick.head) rfl rfl (WO.callCR (first := [sdV (atS (sds rl) g1 0)]) (captured := []) rfl rfl Tryz.call168 (fun L w hi => c_cross w (atS (sds rl) g1 0) (atS (sds rl) g1 1) u0 u1) rfl (WO.p rfl rfl (WO.nil (W.seq ?_))))))))))))))))
    refine W.drawD 5 [.b 0 [], .b 1 [], .b 2 [], .r 3 [], .b 4 []] [] (A0 := []) (Sub.refl _) (by kernel_rfl) ?_ ?_
    ·repeat constructor
    refine DT.b rfl rfl rfl (WO.loadA rfl rfl (Cells.own (Pick.tail (Pick.tail (Pick.tail (Pick.tail (Pick.head)))))) rfl rfl (WO.nil ⟨rfl, rfl⟩)) (DT.b rfl rfl rfl (WO.loadA rfl rfl (Cells.own Pick.head) rfl rfl (WO.nil ⟨rfl, rfl⟩)) (DT.b rfl rfl rfl (WO.callR rfl Tryz.call168 (fun L w hi => c_cross w ⟨u, v, 0⟩ (atS (sds rl) g1 1) hw u1) rfl (WO.nil ⟨rfl, rfl⟩)) (DT.r rfl rfl rfl (WO.p rfl rfl (WO.nil ⟨rfl, rfl⟩)) (DT.b rfl rfl rfl (WO.loadA rfl rfl (Cells.own (Pick.tail (Pick.tail (Pick.tail (Pick.tail (Pick.head)))))) rfl rfl (WO.nil ⟨rfl, rfl⟩)) (DT.nil [_, _, _, _, _, _, _] rfl ?_)))))
    refine WO.callCR (first := [sdV (atS (sds rl) g1 0)]) (captured := []) rfl rfl Tryz.call168 (fun L w hi => c_cross w (atS (sds rl) g1 0) ⟨u, v, 0⟩ u0 hw) rfl (WO.p rfl rfl (WO.p rfl rfl (WO.nil (W.seq (W.sreg (WO.p rfl rfl (WO.p rfl rfl (WO.nil ?_))))))))
    refine W.cond_bl rfl (fun c5 => ?_) (fun c5 => ?_)
    ·refine W.region (WO.p rfl rfl (WO.neg rfl (by unfold in64; omega) rfl (WO.p rfl rfl (WO.neg rfl (by unfold in64; omega) rfl (WO.p rfl rfl (WO.neg rfl (by unfold in64; omega) rfl (WO.p rfl rfl (WO.p rfl rfl (WO.p rfl rfl (WO.nil (W.sreg (WO.p rfl rfl (WO.p rfl rfl (WO.p rfl rfl ?_))))))))))))))
     refine WO.guard_bl rfl rfl (fun c6 => ?_) (fun c6 => ?_)
     ·refine WO.pg rfl rfl rfl (WO.pg rfl rfl rfl (WO.p rfl rfl (WO.p rfl rfl ?_)))
      refine WO.guard_bl rfl rfl (fun c7 => ?_) (fun c7 => ?_)
      ·refine WO.pg rfl rfl rfl (WO.pg rfl rfl rfl (WO.p rfl rfl (WO.nil ?_)))
       refine W.cond_bl rfl (fun c8 => ?_) (fun c8 => ?_)
       ·(have hml := (mstL_2 (S := sds rl) (p := u) (q := v) (g := g1) (d := -(crs (atS (sds rl) g1 0) (atS (sds rl) g1 1))) (x := -(crs ⟨u, v, 0⟩ (atS (sds rl) g1 1))) (y := -(crs (atS (sds rl) g1 0) ⟨u, v, 0⟩)) (by omega) (.inl ⟨by assumption, rfl, rfl, rfl⟩)).trans (if_pos ⟨by assumption, by assumption, by assumption⟩); have hneg : True := trivial)
        refine W.chgE (all_open1 (b := b4) (cs := msts (sds rl) u v t) (by repeat first | exact .head | apply Pick.tail)) ?_
        rintro gv -
        refine W.chgE (all_open2 (b := b4) (v := gv) (cs := msts (sds rl) u v t)) ?_
        rintro gxs hgx
        have hgl : gxs.length ≤ 1000 := by have := msts_len (sds rl) u v t; rw [← hgx, List.length_map] at this; omega
        refine W.drawD 9 [.b 0 [], .b 1 [], .r 2 [], .r 3 [], .r 4 [], .r 5 [], .c 6 [], .c 7 [], .c 8 []] [] (A0 := [_]) (H0 := [_, _, _, _, _, _, _]) (.cons (Pick.tail .head) (.cons .head (.cons .head (.cons .head (.cons .head (.cons .head (.cons .head (.cons .head .nil)))))))) (by kernel_rfl) ?_ ?_
        ·repeat constructor
        refine DT.b rfl rfl rfl (WO.load rfl rfl (Cell.own Pick.head rfl) rfl (WO.nil ⟨rfl, rfl⟩)) (DT.b rfl rfl rfl (WO.load rfl rfl (Cell.own (Pick.tail (Pick.tail (Pick.tail (Pick.tail (Pick.tail (Pick.tail (Pick.head))))))) rfl) rfl (WO.nil ⟨rfl, rfl⟩)) (DT.r rfl rfl rfl (WO.p rfl rfl (WO.nil ⟨rfl, rfl⟩)) (DT.r rfl rfl rfl (WO.p rfl rfl (WO.nil ⟨rfl, rfl⟩)) (DT.r rfl rfl rfl (WO.p rfl rfl (WO.nil ⟨rfl, rfl⟩)) (DT.r rfl rfl rfl (WO.p rfl rfl (WO.nil ⟨rfl, rfl⟩)) (DT.c [_, _, _, _, _, _, _, _] rfl rfl rfl rfl (WO.buildSl rfl rfl rfl rfl rfl rfl rfl rfl rfl (fun v10 => ?_))))))))
        refine WO.nil ⟨_, [_, _], rfl, rfl, (Keep.r (Keep.r (Keep.r (Keep.r (Keep.b (Keep.b Keep.nil)))))), ?_⟩
        refine DT.c [_, _, _, _, _, _, _, _, _] rfl rfl rfl rfl ?_
        (have q := hneg; clear q; refine WO.call (Post := fun r Hq => ∃ mb : Nat, r = mdV (.map (some mb)) (tkS (sds rl) g1 [-(crs ⟨u, v, 0⟩ (atS (sds rl) g1 1)), -(crs (atS (sds rl) g1 0) ⟨u, v, 0⟩)] g1.length) (-(crs (atS (sds rl) g1 0) (atS (sds rl) g1 1))) ∧ Hq = [pt mb (.map (tkL g1 [-(crs ⟨u, v, 0⟩ (atS (sds rl) g1 1)), -(crs (atS (sds rl) g1 0) ⟨u, v, 0⟩)] g1.length).toArray g1.length)]) rfl Tryz.call176 (fun L w hi => c_take w p rv sv rl (hT.later hi) hok _ _ g1 _ _ (RdF.of_ow (e := 3) encI_ok (by repeat first | exact .head | apply Pick.tail) hi) (RdF.of_ow (e := 2) (xs := [-(crs ⟨u, v, 0⟩ (atS (sds rl) g1 1)), -(crs (atS (sds rl) g1 0) ⟨u, v, 0⟩)]) encI_ok (by repeat exact .head) hi) hgr.rng hgr.nd (by show 2 = _; omega) hgr.len.2 (y2_bd (by omega) (by omega))) rfl ?_)
        rintro _ _ ⟨mb, rfl, rfl⟩
        refine WO.nil ⟨_, [_, _, _], rfl, rfl, (Keep.c (Keep.r (Keep.r (Keep.r (Keep.r (Keep.b (Keep.b Keep.nil))))))), ?_⟩
        refine DT.c [_, _, _, _, _, _, _, _, _, _] rfl rfl rfl rfl (WO.buildSl rfl rfl rfl rfl rfl rfl rfl rfl rfl (fun v11 => ?_))
        refine WO.nil ⟨_, [_, _, _, _], rfl, rfl, (Keep.c (Keep.c (Keep.r (Keep.r (Keep.r (Keep.r (Keep.b (Keep.b Keep.nil)))))))), ?_⟩
        refine DT.nil [_, _, _, _, _, _, _, _, _, _, _] rfl ?_
        (have q := hneg; clear q; refine' WO.appendE (enc := encMd) (m := 1) (xs := gxs) (ys := [(mb, tkS (sds rl) g1 [-(crs ⟨u, v, 0⟩ (atS (sds rl) g1 1)), -(crs (atS (sds rl) g1 0) ⟨u, v, 0⟩)] g1.length, -(crs (atS (sds rl) g1 0) (atS (sds rl) g1 1)))]) encMd_ok rfl rfl rfl rfl rfl (by repeat first | exact .head | apply Pick.tail) (isSl_lit (by omega) (fun _ => ⟨_, _, rfl⟩)) (by omega) rfl (OwC.cells .head) (by omega) (by omega) rfl (fun g c => ?_))
        refine WO.store1 rfl rfl rfl (by rfl) (Pick.tail (Pick.tail (Pick.tail (Pick.tail (Pick.head))))) rfl (WO.nil (endR.go (bl_t.2 hlt) ?_))
        (rw [msts_succ hx, hml]; exact all_pack (by repeat (first | exact Sub.nil | refine Sub.cons (by repeat first | exact .head | apply Pick.tail) ?_)) (by rw [List.map_append, hgx]; rfl))
       ·refine W.skip (endR.go (bl_t.2 hlt) ?_)
        (rw [msts_succ hx, mstL_2 (d := -(crs (atS (sds rl) g1 0) (atS (sds rl) g1 1))) (x := -(crs ⟨u, v, 0⟩ (atS (sds rl) g1 1))) (y := -(crs (atS (sds rl) g1 0) ⟨u, v, 0⟩)) (by omega) (.inl ⟨by assumption, rfl, rfl, rfl⟩), if_neg (by omega), List.append_nil]; exact fun h hs => Sub.sat (by repeat (first | exact Sub.nil | refine Sub.cons (by repeat first | exact .head | apply Pick.tail) ?_)) hs)
      ·refine WO.no rfl rfl (WO.no rfl rfl (WO.p rfl rfl (WO.nil (W.cond_f rfl (W.skip (endR.go (bl_t.2 hlt) ?_))))))
       (rw [msts_succ hx, mstL_2 (d := -(crs (atS (sds rl) g1 0) (atS (sds rl) g1 1))) (x := -(crs ⟨u, v, 0⟩ (atS (sds rl) g1 1))) (y := -(crs (atS (sds rl) g1 0) ⟨u, v, 0⟩)) (by omega) (.inl ⟨by assumption, rfl, rfl, rfl⟩), if_neg (by omega), List.append_nil]; exact fun h hs => Sub.sat (by repeat (first | exact Sub.nil | refine Sub.cons (by repeat first | exact .head | apply Pick.tail) ?_)) hs)
     ·exfalso; omega
    ·refine W.skip (W.sreg (WO.p rfl rfl (WO.p rfl rfl (WO.p rfl rfl ?_))))
     refine WO.guard_bl rfl rfl (fun c9 => ?_) (fun c9 => ?_)
     ·refine WO.pg rfl rfl rfl (WO.pg rfl rfl rfl (WO.p rfl rfl (WO.p rfl rfl ?_)))
      refine WO.guard_bl rfl rfl (fun c10 => ?_) (fun c10 => ?_)
      ·refine WO.pg rfl rfl rfl (WO.pg rfl rfl rfl (WO.p rfl rfl (WO.nil ?_)))
       refine W.cond_bl rfl (fun c11 => ?_) (fun c11 => ?_)
       ·(have hml := (mstL_2 (S := sds rl) (p := u) (q := v) (g := g1) (d := crs (atS (sds rl) g1 0) (atS (sds rl) g1 1)) (x := crs ⟨u, v, 0⟩ (atS (sds rl) g1 1)) (y := crs (atS (sds rl) g1 0) ⟨u, v, 0⟩) (by omega) (.inr ⟨by assumption, rfl, rfl, rfl⟩)).trans (if_pos ⟨by assumption, by assumption, by assumption⟩); have hpos : True := trivial)
        refine W.chgE (all_open1 (b := b4) (cs := msts (sds rl) u v t) (by repeat first | exact .head | apply Pick.tail)) ?_
        rintro gv -
        refine W.chgE (all_open2 (b := b4) (v := gv) (cs := msts (sds rl) u v t)) ?_
        rintro gxs hgx
        have hgl : gxs.length ≤ 1000 := by have := msts_len (sds rl) u v t; rw [← hgx, List.length_map] at this; omega
        refine W.drawD 9 [.b 0 [], .b 1 [], .r 2 [], .r 3 [], .r 4 [], .r 5 [], .c 6 [], .c 7 [], .c 8 []] [] (A0 := [_]) (H0 := [_, _, _, _, _, _, _]) (.cons (Pick.tail .head) (.cons .head (.cons .head (.cons .head (.cons .head (.cons .head (.cons .head (.cons .head .nil)))))))) (by kernel_rfl) ?_ ?_
        ·repeat constructor
        refine DT.b rfl rfl rfl (WO.load rfl rfl (Cell.own Pick.head rfl) rfl (WO.nil ⟨rfl, rfl⟩)) (DT.b rfl rfl rfl (WO.load rfl rfl (Cell.own (Pick.tail (Pick.tail (Pick.tail (Pick.tail (Pick.tail (Pick.tail (Pick.head))))))) rfl) rfl (WO.nil ⟨rfl, rfl⟩)) (DT.r rfl rfl rfl (WO.p rfl rfl (WO.nil ⟨rfl, rfl⟩)) (DT.r rfl rfl rfl (WO.p rfl rfl (WO.nil ⟨rfl, rfl⟩)) (DT.r rfl rfl rfl (WO.p rfl rfl (WO.nil ⟨rfl, rfl⟩)) (DT.r rfl rfl rfl (WO.p rfl rfl (WO.nil ⟨rfl, rfl⟩)) (DT.c [_, _, _, _, _, _, _, _] rfl rfl rfl rfl (WO.buildSl rfl rfl rfl rfl rfl rfl rfl rfl rfl (fun v12 => ?_))))))))
        refine WO.nil ⟨_, [_, _], rfl, rfl, (Keep.r (Keep.r (Keep.r (Keep.r (Keep.b (Keep.b Keep.nil)))))), ?_⟩
        refine DT.c [_, _, _, _, _, _, _, _, _] rfl rfl rfl rfl ?_
        (have q := hpos; clear q; refine WO.call (Post := fun r Hq => ∃ mb : Nat, r = mdV (.map (some mb)) (tkS (sds rl) g1 [crs ⟨u, v, 0⟩ (atS (sds rl) g1 1), crs (atS (sds rl) g1 0) ⟨u, v, 0⟩] g1.length) (crs (atS (sds rl) g1 0) (atS (sds rl) g1 1)) ∧ Hq = [pt mb (.map (tkL g1 [crs ⟨u, v, 0⟩ (atS (sds rl) g1 1), crs (atS (sds rl) g1 0) ⟨u, v, 0⟩] g1.length).toArray g1.length)]) rfl Tryz.call176 (fun L w hi => c_take w p rv sv rl (hT.later hi) hok _ _ g1 _ _ (RdF.of_ow (e := 3) encI_ok (by repeat first | exact .head | apply Pick.tail) hi) (RdF.of_ow (e := 2) (xs := [crs ⟨u, v, 0⟩ (atS (sds rl) g1 1), crs (atS (sds rl) g1 0) ⟨u, v, 0⟩]) encI_ok (by repeat exact .head) hi) hgr.rng hgr.nd (by show 2 = _; omega) hgr.len.2 (y2_bd (by omega) (by omega))) rfl ?_)
        rintro _ _ ⟨mb, rfl, rfl⟩
        refine WO.nil ⟨_, [_, _, _], rfl, rfl, (Keep.c (Keep.r (Keep.r (Keep.r (Keep.r (Keep.b (Keep.b Keep.nil))))))), ?_⟩
        refine DT.c [_, _, _, _, _, _, _, _, _, _] rfl rfl rfl rfl (WO.buildSl rfl rfl rfl rfl rfl rfl rfl rfl rfl (fun v13 => ?_))
        refine WO.nil ⟨_, [_, _, _, _], rfl, rfl, (Keep.c (Keep.c (Keep.r (Keep.r (Keep.r (Keep.r (Keep.b (Keep.b Keep.nil)))))))), ?_⟩
        refine DT.nil [_, _, _, _, _, _, _, _, _, _, _] rfl ?_
        (have q := hpos; clear q; refine' WO.appendE (enc := encMd) (m := 1) (xs := gxs) (ys := [(mb, tkS (sds rl) g1 [crs ⟨u, v, 0⟩ (atS (sds rl) g1 1), crs (atS (sds rl) g1 0) ⟨u, v, 0⟩] g1.length, crs (atS (sds rl) g1 0) (atS (sds rl) g1 1))]) encMd_ok rfl rfl rfl rfl rfl (by repeat first | exact .head | apply Pick.tail) (isSl_lit (by omega) (fun _ => ⟨_, _, rfl⟩)) (by omega) rfl (OwC.cells .head) (by omega) (by omega) rfl (fun g c => ?_))
        refine WO.store1 rfl rfl rfl (by rfl) (Pick.tail (Pick.tail (Pick.tail (Pick.tail (Pick.head))))) rfl (WO.nil (endR.go (bl_t.2 hlt) ?_))
        (rw [msts_succ hx, hml]; exact all_pack (by repeat (first | exact Sub.nil | refine Sub.cons (by repeat first | exact .head | apply Pick.tail) ?_)) (by rw [List.map_append, hgx]; rfl))
       ·refine W.skip (endR.go (bl_t.2 hlt) ?_)
        (rw [msts_succ hx, mstL_2 (d := crs (atS (sds rl) g1 0) (atS (sds rl) g1 1)) (x := crs ⟨u, v, 0⟩ (atS (sds rl) g1 1)) (y := crs (atS (sds rl) g1 0) ⟨u, v, 0⟩) (by omega) (.inr ⟨by assumption, rfl, rfl, rfl⟩), if_neg (by omega), List.append_nil]; exact fun h hs => Sub.sat (by repeat (first | exact Sub.nil | refine Sub.cons (by repeat first | exact .head | apply Pick.tail) ?_)) hs)
      ·refine WO.no rfl rfl (WO.no rfl rfl (WO.p rfl rfl (WO.nil (W.cond_f rfl (W.skip (endR.go (bl_t.2 hlt) ?_))))))
       (rw [msts_succ hx, mstL_2 (d := crs (atS (sds rl) g1 0) (atS (sds rl) g1 1)) (x := crs ⟨u, v, 0⟩ (atS (sds rl) g1 1)) (y := crs (atS (sds rl) g1 0) ⟨u, v, 0⟩) (by omega) (.inr ⟨by assumption, rfl, rfl, rfl⟩), if_neg (by omega), List.append_nil]; exact fun h hs => Sub.sat (by repeat (first | exact Sub.nil | refine Sub.cons (by repeat first | exact .head | apply Pick.tail) ?_)) hs)
     ·refine WO.no rfl rfl (WO.no rfl rfl (WO.p rfl rfl (WO.p rfl rfl (WO.no rfl rfl (WO.no rfl rfl (WO.p rfl rfl (WO.nil (W.cond_f rfl (W.skip (endR.go (bl_t.2 hlt) ?_))))))))))
      (rw [msts_succ hx, mstL_2 (d := crs (atS (sds rl) g1 0) (atS (sds rl) g1 1)) (x := crs ⟨u, v, 0⟩ (atS (sds rl) g1 1)) (y := crs (atS (sds rl) g1 0) ⟨u, v, 0⟩) (by omega) (.inr ⟨by assumption, rfl, rfl, rfl⟩), if_neg (by omega), List.append_nil]; exact fun h hs => Sub.sat (by repeat (first | exact Sub.nil | refine Sub.cons (by repeat first | exact .head | apply Pick.tail) ?_)) hs)
  ·intro hAll
   rw [msts_end]
   refine W.seq (W.chgE (all_open1 (b := b4) (cs := mstA (sds rl) u v) (by repeat first | exact .head | apply Pick.tail)) ?_)
   rintro gv -
   refine W.chgE (all_open2 (b := b4) (v := gv) (cs := mstA (sds rl) u v)) ?_
   rintro gxs hgx
   refine W.fact (OwE.formCap (enc := encMd) (e := 98) (sz := 5) (v := gv) (xs := gxs) (by repeat first | exact .head | apply Pick.tail)) (fun hfc => ?_)
   obtain ⟨ga, gc, rfl, hgc⟩ := hfc
   refine W.fact (OwE.sl (enc := encMd) (e := 98) (sz := 5) (v := .slice ga gxs.length gc) (xs := gxs) (by repeat first | exact .head | apply Pick.tail)) (fun hgs => ?_)
   have hgk : ∀ y ∈ gxs, OkM y.2 := fun y hy => mstA_ok hS (sds_nz hok) hu hv _ (hgx ▸ List.mem_map_of_mem hy)
   refine W.sreg (WO.load rfl rfl (Cell.own Pick.head rfl) rfl (WO.len rfl rfl hgs rfl (WO.p rfl rfl (WO.nil ?_))))
   refine W.cond_bl rfl (fun c12 => ?_) (fun c12 => ?_)
   ·refine W.sreg (WO.build rfl rfl rfl rfl rfl (WO.storeA rfl rfl rfl rfl (Pick.tail (Pick.tail (Pick.tail (Pick.tail (Pick.tail (Pick.head)))))) rfl rfl (WO.p rfl rfl (WO.nil (W.ret ?_)))))
    (have hz : mstA (sds rl) u v = [] := (by rw [← hgx]; exact List.map_eq_nil_iff.2 (List.eq_nil_of_length_eq_zero (by omega))); have hb : ¬ Bnd (sds rl) u v := fun q => q.elim (fun q => by omega) (fun q => q hz); exact fin.ret (Res.two rfl (RV.cell rfl rfl rfl (Cells.own (by repeat exact .head))) (RV.tmp rfl)) ⟨none, sd0, 0, by rw [bl_f.2 hb] <;> rfl, fun q => absurd q hb⟩)
   ·refine W.skip (W.sreg (WO.load rfl rfl (Cell.own Pick.head rfl) rfl (WO.callE rfl Tryz.call182 (fun L w hi => c_first w ga gc gxs (RdF.of_ow (e := 98) encMd_ok (by repeat first | exact .head | apply Pick.tail) hi) hgc (by omega) hgk) rfl ?_)))
    rintro _ ⟨y, hy, rfl⟩
    refine WO.storeA rfl rfl rfl rfl (Pick.tail (Pick.tail (Pick.tail (Pick.tail (Pick.tail (Pick.head)))))) rfl rfl (WO.p rfl rfl (WO.nil (W.ret ?_)))
    (have q := hy; exact fin.ret (Res.two rfl (RV.cell rfl rfl rfl (Cells.own (by repeat exact .head))) (RV.tmp rfl)) ⟨some y.1, y.2.1, y.2.2, by rw [bl_t.2 (show Bnd (sds rl) u v from .inr (fun e => by rw [e] at hgx; have hz := congrArg List.length hgx; rw [List.length_map] at hz; exact absurd hz (by show ¬ (gxs.length = 0); omega)))] <;> rfl, fun _ => firstM_most (by omega) hgx hy⟩)
  ·intro hStop
   exfalso; omega
end Go.Proofs.YtncjabmlkgacdaaGreat.Sp
namespace Go.Proofs.YtncjabmlkgacdaaGreat.Sp
open Go Go.TH
attribute [local irreducible] W WO pt
set_option maxRecDepth 10000
set_option maxHeartbeats 2000000
def leE (l : List Rn) (p q : Int) : Int := if chkA l p q ≠ 0 then chkA l p q else if Dbt (sds l) then 20 else if Bnd (sds l) p q then 0 else 5
theorem leE_1 {l : List Rn} {p q : Int} (h : chkA l p q ≠ 0) : leE l p q = chkA l p q := by unfold leE; rw [if_pos h]
theorem leE_20 {l : List Rn} {p q : Int} (h : ¬ chkA l p q ≠ 0) (g : Dbt (sds l)) : leE l p q = 20 := by unfold leE; rw [if_neg h, if_pos g]
theorem leE_5 {l : List Rn} {p q : Int} (h : ¬ chkA l p q ≠ 0) (g : ¬ Dbt (sds l)) (b : ¬ Bnd (sds l) p q) : leE l p q = 5 := by unfold leE; rw [if_neg h, if_neg g, if_neg b]
theorem leE_0 {l : List Rn} {p q : Int} (h : ¬ chkA l p q ≠ 0) (g : ¬ Dbt (sds l)) (b : Bnd (sds l) p q) : leE l p q = 0 := by unfold leE; rw [if_neg h, if_neg g, if_pos b]
def BestR (l : List Rn) (p q : Int) (r : Value) : Prop := ∃ (m : Option Nat) (s : Sd) (t : Int), r = .tuple #[mdV (.map m) s t, .int .i64 (leE l p q)] ∧ (leE l p q = 0 → MostI (sds l) p q (s, t))
theorem c_best (w : World) (v : Value) (l : List Rn) (p q : Int) (hR : RdF encRn 4 w.heap.size w v l) : RetE Tryz.prog 51 [v, .int .i64 p, .int .i64 q].toArray w (BestR l p q) := by
 refine RetE.of mixed tyTab Tryz.func51 rfl rfl ?_
 replace hR : RdF encRn 4 (fnCx mixed tyTab Tryz.f51.ntmps w).B (fnCx mixed tyTab Tryz.f51.ntmps w).w0 v l := hR
 refine W.sreg (WO.alloc rfl rfl rfl (fun b1 hb1 => (WO.p rfl rfl (WO.nil (W.seq (W.sreg (WO.p rfl rfl (WO.p rfl rfl (WO.p rfl rfl (WO.callR rfl Tryz.call108 (fun L w hi => c_check w v l p q (hR.later hi)) rfl (WO.p rfl rfl (WO.nil (W.sreg (WO.p rfl rfl (WO.p rfl rfl (WO.nil ?_))))))))))))))))
 refine W.cond_bl rfl (fun c1 => ?_) (fun c1 => ?_)
 ·refine W.sreg (WO.build rfl rfl rfl rfl rfl (WO.p rfl rfl (WO.storeA rfl rfl rfl rfl Pick.head rfl rfl (WO.p rfl rfl (WO.nil (W.ret ?_))))))
  first
  | exact fin.ret (Res.two rfl (RV.cell rfl rfl rfl (Cells.own (by repeat exact .head))) (RV.tmp rfl)) ⟨none, sd0, 0, by rw [leE_1 (by assumption)] <;> rfl, fun e => by rw [leE_1 (by assumption)] at e; omega⟩
  | exact fin.ret (Res.two rfl (RV.cell rfl rfl rfl (Cells.own (by repeat first | exact .head | apply Pick.tail))) (RV.tmp rfl)) ⟨none, sd0, 0, by rw [leE_20 (by assumption) (by assumption)] <;> rfl, fun e => by rw [leE_20 (by assumption) (by assumption)] at e; omega⟩
  | exact fin.ret (Res.two rfl (RV.cell rfl rfl rfl (Cells.own (by repeat first | exact .head | apply Pick.tail))) (RV.tmp rfl)) ⟨none, sd0, 0, by rw [leE_5 (by assumption) (by assumption) (by assumption)] <;> rfl, fun e => by rw [leE_5 (by assumption) (by assumption) (by assumption)] at e; omega⟩
  | exact fin.ret (Res.two rfl (RV.cell rfl rfl rfl (Cells.own (by repeat first | exact .head | apply Pick.tail))) (RV.tmp rfl)) ⟨mq, ms, mt, by rw [leE_0 (by assumption) (by assumption) (by assumption)], fun _ => hms (by assumption)⟩
 ·refine W.skip (W.sreg (WO.p rfl rfl ?_))
  have hrs := chkRs0.1 (chkA0.1 (show chkA l p q = 0 by omega)).1
  have hpq := (chkA0.1 (show chkA l p q = 0 by omega)).2
  refine WO.call (Post := fun u Hq => ∃ (b : Nat) (rv sv : Value), u = .pointer (some ⟨b, 0, none⟩) ∧ Hq = [pt b (.cells #[rv, sv] 179 (0, 0)), OwE encPr 181 10 rv l, OwE encSd 96 3 sv (sds l)]) rfl Tryz.call37 (fun L w hi => c_newTable w v l (hR.later hi) hrs.2 hrs.1) rfl ?_
  rintro _ _ ⟨tb, rv, sv, rfl, rfl⟩
  refine WO.p rfl rfl (WO.nil (W.seq (W.sreg (WO.p rfl rfl (WO.call (Post := fun u Hq => ∃ mb : Nat, u = .tuple #[mdV (.map (dbQ (sds l) mb)) (dbS (sds l)) (dbT (sds l)), .bool (bl (Dbt (sds l)))] ∧ Hq = [dbP (sds l) mb]) rfl Tryz.call38 (fun L w hi => c_doubt w ⟨tb, 0, none⟩ rv sv l (Tbl.own (b := tb) (by repeat exact .head) (by repeat first | exact .head | apply Pick.tail) (by repeat first | exact .head | apply Pick.tail) hi) hrs.2 hrs.1) rfl ?_)))))
  rintro _ _ ⟨mb, rfl, rfl⟩
  refine WO.p rfl rfl (WO.p rfl rfl (WO.extract (i := 1) rfl rfl rfl (WO.alloc rfl rfl rfl (fun b2 hb2 => (WO.storeA rfl rfl rfl rfl Pick.head rfl rfl (WO.p rfl rfl (WO.nil (W.sreg (WO.p rfl rfl (WO.nil ?_))))))))))
  refine W.cond_bl rfl (fun c2 => ?_) (fun c2 => ?_)
  ·refine W.sreg (WO.build rfl rfl rfl rfl rfl (WO.storeA rfl rfl rfl rfl (Pick.tail (Pick.tail (Pick.tail (Pick.tail (Pick.tail (Pick.head)))))) rfl rfl (WO.p rfl rfl (WO.nil (W.ret ?_)))))
   first
   | exact fin.ret (Res.two rfl (RV.cell rfl rfl rfl (Cells.own (by repeat exact .head))) (RV.tmp rfl)) ⟨none, sd0, 0, by rw [leE_1 (by assumption)] <;> rfl, fun e => by rw [leE_1 (by assumption)] at e; omega⟩
   | exact fin.ret (Res.two rfl (RV.cell rfl rfl rfl (Cells.own (by repeat exact .head))) (RV.tmp rfl)) ⟨none, sd0, 0, by rw [leE_20 (by assumption) (by assumption)] <;> rfl, fun e => by rw [leE_20 (by assumption) (by assumption)] at e; omega⟩
   | exact fin.ret (Res.two rfl (RV.cell rfl rfl rfl (Cells.own (by repeat first | exact .head | apply Pick.tail))) (RV.tmp rfl)) ⟨none, sd0, 0, by rw [leE_5 (by assumption) (by assumption) (by assumption)] <;> rfl, fun e => by rw [leE_5 (by assumption) (by assumption) (by assumption)] at e; omega⟩
   | exact fin.ret (Res.two rfl (RV.cell rfl rfl rfl (Cells.own (by repeat first | exact .head | apply Pick.tail))) (RV.tmp rfl)) ⟨mq, ms, mt, by rw [leE_0 (by assumption) (by assumption) (by assumption)], fun _ => hms (by assumption)⟩
  ·refine W.skip (W.sreg (WO.p rfl rfl (WO.p rfl rfl (WO.p rfl rfl (WO.callE rfl Tryz.call109 (fun L w hi => c_most w ⟨tb, 0, none⟩ rv sv l (Tbl.own (b := tb) (by repeat first | exact .head | apply Pick.tail) (by repeat first | exact .head | apply Pick.tail) (by repeat first | exact .head | apply Pick.tail) hi) hrs.2 hrs.1 p q hpq.1 hpq.2) rfl ?_)))))
   rintro _ ⟨mq, ms, mt, rfl, hms⟩
   refine WO.p rfl rfl (WO.p rfl rfl (WO.extract (i := 1) rfl rfl rfl (WO.alloc rfl rfl rfl (fun b3 hb3 => (WO.storeA rfl rfl rfl rfl Pick.head rfl rfl (WO.p rfl rfl (WO.nil (W.seq (W.sreg (WO.p rfl rfl (WO.p rfl rfl (WO.nil ?_))))))))))))
   refine W.cond_nbl rfl (fun c3 => ?_) (fun c3 => ?_)
   ·refine W.sreg (WO.build rfl rfl rfl rfl rfl (WO.storeA rfl rfl rfl rfl (Pick.tail (Pick.tail (Pick.tail (Pick.tail (Pick.tail (Pick.tail (Pick.head))))))) rfl rfl (WO.p rfl rfl (WO.nil (W.ret ?_)))))
    first
    | exact fin.ret (Res.two rfl (RV.cell rfl rfl rfl (Cells.own (by repeat exact .head))) (RV.tmp rfl)) ⟨none, sd0, 0, by rw [leE_1 (by assumption)] <;> rfl, fun e => by rw [leE_1 (by assumption)] at e; omega⟩
    | exact fin.ret (Res.two rfl (RV.cell rfl rfl rfl (Cells.own (by repeat exact .head))) (RV.tmp rfl)) ⟨none, sd0, 0, by rw [leE_20 (by assumption) (by assumption)] <;> rfl, fun e => by rw [leE_20 (by assumption) (by assumption)] at e; omega⟩
    | exact fin.ret (Res.two rfl (RV.cell rfl rfl rfl (Cells.own (by repeat exact .head))) (RV.tmp rfl)) ⟨none, sd0, 0, by rw [leE_5 (by assumption) (by assumption) (by assumption)] <;> rfl, fun e => by rw [leE_5 (by assumption) (by assumption) (by assumption)] at e; omega⟩
    | exact fin.ret (Res.two rfl (RV.cell rfl rfl rfl (Cells.own (by repeat first | exact .head | apply Pick.tail))) (RV.tmp rfl)) ⟨mq, ms, mt, by rw [leE_0 (by assumption) (by assumption) (by assumption)], fun _ => hms (by assumption)⟩
   ·refine W.skip (W.sreg (WO.loadA rfl rfl (Cells.own Pick.head) rfl rfl (WO.storeA rfl rfl rfl rfl (Pick.tail (Pick.tail (Pick.tail (Pick.tail (Pick.tail (Pick.tail (Pick.head))))))) rfl rfl (WO.p rfl rfl (WO.nil (W.ret ?_))))))
    first
    | exact fin.ret (Res.two rfl (RV.cell rfl rfl rfl (Cells.own (by repeat exact .head))) (RV.tmp rfl)) ⟨none, sd0, 0, by rw [leE_1 (by assumption)] <;> rfl, fun e => by rw [leE_1 (by assumption)] at e; omega⟩
    | exact fin.ret (Res.two rfl (RV.cell rfl rfl rfl (Cells.own (by repeat exact .head))) (RV.tmp rfl)) ⟨none, sd0, 0, by rw [leE_20 (by assumption) (by assumption)] <;> rfl, fun e => by rw [leE_20 (by assumption) (by assumption)] at e; omega⟩
    | exact fin.ret (Res.two rfl (RV.cell rfl rfl rfl (Cells.own (by repeat exact .head))) (RV.tmp rfl)) ⟨none, sd0, 0, by rw [leE_5 (by assumption) (by assumption) (by assumption)] <;> rfl, fun e => by rw [leE_5 (by assumption) (by assumption) (by assumption)] at e; omega⟩
    | exact fin.ret (Res.two rfl (RV.cell rfl rfl rfl (Cells.own (by repeat exact .head))) (RV.tmp rfl)) ⟨mq, ms, mt, by rw [leE_0 (by assumption) (by assumption) (by assumption)], fun _ => hms (by assumption)⟩
def LeastR (l : List Rn) (p q : Int) (r : Value) : Prop := ∃ x : Int × Int, r = .tuple #[raV x, .int .i64 (leE l p q)] ∧ (leE l p q = 0 → ∃ y : Sd × Int, MostI (sds l) p q y ∧ x = red y.1.c y.2)
theorem leE_ok {l : List Rn} {p q : Int} (h : leE l p q = 0) : OkRs l ∧ l.length ≤ 12 ∧ OkN p ∧ OkN q ∧ ¬ Dbt (sds l) ∧ Bnd (sds l) p q := by
 unfold leE at h
 split at h
 ·omega
 ·rename_i h1
  obtain ⟨h2, h3⟩ := chkA0.1 (show chkA l p q = 0 by omega)
  obtain ⟨h4, h5⟩ := chkRs0.1 h2
  split at h
  ·omega
  ·split at h
   ·exact ⟨h5, h4, h3.1, h3.2, by assumption, by assumption⟩
   ·omega
theorem c_Least (w : World) (v : Value) (l : List Rn) (p q : Int) (hR : RdF encRn 4 w.heap.size w v l) : RetE Tryz.prog 20 [v, .int .i64 p, .int .i64 q].toArray w (LeastR l p q) := by
 refine RetE.of mixed tyTab Tryz.func20 rfl rfl ?_
 replace hR : RdF encRn 4 (fnCx mixed tyTab Tryz.f20.ntmps w).B (fnCx mixed tyTab Tryz.f20.ntmps w).w0 v l := hR
 refine W.sreg (WO.alloc rfl rfl rfl (fun b1 hb1 => (WO.p rfl rfl (WO.nil (W.sreg (WO.p rfl rfl (WO.p rfl rfl (WO.p rfl rfl (WO.callE rfl Tryz.call51 (fun L w hi => c_best w v l p q (hR.later hi)) rfl ?_)))))))))
 rintro _ ⟨mq, ms, mt, rfl, hms⟩
 refine WO.p rfl rfl (WO.p rfl rfl (WO.p rfl rfl (WO.alloc rfl rfl rfl (fun b2 hb2 => (WO.storeA rfl rfl rfl rfl Pick.head rfl rfl (WO.p rfl rfl (WO.nil (W.seq (W.sreg (WO.p rfl rfl (WO.p rfl rfl (WO.nil ?_))))))))))))
 refine W.cond_bl rfl (fun c1 => ?_) (fun c1 => ?_)
 ·refine W.sreg (WO.build rfl rfl rfl rfl rfl (WO.p rfl rfl (WO.storeA rfl rfl rfl rfl (Pick.tail (Pick.head)) rfl rfl (WO.p rfl rfl (WO.nil (W.ret ?_))))))
  first
  | exact fin.ret (Res.two rfl (RV.cell rfl rfl rfl (Cells.own (by repeat exact .head))) (RV.tmp rfl)) ⟨(0, 0), rfl, fun e => by omega⟩
  | exact fin.ret (Res.two rfl (RV.cell rfl rfl rfl (Cells.own (by repeat first | exact .head | apply Pick.tail))) (RV.tmp rfl)) ⟨red ms.c mt, by rw [show leE l p q = 0 by omega], fun _ => ⟨(ms, mt), hm, rfl⟩⟩
 ·refine W.skip (W.sreg (WO.loadA rfl rfl (Cells.own Pick.head) rfl rfl ?_))
  have hle := leE_ok (show leE l p q = 0 by omega)
  have hm := hms (by omega)
  refine WO.callR rfl Tryz.call52 (fun L w hi => c_boundQ w mq ms mt (hm.ok hle.1 hle.2.2.1 hle.2.2.2.1)) rfl (WO.storeA rfl rfl rfl rfl (Pick.tail (Pick.head)) rfl rfl (WO.p rfl rfl (WO.nil (W.ret ?_))))
  first
  | exact fin.ret (Res.two rfl (RV.cell rfl rfl rfl (Cells.own (by repeat exact .head))) (RV.tmp rfl)) ⟨(0, 0), rfl, fun e => by omega⟩
  | exact fin.ret (Res.two rfl (RV.cell rfl rfl rfl (Cells.own (by repeat exact .head))) (RV.tmp rfl)) ⟨red ms.c mt, by rw [show leE l p q = 0 by omega], fun _ => ⟨(ms, mt), hm, rfl⟩⟩
end Go.Proofs.YtncjabmlkgacdaaGreat.Sp
namespace Go.Proofs.YtncjabmlkgacdaaGreat.Sp
open Go Go.TH
section
variable {S : List Sd} {p q : Int}
def FitC (S : List Sd) (t : Tru) : Prop := t ∈ crnS S ∧ ∀ k ∈ S, fitS k t
theorem line_att (hN : ¬ Dbt S) (hn : ∀ s ∈ S, s.a ≠ 0 ∨ s.b ≠ 0) (hS : ∀ s ∈ S, ∃ o ∈ S, o.a = -s.a ∧ o.b = -s.b) (hw : p ≠ 0 ∨ q ≠ 0) {b : Sd} (hb : b ∈ S) (hf1 : b.a * siz (wS p q) = p * siz b) (hf2 : b.b * siz (wS p q) = q * siz b) (hmax : ∀ y ∈ mstA S p q, y.1.c * siz b ≤ b.c * siz (wS p q) * y.2) :
 ∃ t, FitC S t ∧ (p * t.a + q * t.b) * siz b = b.c * siz (wS p q) * t.d := by
 have key : ∀ t : Tru, b.a * t.a + b.b * t.b = b.c * t.d → (p * t.a + q * t.b) * siz b = b.c * siz (wS p q) * t.d := fun t h => by
  have e : (p * t.a + q * t.b) * siz b = p * siz b * t.a + q * siz b * t.b := by grind
  rw [e, ← hf1, ← hf2]
  have e2 : b.a * siz (wS p q) * t.a + b.b * siz (wS p q) * t.b = (b.a * t.a + b.b * t.b) * siz (wS p q) := by grind
  rw [e2, h]; grind
 rcases line_fit hN hn hS hw hb hf1 hf2 hmax with ⟨j, hj, hd, hfit⟩ | hfit
 ·refine ⟨cnr b j, ⟨crn_mem hb hj hd, hfit⟩, key _ ?_⟩
  rw [cnr_val]
  show crs b j * b.c + crs b b * j.c = b.c * crs b j
  unfold crs; grind
 ·refine ⟨foot b, ⟨foot_mem hb, hfit⟩, key _ ?_⟩
  show b.a * (b.a * b.c) + b.b * (b.b * b.c) = b.c * sq b
  unfold sq; grind
theorem par_att (hN : ¬ Dbt S) (hn : ∀ s ∈ S, s.a ≠ 0 ∨ s.b ≠ 0) (hS : ∀ s ∈ S, ∃ o ∈ S, o.a = -s.a ∧ o.b = -s.b) (hw : p ≠ 0 ∨ q ≠ 0) {b : Sd} (hb : b ∈ S) {d e : Int} (hd : 0 < d) (he : 0 < e) (h1 : p * d = b.a * e) (h2 : q * d = b.b * e) (hmax : ∀ y ∈ mstA S p q, y.1.c * d ≤ e * b.c * y.2) :
 ∃ t, FitC S t ∧ (p * t.a + q * t.b) * d = e * b.c * t.d := by
 have hbp := siz_pos (hn b hb)
 have hs : siz (wS p q) * d = siz b * e := siz_same (a := b) (k := wS p q) (by omega) (by omega) h1 h2
 have can : ∀ x y : Int, x * d = y * d → x = y := fun x y h => by
  have := mul_cancel0 (x := x - y) hd (by rw [Int.sub_mul]; omega)
  omega
 have f1 : b.a * siz (wS p q) = p * siz b := can _ _ (by
  have e1 : b.a * siz (wS p q) * d = b.a * (siz (wS p q) * d) := by grind
  have e2 : p * siz b * d = p * d * siz b := by grind
  rw [e1, hs, e2, h1]; grind)
 have f2 : b.b * siz (wS p q) = q * siz b := can _ _ (by
  have e1 : b.b * siz (wS p q) * d = b.b * (siz (wS p q) * d) := by grind
  have e2 : q * siz b * d = q * d * siz b := by grind
  rw [e1, hs, e2, h2]; grind)
 obtain ⟨t, ht, hv⟩ := line_att hN hn hS hw hb f1 f2 (fun y hy => by
  have h3 := Int.mul_le_mul_of_nonneg_right (hmax y hy) (Int.le_of_lt hbp)
  have e1 : y.1.c * d * siz b = y.1.c * siz b * d := by grind
  have e2 : e * b.c * y.2 * siz b = b.c * (siz b * e) * y.2 := by grind
  rw [e1, e2, ← hs] at h3
  have e3 : b.c * (siz (wS p q) * d) * y.2 = b.c * siz (wS p q) * y.2 * d := by grind
  rw [e3] at h3
  rcases Int.lt_or_le (b.c * siz (wS p q) * y.2) (y.1.c * siz b) with g | g
  ·have := Int.mul_lt_mul_of_pos_right g hd; omega
  ·exact g)
 refine ⟨t, ht, ?_⟩
 have e1 : (p * t.a + q * t.b) * d * siz b = (p * t.a + q * t.b) * siz b * d := by grind
 have e2 : e * b.c * t.d * siz b = b.c * (siz b * e) * t.d := by grind
 have e3 : b.c * siz (wS p q) * t.d * d = b.c * (siz (wS p q) * d) * t.d := by grind
 have e4 : (p * t.a + q * t.b) * d * siz b = e * b.c * t.d * siz b := by rw [e1, hv, e2, ← hs, e3]
 have := mul_cancel0 (x := (p * t.a + q * t.b) * d - e * b.c * t.d) hbp (by rw [Int.sub_mul]; omega)
 omega
theorem att_w (hN : ¬ Dbt S) (hn : ∀ s ∈ S, s.a ≠ 0 ∨ s.b ≠ 0) (hS : ∀ s ∈ S, ∃ o ∈ S, o.a = -s.a ∧ o.b = -s.b) (hw : p ≠ 0 ∨ q ≠ 0) {y : Sd × Int} (hy : y ∈ mstA S p q) (hmax : ∀ z ∈ mstA S p q, ¬ gtM z y) : ∃ t, FitC S t ∧ (p * t.a + q * t.b) * y.2 = y.1.c * t.d := by
 have hm : ∀ z ∈ mstA S p q, z.1.c * y.2 ≤ y.1.c * z.2 := fun z hz => by
  have := hmax z hz
  unfold gtM at this; omega
 rcases mst_inv hy with ⟨s, hs, hf, h1, h2, h3, h4⟩ | ⟨a, ha, b, hb, hd, hx, hz, h1, h2, h3, h4⟩
 ·have k1 : s.a * siz (wS p q) + p * -(siz s) = 0 := hf.2.1
  have k2 : s.b * siz (wS p q) + q * -(siz s) = 0 := hf.2.2
  rw [Int.mul_neg] at k1 k2
  obtain ⟨t, ht, hv⟩ := line_att hN hn hS hw hs (by omega) (by omega) (fun z hz => by rw [← h1, ← h2]; exact hm z hz)
  exact ⟨t, ht, by rw [h1, h2]; exact hv⟩
 ·rw [h2] at hm
  have la := lin_a a b (wS p q)
  have lb := lin_b a b (wS p q)
  have la' : p * crs a b = crs (wS p q) b * a.a + crs a (wS p q) * b.a := la
  have lb' : q * crs a b = crs (wS p q) b * a.b + crs a (wS p q) * b.b := lb
  rcases Int.lt_or_le 0 (crs (wS p q) b) with g1 | g1
  ·rcases Int.lt_or_le 0 (crs a (wS p q)) with g2 | g2
   ·refine ⟨cnr a b, ⟨crn_mem ha hb hd, cnr_fit hN hn ha hb hd g1 g2 (fun z hz => by rw [← h1]; exact hm z hz)⟩, ?_⟩
    have hv := cnr_val a b (wS p q)
    have hv' : p * (cnr a b).a + q * (cnr a b).b = crs (wS p q) b * a.c + crs a (wS p q) * b.c := hv
    rw [hv', h1, h2]; rfl
   ·have z0 : crs a (wS p q) = 0 := by omega
    rw [z0, Int.zero_mul, Int.add_zero] at la' lb' h1
    obtain ⟨t, ht, hv⟩ := par_att hN hn hS hw ha hd g1 (by rw [la', Int.mul_comm]) (by rw [lb', Int.mul_comm]) (fun z hz => by rw [← h1]; exact hm z hz)
    exact ⟨t, ht, by rw [h1, h2]; exact hv⟩
  ·have z0 : crs (wS p q) b = 0 := by omega
   rw [z0, Int.zero_mul, Int.zero_add] at la' lb' h1
   have g2 : 0 < crs a (wS p q) := by
    rcases Int.lt_or_le 0 (crs a (wS p q)) with g | g
    ·exact g
    ·have z1 : crs a (wS p q) = 0 := by omega
     rw [z1, Int.zero_mul] at la' lb'
     rcases hw with h | h
     ·exact absurd (mul_cancel0 hd la') h
     ·exact absurd (mul_cancel0 hd lb') h
   obtain ⟨t, ht, hv⟩ := par_att hN hn hS hw hb hd g2 (by rw [la', Int.mul_comm]) (by rw [lb', Int.mul_comm]) (fun z hz => by rw [← h1]; exact hm z hz)
   exact ⟨t, ht, by rw [h1, h2]; exact hv⟩
theorem fit_ex (hN : ¬ Dbt S) (hn : ∀ s ∈ S, s.a ≠ 0 ∨ s.b ≠ 0) (hS : ∀ s ∈ S, ∃ o ∈ S, o.a = -s.a ∧ o.b = -s.b) (h0 : S ≠ []) (hpos : ∀ p q, ∀ y ∈ mstA S p q, 0 < y.2) : ∃ t, FitC S t := by
 obtain ⟨s, hs⟩ := List.exists_mem_of_ne_nil S h0
 have e : siz (wS s.a s.b) = siz s := rfl
 obtain ⟨y, hy, _⟩ := cand_one (p := s.a) (q := s.b) hs ⟨by show s.a * s.b - s.b * s.a = 0; rw [Int.mul_comm]; omega, by rw [e]; show s.a * siz s + s.a * -(siz s) = 0; rw [Int.mul_neg]; omega, by rw [e]; show s.b * siz s + s.b * -(siz s) = 0; rw [Int.mul_neg]; omega⟩
 obtain ⟨m, hm, hx⟩ := max_frac (fun y : Sd × Int => y.1.c) (fun y => y.2) (mstA S s.a s.b) (List.ne_nil_of_mem hy) (hpos _ _)
 obtain ⟨t, ht, _⟩ := att_w hN hn hS (hn s hs) hm (fun z hz => by have := hx z hz; unfold gtM; omega)
 exact ⟨t, ht⟩
end
theorem att_ex {l : List Rn} {p q : Int} (h : leE l p q = 0) (h0 : l ≠ []) {y : Sd × Int} (hm : MostI (sds l) p q y) : ∃ t, FitC (sds l) t ∧ (p * t.a + q * t.b) * y.2 = y.1.c * t.d := by
 obtain ⟨h1, h2, h3, h4, h5, h6⟩ := leE_ok h
 have hn := sds_nz h1
 have hS : ∀ s ∈ sds l, ∃ o ∈ sds l, o.a = -s.a ∧ o.b = -s.b := fun s hs => by
  obtain ⟨r, hr, hm⟩ := List.mem_flatMap.1 hs
  have : s = loS r ∨ s = hiS r := by simpa using hm
  rcases this with rfl | rfl
  ·exact ⟨hiS r, List.mem_flatMap.2 ⟨r, hr, by simp⟩, rfl, rfl⟩
  ·exact ⟨loS r, List.mem_flatMap.2 ⟨r, hr, by simp⟩, by show r.p = - -r.p; omega, by show r.q = - -r.q; omega⟩
 have hs0 : sds l ≠ [] := fun e => by
  have := sds_len l
  rw [e] at this
  have := List.length_pos_iff.2 h0
  simp at *; omega
 rcases hm.mem with ⟨rfl, rfl, rfl⟩ | ⟨hpq, hy⟩
 ·obtain ⟨t, ht⟩ := fit_ex h5 hn hS hs0 (fun p q y hy => by
   obtain ⟨g, hg, hx⟩ := List.mem_flatMap.1 hy
   unfold mstL at hx
   cases e : mstG (sds l) p q g with
   | none => rw [e] at hx; simp at hx
   | some x =>
    rw [e] at hx
    obtain rfl : y = (tkS (sds l) g x.1 g.length, x.2) := by simpa using hx
    exact mst_pos hn (grp_ok (m := 2) (by omega) hg).1 e)
  exact ⟨t, ht, by simp [sd0]⟩
 ·exact att_w h5 hn hS (by omega) hy (fun z hz => hm.max z hz hpq)
theorem crn_ok {l : List Rn} (h : OkRs l) {t : Tru} (ht : t ∈ crnS (sds l)) : OkT t := by
 have hS := sds_ok h
 have hn := sds_nz h
 obtain ⟨i, _, hi, hm⟩ := mem_seg.1 ht
 have si : OkS 20 100000 (sAt (sds l) i) := hS _ (getD_mem hi sd0)
 have ni : (sAt (sds l) i).a ≠ 0 ∨ (sAt (sds l) i).b ≠ 0 := hn _ (getD_mem hi sd0)
 have m3 := mul_bd si.a si.c
 have m4 := mul_bd si.b si.c
 have m1 := mul_bd si.a si.a
 have m2 := mul_bd si.b si.b
 have cb : ∀ a b : Sd, OkS 20 100000 a → OkS 20 100000 b → 0 < crs a b → OkT (cnr a b) := fun a b ha hb hd => by
  have c1 := crs_bd (ha.up (A' := 20) (B' := 1000000) (by omega) (by omega)) (hb.up (A' := 20) (B' := 1000000) (by omega) (by omega))
  have n1 := mul_bd ha.c hb.b
  have n2 := mul_bd hb.c ha.b
  have n3 := mul_bd ha.a hb.c
  have n4 := mul_bd hb.a ha.c
  exact ⟨by unfold cnr; dsimp only; omega, by unfold cnr; dsimp only; omega, by unfold cnr; dsimp only; omega⟩
 unfold cI at hm
 rcases List.mem_cons.1 hm with rfl | hm
 ·have := sq_pos ni
  unfold sq at this
  exact ⟨by unfold foot sq; dsimp only; omega, by unfold foot; dsimp only; omega, by unfold foot; dsimp only; omega⟩
 ·obtain ⟨j, _, hj, hm⟩ := mem_seg.1 hm
  have sj : OkS 20 100000 (sAt (sds l) j) := hS _ (getD_mem (show j < (sds l).length by omega) sd0)
  unfold cJ at hm
  split at hm
  ·simp at hm
  ·rename_i hz
   have ht : t = if crs (sAt (sds l) i) (sAt (sds l) j) < 0 then cnr (sAt (sds l) j) (sAt (sds l) i) else cnr (sAt (sds l) i) (sAt (sds l) j) := by simpa using hm
   rw [ht]
   split
   ·exact cb _ _ sj si (by rw [crs_anti]; omega)
   ·exact cb _ _ si sj (by omega)
end Go.Proofs.YtncjabmlkgacdaaGreat.Sp
namespace Go.Proofs.YtncjabmlkgacdaaGreat.Sp
open Go Go.TH
theorem gcd2_int (n : Int) {d : Int} (hd : 0 < d) : gcd2 (ab n) d = (Int.gcd n d : Int) := by
 unfold gcd2 Int.gcd
 have h1 : (ab n).toNat = n.natAbs := by unfold ab; omega
 have h2 : d.toNat = d.natAbs := by omega
 rw [h1, h2]
theorem red_cop (n : Int) {d : Int} (hd : 0 < d) : Int.gcd (red n d).1 (red n d).2 = 1 := by
 have hg := gcd2_int n hd
 have hp : 0 < Int.gcd n d := by
  have := gcd2_pos (a := ab n) hd
  rw [hg] at this; omega
 obtain ⟨x, hx⟩ := Int.gcd_dvd_left (a := n) (b := d)
 obtain ⟨y, hy⟩ := Int.gcd_dvd_right (a := n) (b := d)
 have e : red n d = (n / (Int.gcd n d : Int), d / (Int.gcd n d : Int)) := by
  unfold red
  rw [hg, Int.tdiv_eq_ediv_of_dvd ⟨x, hx⟩, Int.tdiv_eq_ediv_of_dvd ⟨y, hy⟩]
 rw [e]
 exact Int.gcd_ediv_gcd_ediv_gcd hp
theorem cop_dvd {a b c x : Int} (hg : Int.gcd a b = 1) (h : a * c = x * b) : b ∣ c := by
 have n1 : a.natAbs * c.natAbs = x.natAbs * b.natAbs := by rw [← Int.natAbs_mul, ← Int.natAbs_mul, h]
 have k : b.natAbs ∣ a.natAbs * c.natAbs := by rw [n1]; exact Nat.dvd_mul_left _ _
 have hc : Nat.Coprime b.natAbs a.natAbs := by
  have : Nat.gcd a.natAbs b.natAbs = 1 := hg
  rw [Nat.gcd_comm] at this
  exact this
 exact Int.natAbs_dvd_natAbs.1 (hc.dvd_of_dvd_mul_left k)
theorem red_eqZ {n d m e : Int} (hd : 0 < d) (he : 0 < e) (h : n * e = m * d) : red n d = red m e := by
 obtain ⟨g, hg, h1, h2, h3, _⟩ := red_parts n hd
 obtain ⟨k, hk, h4, h5, h6, _⟩ := red_parts m he
 have c1 := red_cop n hd
 have c2 := red_cop m he
 generalize red n d = u at *
 generalize red m e = v at *
 have hx : u.1 * v.2 = v.1 * u.2 := by
  have e1 : (u.1 * v.2) * (g * k) = (v.1 * u.2) * (g * k) := by
   have : n * e = u.1 * g * (v.2 * k) := by rw [h1, h5]
   have : m * d = v.1 * k * (u.2 * g) := by rw [h4, h2]
   grind
  exact Int.eq_of_mul_eq_mul_right (Int.ne_of_gt (Int.mul_pos hg hk)) e1
 have d1 : u.2 ∣ v.2 := cop_dvd c1 hx
 have d2 : v.2 ∣ u.2 := cop_dvd c2 hx.symm
 have e2 : u.2 = v.2 := Int.le_antisymm (Int.le_of_dvd h6 d1) (Int.le_of_dvd h3 d2)
 rw [e2] at hx
 have e1 : u.1 = v.1 := Int.eq_of_mul_eq_mul_right (by omega) hx
 exact Prod.ext e1 e2
end Go.Proofs.YtncjabmlkgacdaaGreat.Sp
namespace Go.Proofs.YtncjabmlkgacdaaGreat.Sp
open Go Go.TH
attribute [local irreducible] W WO pt
set_option maxRecDepth 10000
set_option maxHeartbeats 1000000
theorem chkA_0 {l : List Rn} {p q : Int} (h : chkRs l = 0) (hp : OkN p) (hq : OkN q) : chkA l p q = 0 := by unfold chkA; rw [if_neg (by omega), if_pos ⟨hp, hq⟩]
end Go.Proofs.YtncjabmlkgacdaaGreat.Sp
namespace Go.Proofs.YtncjabmlkgacdaaGreat
open Go Go.TH Sp
set_option maxRecDepth 10000
theorem red_one (n : Int) : red n 1 = (n, 1) := by
  obtain ⟨g, hg, h1, h2, h3, h4, _⟩ := red_parts n (show (0 : Int) < 1 by omega)
  have e2 : (red n 1).2 = 1 := by omega
  rw [e2, Int.one_mul] at h2
  rw [← h2, Int.mul_one] at h1
  exact Prod.ext h1.symm e2
/-- the least value is that of a truth which no other one that fits undercuts -/
theorem least_at {l : List Rn} {p q : Int} (h : leE l p q = 0) (h0 : l ≠ []) {y : Sd × Int} (hm : MostI (sds l) p q y) {a b : Int} (hf : fitL l ⟨a, b, 1⟩) (hl : ∀ t : Tru, 0 < t.d → fitL l t → (p * a + q * b) * t.d ≤ p * t.a + q * t.b) : red y.1.c y.2 = (p * a + q * b, 1) := by
  obtain ⟨h1, h2, h3, h4, h5, h6⟩ := leE_ok h
  have hy := (hm.ok h1 h3 h4).t
  obtain ⟨t, ⟨htm, hts⟩, hv⟩ := att_ex h h0 hm
  have htd : 0 < t.d := by have := (crn_ok h1 htm).d; omega
  have hle := hl t htd (fitL_iff.2 hts)
  -- the bound is not above the value of the truth
  have hw : y.1.c * 1 ≤ (p * a + q * b) * y.2 := by
    rcases hm.mem with ⟨rfl, rfl, rfl⟩ | ⟨_, hy2⟩
    · simp [sd0]
    · exact mst_weak hy2 (t := ⟨a, b, 1⟩) (fitL_iff.1 hf)
  rw [← red_one (p * a + q * b)]
  refine red_eqZ hy.1 (by omega) ?_
  rw [Int.mul_one] at hw ⊢
  have k1 := Int.mul_le_mul_of_nonneg_right hle (Int.le_of_lt hy.1)
  rw [hv] at k1
  have e1 : (p * a + q * b) * t.d * y.2 = (p * a + q * b) * y.2 * t.d := by grind
  rw [e1] at k1
  have k2 : (p * a + q * b) * y.2 ≤ y.1.c := by
    rcases Int.lt_or_le y.1.c ((p * a + q * b) * y.2) with g | g
    · have := Int.mul_lt_mul_of_pos_right g htd; omega
    · exact g
  omega
/-- the error of Least: there is none, if a truth fits, and the value is bounded -/
theorem le_zero {l : List Rn} {p q : Int} (h : chkRs l = 0) (hp : OkN p) (hq : OkN q) {t : Tru} (ht : 0 < t.d) (hf : fitL l t) (hb : Bnd (sds l) p q) : leE l p q = 0 :=
  leE_0 (by rw [chkA_0 h hp hq]; omega) (fun hd => hd.no ht (fitL_iff.1 hf)) hb
theorem bnd_pair {S : List Sd} {p q : Int} {a b : Sd} (ha : a ∈ S) (hb : b ∈ S) (hd : 0 < crs a b) (hx : 0 ≤ crs (wS p q) b) (hy : 0 ≤ crs a (wS p q)) : Bnd S p q := by
  obtain ⟨y, hy, _⟩ := cand_pair (p := p) (q := q) ha hb hd hx hy
  exact .inr (List.ne_nil_of_mem hy)
/-- two runs, of each unknown number one -/
def twoR (a b c d : Int) : List Rn := [⟨1, 0, a, b⟩, ⟨0, 1, c, d⟩]
theorem twoR_fit {a b c d : Int} {t : Tru} : fitL (twoR a b c d) t ↔ (a * t.d ≤ t.a ∧ t.a ≤ b * t.d) ∧ c * t.d ≤ t.b ∧ t.b ≤ d * t.d := by
  unfold fitL twoR fitR
  simp
theorem twoR_ok {a b c d : Int} (h1 : a ≤ b) (h2 : c ≤ d) (h3 : -100000 ≤ a) (h4 : b ≤ 100000) (h5 : -100000 ≤ c) (h6 : d ≤ 100000) : chkRs (twoR a b c d) = 0 :=
  chkRs0.2 ⟨by show 2 ≤ 12; omega, fun r hr => by
    have : r = ⟨1, 0, a, b⟩ ∨ r = ⟨0, 1, c, d⟩ := by simpa [twoR] using hr
    rcases this with rfl | rfl
    · exact ⟨by unfold OkN; dsimp only; omega, by unfold OkN; dsimp only; omega, .inl (by dsimp only; omega), h1, h3, h4⟩
    · exact ⟨by unfold OkN; dsimp only; omega, by unfold OkN; dsimp only; omega, .inr (by dsimp only; omega), h2, h5, h6⟩⟩
theorem twoR_lo {a b c d p q : Int} (hp : 0 ≤ p) (hq : 0 ≤ q) : Bnd (sds (twoR a b c d)) p q := by
  refine bnd_pair (a := ⟨1, 0, a⟩) (b := ⟨0, 1, c⟩) (by simp [twoR, sds, loS, hiS]) (by simp [twoR, sds, loS, hiS]) ?_ ?_ ?_
  · unfold crs; dsimp only; omega
  · unfold crs wS; dsimp only; omega
  · unfold crs wS; dsimp only; omega
theorem mul_le3 {p a t : Int} {d : Int} (hp : 0 ≤ p) (h : a * d ≤ t) : p * a * d ≤ p * t := by
  have := Int.mul_le_mul_of_nonneg_left h hp
  rwa [← Int.mul_assoc] at this
/-- the least value of a sum of both, each taken so often, not less often than never -/
theorem twoR_least {a b c d p q : Int} (h1 : a ≤ b) (h2 : c ≤ d) (h3 : -100000 ≤ a) (h4 : b ≤ 100000) (h5 : -100000 ≤ c) (h6 : d ≤ 100000) (hp : 0 ≤ p ∧ p ≤ 20) (hq : 0 ≤ q ∧ q ≤ 20) : leE (twoR a b c d) p q = 0 ∧ ∀ y, MostI (sds (twoR a b c d)) p q y → red y.1.c y.2 = (p * a + q * c, 1) := by
  have hf : fitL (twoR a b c d) ⟨a, c, 1⟩ := twoR_fit.2 (by dsimp only; omega)
  have h0 : leE (twoR a b c d) p q = 0 := le_zero (twoR_ok h1 h2 h3 h4 h5 h6) (by unfold OkN; omega) (by unfold OkN; omega) (t := ⟨a, c, 1⟩) (by dsimp only; omega) hf (twoR_lo hp.1 hq.1)
  refine ⟨h0, fun y hm => least_at h0 (by simp [twoR]) hm hf fun t htd ht => ?_⟩
  obtain ⟨⟨k1, _⟩, k2, _⟩ := twoR_fit.1 ht
  have m1 := mul_le3 hp.1 k1
  have m2 := mul_le3 hq.1 k2
  have e : (p * a + q * c) * t.d = p * a * t.d + q * c * t.d := by grind
  omega
end Go.Proofs.YtncjabmlkgacdaaGreat
namespace Go.TX
open Go Go.TH
noncomputable section
variable {ρ : Ren} {N : Nat} {env : Tr SV} {a : Act} {P : Program} {D : Nat → Prop} {st st' : St} {w : World}
def ptS (P : Program) (T : TypeId) (l : List SV) (o : Nat) : Option SV := match isAggB P T with
 | some true => match szv P T with
  | some n => subK l o n fun vs => some (.agg vs)
  | none => none
 | some false => nth l o
 | none => none
theorem ptS_ok {T : Nat} {l : List SV} {us : List Value} {o : Nat} {v : SV} (hl : RelL ρ l us) (h : ptS P T l o = some v) : ∃ u, (part T us.toArray o).run P w = .ok u w ∧ Rel ρ v u := by
 unfold ptS at h
 split at h
 ·rename_i hagg
  split at h
  ·rename_i n hn
   obtain ⟨h1, h2⟩ := subK_some h
   simp only [Option.some.injEq] at h2
   subst h2
   refine ⟨.agg ((us.drop o).take n).toArray, ?_, by rw [Rel]; exact ⟨_, (hl.drop o).take n, rfl⟩⟩
   simp only [part, Sem.run_bind, run_isAgg hagg, Result.andThen_ok, if_true, TH.run_sizeOf hn]
   simp [List.extract_eq_take_drop]
  ·cases h
 ·rename_i hagg
  rw [nth_eq] at h
  obtain ⟨u, hu, hr⟩ := hl.at h
  refine ⟨u, ?_, hr⟩
  simp only [part, Sem.run_bind, run_isAgg hagg, Result.andThen_ok]
  simp [hu]
 ·cases h
def fdS (P : Program) (T f : Nat) (x : SV) : Option SV := match x with
 | .agg l => match P.underlying T with
  | some (.struct fs) => match fs[f]? with
   | some fd => ptS P fd.type l fd.offset
   | none => none
  | _ => none
 | _ => none
theorem fdS_ok {T f : Nat} {x v : SV} {u : Value} (hx : Rel ρ x u) (h : fdS P T f x = some v) : ∃ z, (Instr.field T u f).run P w = .ok z w ∧ Rel ρ v z := by
 cases x <;> simp only [fdS] at h <;> try (cases h; done)
 rename_i l
 rw [Rel] at hx
 obtain ⟨us, hl, rfl⟩ := hx
 split at h
 ·rename_i fs hu
  split at h
  ·rename_i fd hf
   obtain ⟨z, h1, h2⟩ := ptS_ok (w := w) hl h
   refine ⟨z, ?_, h2⟩
   simp [Instr.field, run_underlying hu, hf, asAgg, h1]
  ·cases h
 ·cases h
def ixS (P : Program) (T : Nat) (x i : SV) : Option SV := match x with
 | .agg l => match i with
  | .raw (.int _ (.ofNat i)) => match arT P T with
   | some (len, e, sz) => bif Nat.blt i len then ptS P e l (i * sz) else none
   | none => none
  | _ => none
 | .raw u => match i with
  | .raw z => match pv P (Instr.index T u z) with
   | some (.int k n) => some (.raw (.int k n))
   | _ => none
  | _ => none
 | _ => none
theorem ixS_ok {T : Nat} {x i v : SV} {u z : Value} (hx : Rel ρ x u) (hi : Rel ρ i z) (h : ixS P T x i = some v) : ∃ q, (Instr.index T u z).run P w = .ok q w ∧ Rel ρ v q := by
 unfold ixS at h
 split at h
 ·rename_i l
  rw [Rel] at hx
  obtain ⟨us, hl, rfl⟩ := hx
  split at h
  ·rename_i k i'
   rw [Rel] at hi
   subst hi
   split at h
   ·rename_i len e sz har
    have hA := arT_ok har
    cases h1 : Nat.blt i' len with
    | false => rw [h1] at h; cases h
    | true =>
     rw [h1, cond_true] at h
     have h1 := Nat.blt_eq.mp h1
     obtain ⟨q, h2, h3⟩ := ptS_ok (w := w) hl h
     refine ⟨q, ?_, h3⟩
     have g1 : (i' : Int) < (len : Int) := by omega
     simp [Instr.index, asIntOf, run_underlying hA.u, g1, h1, TH.run_sizeOf hA.size, h2]
   ·cases h
  ·cases h
 ·rename_i u0
  rw [Rel] at hx
  subst hx
  split at h
  ·rename_i z0
   rw [Rel] at hi
   subst hi
   split at h
   ·rename_i k n hp
    simp only [Option.some.injEq] at h
    exact ⟨_, pv_run hp w, by rw [← h, Rel]⟩
   ·cases h
  ·cases h
 ·cases h
def exS (x : SV) (i : Nat) : Option SV := match x with
 | .tup l => nth l i
 | _ => none
theorem exS_ok {x v : SV} {i : Nat} {u : Value} (hx : Rel ρ x u) (h : exS x i = some v) : ∃ z, (Instr.extract u i).run P w = .ok z w ∧ Rel ρ v z := by
 cases x <;> simp only [exS] at h <;> try (cases h; done)
 rename_i l
 rw [Rel] at hx
 obtain ⟨us, hl, rfl⟩ := hx
 rw [nth_eq] at h
 obtain ⟨z, hz, hr⟩ := hl.at h
 exact ⟨z, by simp [Instr.extract, hz], hr⟩
def lnS (P : Program) (T : Nat) (x : SV) (st : St) : Option (SV × St) := match P.underlying T with
 | some (.slice _) => match x with
  | .sl _ _ n _ => some (.raw (.int .i64 (.ofNat n)), st)
  | .sl0 => some (.raw (.int .i64 0), st)
  | .raw (.slice _ n _) => some (.raw (.int .i64 (.ofNat n)), st)
  | _ => none
 | some (.map _ _) => match x with
  | .raw (.map none) => some (.raw (.int .i64 0), st)
  | .map b => match st with
   | ⟨h, nx, bs, R, W⟩ => match h.get b with
    | some (.map es _) => insK bs b R fun R' => natK (llen es) fun n => some (.raw (.int .i64 (.ofNat n)), ⟨h, nx, bs, R', W⟩)
    | _ => none
  | _ => none
 | _ => none
theorem MRel.len {es : List SEnt} : ∀ {ms : List MapEntry}, MRel ρ es ms → ms.length = es.length := by
 induction es with
 | nil => intro ms h; rw [MRel] at h; rw [h]; rfl
 | cons e es ih => intro ms h; rw [MRel] at h; obtain ⟨m, r, rfl, _, _, _, h5⟩ := h; simp [ih h5]
theorem lnS_ok {T ty : Nat} {x v : SV} {u : Value} (hx : Rel ρ x u) (h : lnS P T x st = some (v, st')) (hs : Sim ρ D st w) (hD : ∀ x, x ∈ st'.R ∨ st.base ≤ x → D x) : Did P ρ D st st' w v (Builtin.len_ #[T] ty #[u]) := by
 unfold lnS at h
 split at h
 ·rename_i e hu
  split at h <;> try (cases h; done)
  ·simp only [Option.some.injEq, Prod.mk.injEq] at h
   obtain ⟨e1, e2⟩ := h
   subst e2
   rw [Rel] at hx
   obtain ⟨_, _, _, _, _, rfl⟩ := hx
   exact Did.pure hs (by simp [Builtin.len_, run_underlying hu, goInt]; rfl) (by rw [← e1, Rel]; first | done | rfl)
  ·simp only [Option.some.injEq, Prod.mk.injEq] at h
   obtain ⟨e1, e2⟩ := h
   subst e2
   rw [Rel] at hx
   obtain ⟨_, _, rfl⟩ := hx
   exact Did.pure hs (by simp [Builtin.len_, run_underlying hu, goInt]; rfl) (by rw [← e1, Rel]; first | done | rfl)
  ·simp only [Option.some.injEq, Prod.mk.injEq] at h
   obtain ⟨e1, e2⟩ := h
   subst e2
   rw [Rel] at hx
   subst hx
   exact Did.pure hs (by simp [Builtin.len_, run_underlying hu, goInt]; rfl) (by rw [← e1, Rel]; first | done | rfl)
 ·rename_i kt et hu
  split at h <;> try (cases h; done)
  ·simp only [Option.some.injEq, Prod.mk.injEq] at h
   obtain ⟨e1, e2⟩ := h
   subst e2
   rw [Rel] at hx
   subst hx
   exact Did.pure hs (by simp [Builtin.len_, run_underlying hu, goInt]; rfl) (by rw [← e1, Rel]; first | done | rfl)
  ·rename_i b
   cases st with
   | mk hh nx bs R W =>
    simp only at h
    split at h
    ·rename_i es c hg
     rw [insK_eq, natK_eq] at h
     simp only [Option.some.injEq, Prod.mk.injEq] at h
     obtain ⟨e1, e2⟩ := h
     rw [Rel] at hx
     obtain ⟨B, s, hb, rfl⟩ := hx
     have hd : D b := hD b (by rw [← e2]; exact ins_has _ _ _)
     obtain ⟨b', s', ob, q1, q2, ms, rfl, q4⟩ := hs.live b _ hd hg
     rw [hb] at q1; cases q1
     refine ⟨.int .i64 (ms.length : Int), w, ρ, ?_, ?_, by rw [← e2]; exact Step.touch hs (ins_sub _ _ _) fun _ h => h⟩
     ·simp [Builtin.len_, run_underlying hu, goInt, getObj, Sem.run, q2]
     ·rw [← e1, Rel, q4.len, llen_eq]; rfl
    ·cases h
 ·cases h
def kEq : IntKind → IntKind → Bool
 | .i8, .i8 => true | .i16, .i16 => true | .i32, .i32 => true | .i64, .i64 => true
 | .u8, .u8 => true | .u16, .u16 => true | .u32, .u32 => true | .u64, .u64 => true
 | _, _ => false
theorem kEq_eq {k k' : IntKind} (h : kEq k k' = true) : k = k' := by cases k <;> cases k' <;> first | rfl | cases h
def kmax : IntKind → Nat
 | .i8 => 127 | .i16 => 32767 | .i32 => 2147483647 | .i64 => 9223372036854775807
 | .u8 => 255 | .u16 => 65535 | .u32 => 4294967295 | .u64 => 18446744073709551615
def ksg : IntKind → Bool
 | .i8 => true | .i16 => true | .i32 => true | .i64 => true
 | _ => false
def wrapF (k : IntKind) (n : Int) : Int := match n with
 | .ofNat m => bif Nat.ble m (kmax k) then .ofNat m else k.wrap n
 | .negSucc m => bif ksg k && Nat.ble m (kmax k) then .negSucc m else k.wrap n
theorem fits_of {k : IntKind} {m : Nat} (h : m ≤ kmax k) : Fits k m := by
 cases k <;> simp only [kmax] at h <;> simp [Fits, room, IntKind.bits, IntKind.signed] <;> omega
theorem wrap_pos {k : IntKind} {m : Nat} (h : m ≤ kmax k) : k.wrap (m : Int) = m := wrap_nat (fits_of h)
theorem kbits (k : IntKind) (hk : ksg k = true) : k.signed = true ∧ (2 ^ k.bits : Int) = 2 * 2 ^ (k.bits - 1) ∧ ((kmax k : Nat) : Int) + 1 = 2 ^ (k.bits - 1) := by
 cases k <;> first | (cases hk; done) | exact ⟨rfl, rfl, rfl⟩
theorem wrap_neg {k : IntKind} {m : Nat} (hk : ksg k = true) (h : m ≤ kmax k) : k.wrap (Int.negSucc m) = Int.negSucc m := by
 obtain ⟨h1, h2, h3⟩ := kbits k hk
 unfold IntKind.wrap
 rw [h2]
 generalize (2 ^ (k.bits - 1) : Int) = H at *
 have e : Int.negSucc m % (2 * H) = Int.negSucc m + 2 * H := by
  rw [← Int.add_emod_right]
  exact Int.emod_eq_of_lt (by rw [Int.negSucc_eq]; omega) (by rw [Int.negSucc_eq]; omega)
 simp only [e, h1, Bool.true_and]
 rw [if_pos (by rw [decide_eq_true_eq, Int.negSucc_eq]; omega)]
 omega
theorem wrapF_eq (k : IntKind) (n : Int) : wrapF k n = k.wrap n := by
 cases n with
 | ofNat m =>
  simp only [wrapF]
  cases h : Nat.ble m (kmax k) with
  | false => rfl
  | true => exact (wrap_pos (Nat.ble_eq.mp h)).symm
 | negSucc m =>
  simp only [wrapF]
  cases h : ksg k && Nat.ble m (kmax k) with
  | false => rfl
  | true =>
   rw [Bool.and_eq_true] at h
   exact (wrap_neg h.1 (Nat.ble_eq.mp h.2)).symm
def ilt : Int → Int → Bool
 | .ofNat m, .ofNat n => Nat.blt m n
 | .ofNat _, .negSucc _ => false
 | .negSucc _, .ofNat _ => true
 | .negSucc m, .negSucc n => Nat.blt n m
theorem ilt_eq (x y : Int) : ilt x y = decide (x < y) := by
 rw [Bool.eq_iff_iff, decide_eq_true_eq]
 cases x <;> cases y <;> simp only [ilt, Nat.blt_eq, Bool.false_eq_true, true_iff, false_iff, Int.ofNat_eq_natCast, Int.negSucc_eq] <;> omega
def ieq : Int → Int → Bool
 | .ofNat m, .ofNat n => Nat.beq m n
 | .negSucc m, .negSucc n => Nat.beq m n
 | _, _ => false
theorem ieq_eq (x y : Int) : ieq x y = decide (x = y) := by
 rw [Bool.eq_iff_iff, decide_eq_true_eq]
 cases x <;> cases y <;> simp [ieq]
 omega
def intV (k : IntKind) (n : Int) : Option SV := intK n fun n' => some (.raw (.int k n'))
theorem intV_eq (k : IntKind) (n : Int) : intV k n = some (.raw (.int k n)) := by simp only [intV, intK_eq]
def boolV (b : Bool) : Option SV := match b with
 | true => some (.raw (.bool true))
 | false => some (.raw (.bool false))
theorem boolV_eq (b : Bool) : boolV b = some (.raw (.bool b)) := by cases b <;> rfl
def isZ : Int → Bool
 | .ofNat 0 => true
 | _ => false
theorem isZ_eq {n : Int} (h : isZ n = false) : n ≠ 0 := by
 rintro rfl; cases h
def ibS (op : BinOp) (k : IntKind) (x : Int) (k' : IntKind) (y : Int) : Option SV := match op with
 | .add => bif kEq k k' then intV k (wrapF k (Int.add x y)) else none
 | .sub => bif kEq k k' then intV k (wrapF k (Int.sub x y)) else none
 | .mul => bif kEq k k' then intV k (wrapF k (Int.mul x y)) else none
 | .quo => bif kEq k k' then (bif isZ y then none else intV k (wrapF k (Int.tdiv x y))) else none
 | .rem => bif kEq k k' then (bif isZ y then none else intV k (Int.tmod x y)) else none
 | .lss => bif kEq k k' then boolV (ilt x y) else none
 | .gtr => bif kEq k k' then boolV (ilt y x) else none
 | .leq => bif kEq k k' then boolV (!ilt y x) else none
 | .geq => bif kEq k k' then boolV (!ilt x y) else none
 | .eql => bif kEq k k' then boolV (ieq x y) else none
 | .neq => bif kEq k k' then boolV (!ieq x y) else none
 | .and => bif kEq k k' then (match x with
  | .ofNat m => match y with
   | .ofNat n => bif Nat.ble m (kmax k) && Nat.ble n (kmax k) then intV k (.ofNat (Nat.land m n)) else none
   | _ => none
  | _ => none) else none
 | .or => bif kEq k k' then (match x with
  | .ofNat m => match y with
   | .ofNat n => bif Nat.ble m (kmax k) && Nat.ble n (kmax k) then intV k (.ofNat (Nat.lor m n)) else none
   | _ => none
  | _ => none) else none
 | .xor => bif kEq k k' then (match x with
  | .ofNat m => match y with
   | .ofNat n => bif Nat.ble m (kmax k) && Nat.ble n (kmax k) then intV k (.ofNat (Nat.xor m n)) else none
   | _ => none
  | _ => none) else none
 | .andNot => bif kEq k k' then (match x with
  | .ofNat m => match y with
   | .ofNat n => bif Nat.ble m (kmax k) && Nat.ble n (kmax k) then intV k (.ofNat (Nat.xor m (Nat.land m n))) else none
   | _ => none
  | _ => none) else none
 | .shl => match x with
  | .ofNat m => match y with
   | .ofNat s => bif Nat.ble s k.bits then intV k (wrapF k (.ofNat (Nat.shiftLeft m s))) else none
   | _ => none
  | _ => none
 | .shr => match x with
  | .ofNat m => match y with
   | .ofNat s => bif Nat.ble s k.bits then intV k (.ofNat (Nat.shiftRight m s)) else none
   | _ => none
  | _ => none
end
end Go.TX
namespace Go.TH
open Go
section
variable {P : Program} {C : Cx P} {E : Env} {H : List HP}
variable {ops : Array Oper} {K : KP} {rest : List Oper} {d : Nat} {ty : TypeId} {pos : String} {af : Array Edge} {x y : Operand} {T T' : TypeId} {k : IntKind} {a b : Nat}
theorem bv_andNot {n : Nat} (x y : BitVec n) : x &&& ~~~y = x ^^^ (x &&& y) := by
 apply BitVec.eq_of_getLsbD_eq
 intro i hi
 simp [hi]
 cases x[i] <;> cases y[i] <;> rfl
end
end Go.TH
namespace Go.TX
open Go Go.TH
noncomputable section
variable {ρ : Ren} {N : Nat} {env : Tr SV} {a : Act} {P : Program} {D : Nat → Prop} {st st' : St} {w : World}
def opT (op : BinOp) (T : TypeId) (xo yo : Operand) (u z : Value) : Sem Value := do eqGuard op T xo yo u z; binOp op T u z
theorem ble2 {m n k : Nat} (h : (Nat.ble m k && Nat.ble n k) = true) : m ≤ k ∧ n ≤ k := by
 rw [Bool.and_eq_true] at h
 exact ⟨Nat.ble_eq.mp h.1, Nat.ble_eq.mp h.2⟩
def arF (op : BinOp) (x y : Int) : Option Int := match op with | .add => some (x + y) | .sub => some (x - y) | .mul => some (x * y) | _ => none
def cmF (op : BinOp) (x y : Int) : Option Bool := match op with | .lss => some (ilt x y) | .gtr => some (ilt y x) | .leq => some (!ilt y x) | .geq => some (!ilt x y) | .eql => some (ieq x y) | .neq => some (!ieq x y) | _ => none
def dvF (op : BinOp) (k : IntKind) (x y : Int) : Option Int := match op with | .quo => some (k.wrap (x.tdiv y)) | .rem => some (x.tmod y) | _ => none
def btF (op : BinOp) (m n : Nat) : Option Nat := match op with | .and => some (m &&& n) | .or => some (m ||| n) | .xor => some (m ^^^ n) | .andNot => some (m ^^^ (m &&& n)) | _ => none
def shF (op : BinOp) (k : IntKind) (m s : Nat) : Option Int := match op with | .shl => some (k.wrap ((m <<< s : Nat) : Int)) | .shr => some ((m >>> s : Nat) : Int) | _ => none
theorem op_arith {op : BinOp} {k : IntKind} {x y n : Int} (h : arF op x y = some n) (T : TypeId) (xo yo : Operand) : (opT op T xo yo (.int k x) (.int k y)).run P w = .ok (.int k (k.wrap n)) w := by
 cases op <;> simp only [arF, Option.some.injEq, reduceCtorEq] at h <;> subst h <;> simp [opT, eqGuard, binOp, Op.intArith]
theorem op_cmp {op : BinOp} {k : IntKind} {x y : Int} {b : Bool} (h : cmF op x y = some b) (T : TypeId) (xo yo : Operand) :
 (opT op T xo yo (.int k x) (.int k y)).run P w = .ok (.bool b) w := by
 cases op <;> simp only [cmF, Option.some.injEq, reduceCtorEq] at h <;> subst h <;> simp [opT, eqGuard, binOp, Op.intCmp, ilt_eq, ieq_eq]
 ·by_cases q : x = y <;> simp [q]
 ·by_cases q : x = y <;> simp [q]
 ·rw [Bool.eq_iff_iff]; simp
 ·rw [Bool.eq_iff_iff]; simp
theorem op_div {op : BinOp} {k : IntKind} {x y n : Int} (hy : y ≠ 0) (h : dvF op k x y = some n) (T : TypeId) (xo yo : Operand) : (opT op T xo yo (.int k x) (.int k y)).run P w = .ok (.int k n) w := by
 cases op <;> simp only [dvF, Option.some.injEq, reduceCtorEq] at h <;> subst h <;> simp [opT, eqGuard, binOp, Op.intDiv, hy]
theorem op_bits {op : BinOp} {k : IntKind} {m n r : Nat} (hm : m ≤ kmax k) (hn : n ≤ kmax k) (h : btF op m n = some r) (T : TypeId) (xo yo : Operand) :
 (opT op T xo yo (.int k (m : Int)) (.int k (n : Int))).run P w = .ok (.int k (r : Int)) w := by
 have ha := fits_of hm
 have hb := fits_of hn
 cases op <;> simp only [btF, Option.some.injEq, reduceCtorEq] at h <;> subst h
 ·simp [opT, eqGuard, binOp, Op.intBits, mod_fits ha, mod_fits hb]
  exact_mod_cast wrap_nat (k := k) (a := m &&& n) ha.and
 ·simp [opT, eqGuard, binOp, Op.intBits, mod_fits ha, mod_fits hb]
  exact_mod_cast wrap_nat (k := k) (a := m ||| n) (ha.or hb)
 ·simp [opT, eqGuard, binOp, Op.intBits, mod_fits ha, mod_fits hb]
  exact_mod_cast wrap_nat (k := k) (a := m ^^^ n) (ha.xor hb)
 ·simp [opT, eqGuard, binOp, Op.intBits, bv_andNot, mod_fits ha, mod_fits hb]
  exact_mod_cast wrap_nat (k := k) (a := m ^^^ (m &&& n)) (ha.xor ha.and)
theorem op_shift {op : BinOp} {k k' : IntKind} {m s : Nat} {r : Int} (hs : s ≤ k.bits) (h : shF op k m s = some r) (T : TypeId) (xo yo : Operand) :
 (opT op T xo yo (.int k (m : Int)) (.int k' (s : Int))).run P w = .ok (.int k r) w := by
 have h0 : ¬ ((s : Int) < 0) := by omega
 cases op <;> simp only [shF, Option.some.injEq, reduceCtorEq] at h <;> subst h
 ·simp [opT, eqGuard, binOp, Op.shift, h0, Nat.min_eq_left hs, Nat.shiftLeft_eq]
 ·simp [opT, eqGuard, binOp, Op.shift, h0, Nat.min_eq_left hs, Nat.shiftRight_eq_div_pow]
  rw [Int.fdiv_eq_ediv_of_nonneg _ (by exact_mod_cast Nat.zero_le (2 ^ s))]
theorem kEq_of {α : Type} {k k' : IntKind} {x : Option α} {v : α} (h : (bif kEq k k' then x else none) = some v) : k = k' ∧ x = some v := by
 cases hk : kEq k k' with
 | false => rw [hk] at h; cases h
 | true => rw [hk] at h; exact ⟨kEq_eq hk, h⟩
theorem bif_of {α : Type} {b : Bool} {x : Option α} {v : α} (h : (bif b then x else none) = some v) : b = true ∧ x = some v := by
 cases b with
 | false => cases h
 | true => exact ⟨rfl, h⟩
theorem bif_no {α : Type} {b : Bool} {x : Option α} {v : α} (h : (bif b then none else x) = some v) : b = false ∧ x = some v := by
 cases b with
 | true => cases h
 | false => exact ⟨rfl, h⟩
theorem two_of {α : Type} {x y : Int} {f : Nat → Nat → Option α} {v : α} (h : (match x with | .ofNat m => (match y with | .ofNat n => f m n | _ => none) | _ => none) = some v) : ∃ m n : Nat, x = (m : Int) ∧ y = (n : Int) ∧ f m n = some v := by
 cases x <;> cases y <;> simp only [reduceCtorEq] at h
 exact ⟨_, _, rfl, rfl, h⟩
theorem ibS_ok {op : BinOp} {k k' : IntKind} {x y : Int} {v : SV} (h : ibS op k x k' y = some v) (T : TypeId) (xo yo : Operand) : ∃ u, (opT op T xo yo (.int k x) (.int k' y)).run P w = .ok u w ∧ v = .raw u := by
 have arith : ∀ {n : Int}, k = k' ∧ intV k (wrapF k n) = some v → arF op x y = some n → ∃ u, (opT op T xo yo (.int k x) (.int k' y)).run P w = .ok u w ∧ v = .raw u := by
  rintro n ⟨rfl, g⟩ hn
  rw [intV_eq, wrapF_eq, Option.some.injEq] at g
  exact ⟨_, op_arith hn T xo yo, g.symm⟩
 have cmp : ∀ {b : Bool}, k = k' ∧ boolV b = some v → cmF op x y = some b → ∃ u, (opT op T xo yo (.int k x) (.int k' y)).run P w = .ok u w ∧ v = .raw u := by
  rintro b ⟨rfl, g⟩ hb
  rw [boolV_eq, Option.some.injEq] at g
  exact ⟨_, op_cmp hb T xo yo, g.symm⟩
 have bits : ∀ {f : Nat → Nat → Nat}, (k = k' ∧ ∃ m n : Nat, x = (m : Int) ∧ y = (n : Int) ∧ (bif Nat.ble m (kmax k) && Nat.ble n (kmax k) then intV k (.ofNat (f m n)) else none) = some v) → (∀ m n, btF op m n = some (f m n)) →
  ∃ u, (opT op T xo yo (.int k x) (.int k' y)).run P w = .ok u w ∧ v = .raw u := by
  rintro f ⟨rfl, m, n, rfl, rfl, g⟩ hf
  obtain ⟨hb, g⟩ := bif_of g
  obtain ⟨hm, hn⟩ := ble2 hb
  rw [intV_eq, Option.some.injEq] at g
  exact ⟨_, op_bits hm hn (hf m n) T xo yo, g.symm⟩
 cases op <;> simp only [ibS] at h
 ·exact arith (kEq_of h) rfl
 ·exact arith (kEq_of h) rfl
 ·exact arith (kEq_of h) rfl
 ·obtain ⟨rfl, g⟩ := kEq_of h
  obtain ⟨hz, g⟩ := bif_no g
  rw [intV_eq, wrapF_eq, Option.some.injEq] at g
  exact ⟨_, op_div (isZ_eq hz) rfl T xo yo, g.symm⟩
 ·obtain ⟨rfl, g⟩ := kEq_of h
  obtain ⟨hz, g⟩ := bif_no g
  rw [intV_eq, Option.some.injEq] at g
  exact ⟨_, op_div (isZ_eq hz) rfl T xo yo, g.symm⟩
 ·exact bits ⟨(kEq_of h).1, two_of (kEq_of h).2⟩ fun _ _ => rfl
 ·exact bits ⟨(kEq_of h).1, two_of (kEq_of h).2⟩ fun _ _ => rfl
 ·exact bits ⟨(kEq_of h).1, two_of (kEq_of h).2⟩ fun _ _ => rfl
 ·obtain ⟨m, s, rfl, rfl, g⟩ := two_of h
  obtain ⟨hb, g⟩ := bif_of g
  rw [intV_eq, wrapF_eq, Option.some.injEq] at g
  exact ⟨_, op_shift (Nat.ble_eq.mp hb) rfl T xo yo, g.symm⟩
 ·obtain ⟨m, s, rfl, rfl, g⟩ := two_of h
  obtain ⟨hb, g⟩ := bif_of g
  rw [intV_eq, Option.some.injEq] at g
  exact ⟨_, op_shift (Nat.ble_eq.mp hb) rfl T xo yo, g.symm⟩
 ·exact bits ⟨(kEq_of h).1, two_of (kEq_of h).2⟩ fun _ _ => rfl
 all_goals exact cmp (kEq_of h) rfl
end
end Go.TX
namespace Go.TX
open Go Go.TH
noncomputable section
variable {ρ : Ren} {N : Nat} {env : Tr SV} {a : Act} {P : Program} {D : Nat → Prop} {st st' : St} {w : World}
def raws : List SV → Option (List Value)
 | [] => some []
 | .raw v :: r => match raws r with
  | some l => some (v :: l)
  | none => none
 | _ :: _ => none
def toV : SV → Option Value
 | .raw v => some v
 | .agg l => match raws l with
  | some vs => some (.agg vs.toArray)
  | none => none
 | _ => none
theorem raws_rel : ∀ {l : List SV} {vs us : List Value}, raws l = some vs → RelL ρ l us → us = vs
 | [], vs, us, h, hr => by
  simp only [raws, Option.some.injEq] at h
  rw [RelL] at hr
  rw [hr, h]
 | s :: l, vs, us, h, hr => by
  rw [RelL] at hr
  obtain ⟨v, r, rfl, h1, h2⟩ := hr
  cases s <;> simp only [raws] at h <;> try (cases h; done)
  rw [Rel] at h1
  subst h1
  split at h
  ·rename_i l' hl
   simp only [Option.some.injEq] at h
   subst h
   rw [raws_rel hl h2]
  ·cases h
theorem toV_rel {s : SV} {v u : Value} (h : toV s = some v) (hr : Rel ρ s u) : u = v := by
 cases s <;> simp only [toV] at h <;> try (cases h; done)
 ·rw [Rel] at hr
  simp only [Option.some.injEq] at h
  rw [hr, h]
 ·rw [Rel] at hr
  obtain ⟨us, h1, rfl⟩ := hr
  split at h
  ·rename_i vs hv
   simp only [Option.some.injEq] at h
   subst h
   rw [raws_rel hv h1]
  ·cases h
def valV (v : Value) : Option SV := match v with
 | .int k n => intV k n
 | .bool b => boolV b
 | .agg cs => some (.agg (cs.toList.map .raw))
 | v => some (.raw v)
theorem valV_rel {v : Value} {s : SV} (h : valV v = some s) : Rel ρ s v := by
 cases v <;> simp only [valV, intV_eq, boolV_eq, Option.some.injEq] at h <;> subst h <;> rw [Rel]
 exact ⟨_, RelL.raws _, by simp⟩
def isNil : SV → Bool
 | .raw (.pointer none) => true
 | .raw (.slice none 0 0) => true
 | .raw (.map none) => true
 | .raw .nilFunc => true
 | _ => false
def eqNil (P : Program) (T : TypeId) (x : SV) : Option Bool := match x with
 | .ptr _ _ => match P.underlying T with
  | some (.pointer _) => some false
  | _ => none
 | .sl _ _ _ _ => match P.underlying T with
  | some (.slice _) => some false
  | _ => none
 | .map _ => match P.underlying T with
  | some (.map _ _) => some false
  | _ => none
 | .fn _ _ _ => match P.underlying T with
  | some (.func _ _ _) => some false
  | _ => none
 | _ => none
def nilT (P : Program) (T : TypeId) (x : SV) : Bool := match x with
 | .raw (.pointer none) => match P.underlying T with
  | some (.pointer _) => true
  | _ => false
 | .raw (.slice none 0 0) => match P.underlying T with
  | some (.slice _) => true
  | _ => false
 | .raw (.map none) => match P.underlying T with
  | some (.map _ _) => true
  | _ => false
 | .raw .nilFunc => match P.underlying T with
  | some (.func _ _ _) => true
  | _ => false
 | _ => false
theorem eqNil_ok {T : TypeId} {x y : SV} {u z : Value} {b : Bool} (hx : Rel ρ x u) (hy : Rel ρ y z) (h : eqNil P T x = some b) (hn : nilT P T y = true) :
 (Op.equal T u z).run P w = .ok b w ∧ (Op.equal T z u).run P w = .ok b w := by
 cases x <;> simp only [eqNil] at h <;> try (cases h; done)
 all_goals
  split at h <;> try (cases h; done)
  rename_i hu
  simp only [Option.some.injEq] at h
  subst h
  unfold nilT at hn
  split at hn <;> try (cases hn; done)
  all_goals
   split at hn <;> try (cases hn; done)
   rename_i hu'
   rw [hu] at hu'
   first
    |(cases hu'; done)
    |(simp only [Rel] at hx hy
      subst hy
      first
       |(obtain ⟨_, _, _, rfl⟩ := hx
         constructor <;> (unfold Op.equal; rw [show Op.maxDepth = 9999 + 1 from rfl, Op.equalIn]; simp [run_underlying hu]))
       |(obtain ⟨_, _, _, _, _, rfl⟩ := hx
         constructor <;> (unfold Op.equal; rw [show Op.maxDepth = 9999 + 1 from rfl, Op.equalIn]; simp [run_underlying hu]))
       |(obtain ⟨_, _, _, _, rfl⟩ := hx
         constructor <;> (unfold Op.equal; rw [show Op.maxDepth = 9999 + 1 from rfl, Op.equalIn]; simp [run_underlying hu])))
def boS (P : Program) (op : BinOp) (T : TypeId) (xo yo : Operand) (x y : SV) : Option SV := match x with
 | .raw (.int k m) => match y with
  | .raw (.int k' n) => ibS op k m k' n
  | _ => none
 | x => match toV x with
  | some u => match toV y with
   | some z => match pv P (opT op T xo yo u z) with
    | some v => valV v
    | none => none
   | none => bif isNil x && nilT P T x then (match eqNil P T y with
    | some b => match op with
     | .eql => boolV b
     | .neq => boolV (!b)
     | _ => none
    | none => none) else none
  | none => bif nilT P T y then (match eqNil P T x with
   | some b => match op with
    | .eql => boolV b
    | .neq => boolV (!b)
    | _ => none
   | none => none) else none
theorem opT_eq {op : BinOp} {T : TypeId} {xo yo : Operand} {u z : Value} {b : Bool} {v : SV} (hq : (Op.equal T u z).run P w = .ok b w)  (hg : ∀ op, (eqGuard op T xo yo u z).run P w = .ok () w) (hop : ∀ op, op = .eql ∨ op = .neq → binOp op T u z = (if op = .eql then (do pure (.bool (← Op.equal T u z))) else (do pure (.bool (!(← Op.equal T u z)))))) (h : (match op with | .eql => boolV b | .neq => boolV (!b) | _ => none) = some v) : ∃ r, (opT op T xo yo u z).run P w = .ok r w ∧ Rel ρ v r := by
 cases op <;> simp only [reduceCtorEq] at h
 ·rw [boolV_eq, Option.some.injEq] at h
  refine ⟨.bool b, ?_, by rw [← h, Rel]⟩
  simp only [opT, Sem.run_bind, hg, Result.andThen_ok, hop .eql (.inl rfl), if_true]
  simp [hq]
 ·rw [boolV_eq, Option.some.injEq] at h
  refine ⟨.bool !b, ?_, by rw [← h, Rel]⟩
  simp only [opT, Sem.run_bind, hg, Result.andThen_ok, hop .neq (.inr rfl)]
  simp [hq]
theorem guard_nil {op : BinOp} {T : TypeId} {xo yo : Operand} {x y : SV} {u z : Value} {b : Bool} (hx : Rel ρ x u) (hy : Rel ρ y z) (h : eqNil P T x = some b) (hn : nilT P T y = true) :
 (eqGuard op T xo yo u z).run P w = .ok () w ∧ (eqGuard op T yo xo z u).run P w = .ok () w ∧ (∀ op, op = .eql ∨ op = .neq → binOp op T u z = (if op = .eql then (do pure (.bool (← Op.equal T u z))) else (do pure (.bool (!(← Op.equal T u z)))))) ∧
   (∀ op, op = .eql ∨ op = .neq → binOp op T z u = (if op = .eql then (do pure (.bool (← Op.equal T z u))) else (do pure (.bool (!(← Op.equal T z u)))))) := by
 cases x <;> simp only [eqNil] at h <;> try (cases h; done)
 all_goals
  split at h <;> try (cases h; done)
  unfold nilT at hn
  split at hn <;> try (cases hn; done)
  all_goals
   simp only [Rel] at hx hy
   subst hy
   first
    |(obtain ⟨_, _, _, rfl⟩ := hx
      refine ⟨by cases op <;> simp [eqGuard], by cases op <;> simp [eqGuard], ?_, ?_⟩ <;> (rintro op (rfl | rfl) <;> rfl))
    |(obtain ⟨_, _, _, _, _, rfl⟩ := hx
      refine ⟨by cases op <;> simp [eqGuard], by cases op <;> simp [eqGuard], ?_, ?_⟩ <;> (rintro op (rfl | rfl) <;> rfl))
    |(obtain ⟨_, _, _, _, rfl⟩ := hx
      refine ⟨by cases op <;> simp [eqGuard], by cases op <;> simp [eqGuard], ?_, ?_⟩ <;> (rintro op (rfl | rfl) <;> rfl))
theorem boS_ok {op : BinOp} {T : TypeId} {xo yo : Operand} {x y v : SV} {u z : Value} (hx : Rel ρ x u) (hy : Rel ρ y z) (h : boS P op T xo yo x y = some v) : ∃ r, (opT op T xo yo u z).run P w = .ok r w ∧ Rel ρ v r := by
 unfold boS at h
 split at h
 ·rename_i k m
  split at h
  ·rename_i k' n
   rw [Rel] at hx hy
   subst hx; subst hy
   obtain ⟨r, h1, h2⟩ := ibS_ok (P := P) (w := w) h T xo yo
   exact ⟨r, h1, by rw [h2, Rel]⟩
  ·cases h
 ·split at h
  ·rename_i u' hu
   have eu := toV_rel hu hx
   split at h
   ·rename_i z' hz
    have ez := toV_rel hz hy
    subst eu; subst ez
    split at h
    ·rename_i r hp
     exact ⟨r, pv_run hp w, valV_rel h⟩
    ·cases h
   ·obtain ⟨hb, h⟩ := bif_of h
    rw [Bool.and_eq_true] at hb
    split at h
    ·rename_i b hq
     have h1 := eqNil_ok (w := w) hy hx hq hb.2
     have h2 := fun op => guard_nil (w := w) (op := op) (xo := yo) (yo := xo) hy hx hq hb.2
     exact opT_eq h1.2 (fun op => (h2 op).2.1) (h2 .eql).2.2.2 h
    ·cases h
  ·obtain ⟨hb, h⟩ := bif_of h
   split at h
   ·rename_i b hq
    have h1 := eqNil_ok (w := w) hx hy hq hb
    have h2 := fun op => guard_nil (w := w) (op := op) (xo := xo) (yo := yo) hx hy hq hb
    exact opT_eq h1.1 (fun op => (h2 op).1) (h2 .eql).2.2.1 h
   ·cases h
end
end Go.TX
