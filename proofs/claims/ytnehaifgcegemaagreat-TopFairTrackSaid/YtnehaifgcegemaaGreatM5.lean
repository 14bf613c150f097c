/-
  What is proved here: operations on the bits of numbers. Conditions: none; each rule states its own.
  What is proved here: loops with many variables. Conditions: none; each rule states its own.
  What is proved here: a window that moves along an array of one's own. Conditions: none; each rule states its own.
  What is proved here: which spots are valid. Conditions: none; each contract states its own.
  What is proved here: the changes and the bend of a line. Conditions: none; each contract states its own.
  What is proved here: what a line within spots costs. Conditions: none; each contract states its own.
  What is proved here: tables of numbers: slices of arrays of arrays. Conditions: none; each rule states its own.
  What is proved here: what a drawer tells. Conditions: none; each contract states its own.
  What is proved here: how a line goes on best. Conditions: none; each contract states its own.
  What is proved here: the states of a spot, in order, and what is paid from all states on. Conditions: none; each contract states its own.
  What is proved here: what is paid from all states on. Conditions: none; each contract states its own.
-/
import Derived.Test.YtnehaifgcegemaaGreatM2
import Derived.Laws.Shifts
set_option linter.unusedVariables false
set_option linter.unusedSimpArgs false
namespace Go.TH
open Go
def room (k : IntKind) : Nat := if k.signed then k.bits - 1 else k.bits
def Fits (k : IntKind) (a : Nat) : Prop := a < 2 ^ room k
theorem wrap_nat {k : IntKind} {a : Nat} (h : Fits k a) : k.wrap (a : Int) = (a : Int) := by
 unfold Fits room at h
 have e1 : (a : Int) % (2 ^ k.bits : Int) = (a : Int) := by
  refine Int.emod_eq_of_lt (by omega) ?_
  have h2 : a < 2 ^ k.bits := Nat.lt_of_lt_of_le h (Nat.pow_le_pow_right (by omega) (by split <;> omega))
  exact_mod_cast h2
 unfold IntKind.wrap
 simp only [e1]
 split
 ·rename_i hs
  simp only [Bool.and_eq_true, decide_eq_true_eq] at hs
  rw [if_pos hs.1] at h
  have h3 : (a : Int) < (2 ^ (k.bits - 1) : Int) := by exact_mod_cast h
  omega
 ·rfl
theorem ofInt_nat {k : IntKind} {a : Nat} (h : Fits k a) : (BitVec.ofInt k.bits (a : Int)).toNat = a := by
 have h2 : a < 2 ^ k.bits := Nat.lt_of_lt_of_le h (Nat.pow_le_pow_right (by omega) (by unfold room; split <;> omega))
 rw [show BitVec.ofInt k.bits (a : Int) = BitVec.ofNat k.bits a by simp, BitVec.toNat_ofNat]
 exact Nat.mod_eq_of_lt h2
theorem mod_fits {k : IntKind} {a : Nat} (h : Fits k a) : a % 2 ^ k.bits = a := Nat.mod_eq_of_lt (Nat.lt_of_lt_of_le h (Nat.pow_le_pow_right (by omega) (by unfold room; split <;> omega)))
theorem Fits.and {k : IntKind} {a b : Nat} (h : Fits k a) : Fits k (a &&& b) := Nat.lt_of_le_of_lt Nat.and_le_left h
theorem Fits.or {k : IntKind} {a b : Nat} (h : Fits k a) (h' : Fits k b) : Fits k (a ||| b) := Nat.or_lt_two_pow h h'
theorem Fits.xor {k : IntKind} {a b : Nat} (h : Fits k a) (h' : Fits k b) : Fits k (a ^^^ b) := Nat.xor_lt_two_pow h h'
theorem Fits.shr {k : IntKind} {a s : Nat} (h : Fits k a) : Fits k (a >>> s) := Nat.lt_of_le_of_lt (by rw [Nat.shiftRight_eq_div_pow]; exact Nat.div_le_self _ _) h
section
variable {P : Program} {C : Cx P} {E : Env} {H : List HP}
variable {ops : Array Oper} {K : KP} {rest : List Oper} {d : Nat} {ty : TypeId} {pos : String} {af : Array Edge} {x y : Operand} {T T' : TypeId} {k : IntKind} {a b : Nat}
end
section
variable {P : Program} {C : Cx P} {E : Env} {H : List HP}
variable {ops : Array Oper} {K : KP} {rest : List Oper} {d : Nat} {ty : TypeId} {pos : String} {af : Array Edge} {x y : Operand} {T : TypeId}
end
end Go.TH
namespace Go.TH
open Go
section
variable {P : Program} {C : Cx P} {E : Env} {H : List HP} {Q : Post} {c : Code}
theorem W.loop6 {X1 X2 X3 X4 X5 X6 : Type} (p : X1 → X2 → X3 → X4 → X5 → X6 → Prop) (e : X1 → X2 → X3 → X4 → X5 → X6 → Env) (m : X1 → X2 → X3 → X4 → X5 → X6 → List HP) (μ : X1 → X2 → X3 → X4 → X5 → X6 → Nat) (x10 : X1) (x20 : X2) (x30 : X3) (x40 : X4) (x50 : X5) (x60 : X6) (h0 : p x10 x20 x30 x40 x50 x60) (hE : EnvIn E (e x10 x20 x30 x40 x50 x60)) (hH : Sub H (m x10 x20 x30 x40 x50 x60))
 (round : ∀ x1 x2 x3 x4 x5 x6, p x1 x2 x3 x4 x5 x6 → W C c (thn (fun E' H' => ∃ x1' x2' x3' x4' x5' x6', p x1' x2' x3' x4' x5' x6' ∧ μ x1' x2' x3' x4' x5' x6' < μ x1 x2 x3 x4 x5 x6 ∧ EnvIn E' (e x1' x2' x3' x4' x5' x6') ∧ Sub H' (m x1' x2' x3' x4' x5' x6')) Q) (e x1 x2 x3 x4 x5 x6) (m x1 x2 x3 x4 x5 x6)) : W C (.loop c) Q E H :=
 W.loop (X := X1 × X2 × X3 × X4 × X5 × X6) (fun x => p x.1 x.2.1 x.2.2.1 x.2.2.2.1 x.2.2.2.2.1 x.2.2.2.2.2) (fun x => e x.1 x.2.1 x.2.2.1 x.2.2.2.1 x.2.2.2.2.1 x.2.2.2.2.2) (fun x => m x.1 x.2.1 x.2.2.1 x.2.2.2.1 x.2.2.2.2.1 x.2.2.2.2.2) (fun x => μ x.1 x.2.1 x.2.2.1 x.2.2.2.1 x.2.2.2.2.1 x.2.2.2.2.2) (x10, x20, x30, x40, x50, x60) h0 hE hH fun x hp => (round x.1 x.2.1 x.2.2.1 x.2.2.2.1 x.2.2.2.2.1 x.2.2.2.2.2 hp).mono fun ex E' H' q => by
  cases ex <;> first | exact q | skip
  obtain ⟨x1', x2', x3', x4', x5', x6', qa, qb, qc, qd⟩ := q
  exact ⟨(x1', x2', x3', x4', x5', x6'), qa, qb, qc, qd⟩
end
end Go.TH
namespace Go.TH
open Go
section
variable {P : Program} (w : World)
end
def WinC (e : Nat) (v : Value) (n : Nat) (cs : List Value) : HP := fun h =>
 cs.length = n ∧ ∃ (g o cap : Nat) (cur : List Value), v = .slice (some ⟨g, o, none⟩) n cap ∧ n ≤ cap ∧ cap ≤ maxLen ∧ o + cap ≤ cur.length ∧ (cur.drop o).take n = cs ∧ pt g (.cells cur.toArray e (0, 0)) h
def NowP (e b n : Nat) (ss : List Value) (v : Value) (cs : List Value) : HP := fun h =>
 (v = .slice (some ⟨b, 0, none⟩) n n ∧ cs = ss ∧ OwC e 1 (.slice (some ⟨b, 0, none⟩) n n) n ss h) ∨
 ∃ h1 h2, Split h h1 h2 ∧ OwC e 1 (.slice (some ⟨b, 0, none⟩) n n) n ss h1 ∧ WinC e v n cs h2
theorem WinC.open {w0 : World} {M : List Nat} {L H : List HP} {w : World} {e n : Nat} {v : Value} {cs : List Value} (h : Inv w0 M (L ++ WinC e v n cs :: H) w) :
 cs.length = n ∧ ∃ (g o cap : Nat) (cur : List Value), v = .slice (some ⟨g, o, none⟩) n cap ∧ n ≤ cap ∧ cap ≤ maxLen ∧ o + cap ≤ cur.length ∧ (cur.drop o).take n = cs ∧ Inv w0 M (L ++ pt g (.cells cur.toArray e (0, 0)) :: H) w := by
 have h1 := h.perm List.perm_middle
 obtain ⟨ha, hb, s, ⟨hl, g, o, cap, cur, h2, h3, h4, h5, h6, h7⟩, hr⟩ := h1.mine
 refine ⟨hl, g, o, cap, cur, h2, h3, h4, h5, h6, ?_⟩
 have : Inv w0 M (pt g (.cells cur.toArray e (0, 0)) :: (L ++ H)) w := ⟨h1.os, h1.tape, h1.output, h1.size, h1.keep, ha, hb, s, h7, hr⟩
 exact this.perm List.perm_middle.symm
theorem WinC.shut {w0 : World} {M : List Nat} {L H : List HP} {w : World} {e n g o cap : Nat} {cs cur : List Value} (hl : cs.length = n) (hn : n ≤ cap) (hm : cap ≤ maxLen) (hc : o + cap ≤ cur.length) (ht : (cur.drop o).take n = cs)
 (h : Inv w0 M (L ++ pt g (.cells cur.toArray e (0, 0)) :: H) w) : Inv w0 M (L ++ WinC e (.slice (some ⟨g, o, none⟩) n cap) n cs :: H) w :=
 h.mono fun h hp => ⟨hl, g, o, cap, cur, rfl, hn, hm, hc, ht, hp⟩
theorem NowP.open {w0 : World} {M : List Nat} {L H : List HP} {w : World} {e b n : Nat} {v : Value} {ss cs : List Value} (h : Inv w0 M (L ++ NowP e b n ss v cs :: H) w) :
 (v = .slice (some ⟨b, 0, none⟩) n n ∧ cs = ss ∧ Inv w0 M (L ++ OwC e 1 (.slice (some ⟨b, 0, none⟩) n n) n ss :: H) w) ∨
 Inv w0 M (L ++ OwC e 1 (.slice (some ⟨b, 0, none⟩) n n) n ss :: WinC e v n cs :: H) w := by
 have h1 := h.perm List.perm_middle
 obtain ⟨ha, hb, s, hc, hr⟩ := h1.mine
 rcases hc with ⟨q1, q2, q3⟩ | ⟨x, y, t, q1, q2⟩
 ·refine .inl ⟨q1, q2, ?_⟩
  have : Inv w0 M (OwC e 1 (.slice (some ⟨b, 0, none⟩) n n) n ss :: (L ++ H)) w := ⟨h1.os, h1.tape, h1.output, h1.size, h1.keep, ha, hb, s, q3, hr⟩
  exact this.perm List.perm_middle.symm
 ·refine .inr ?_
  have : Inv w0 M (OwC e 1 (.slice (some ⟨b, 0, none⟩) n n) n ss :: WinC e v n cs :: (L ++ H)) w := by
   refine ⟨h1.os, h1.tape, h1.output, h1.size, h1.keep, ?_⟩
   exact sat_join (H1 := [_, _]) s ⟨x, y, t, q1, y, fun _ => none, (split_none y).comm, q2, trivial⟩ hr
  refine this.perm ?_
  refine List.Perm.trans ?_ (List.perm_middle (l₁ := L) (l₂ := WinC e v n cs :: H)).symm
  exact List.Perm.cons _ (List.perm_middle (l₁ := L) (l₂ := H)).symm
theorem NowP.start {e b n : Nat} {ss : List Value} {H H' : List HP} (p : Pick (OwC e 1 (.slice (some ⟨b, 0, none⟩) n n) n ss) H H') : ∀ h, sat H h → sat (NowP e b n ss (.slice (some ⟨b, 0, none⟩) n n) ss :: H') h := fun h hs => by
 obtain ⟨h1, h2, s, a, r⟩ := p.sat hs
 exact ⟨h1, h2, s, .inl ⟨rfl, rfl, a⟩, r⟩
section
variable {P : Program} {C : Cx P} {E : Env} {H : List HP}
variable {ops : Array Oper} {K : KP} {rest : List Oper} {d : Nat} {ty : TypeId} {pos : String} {af : Array Edge} {x y z : Operand} {T T' : TypeId}
theorem WinC.cellsI {e n : Nat} {v : Value} {cs : List Value} {L H' : List HP} {w : World} (hi : Inv C.w0 C.M (L ++ WinC e v n cs :: H') w) : ∀ j u, cs[j]? = some u → w.cell? ((base v).add j) = some u := by
 intro j u hu
 obtain ⟨hl, g, o, cap, cur, rfl, h1, h2, h3, h4, hi'⟩ := WinC.open hi
 have hlook := (hi'.look (b := g) (o := .cells cur.toArray e (0, 0)) ((Pick.head).app L)).1
 have ea : (base (.slice (some ⟨g, o, none⟩) n cap)).add j = ⟨g, o + j, none⟩ := by simp [base, Addr.add_lit]
 rw [ea]
 subst h4
 rw [List.getElem?_take] at hu
 split at hu
 ·rw [List.getElem?_drop] at hu
  simp [World.cell?, hlook, hu]
 ·cases hu
theorem NowP.cells {e b n : Nat} {ss : List Value} {v : Value} {cs : List Value} {H' : List HP} (p : Pick (NowP e b n ss v cs) H H') : Cells C H (base v) cs := by
 intro j u hu L w hi
 rcases NowP.open (hi.pickL p) with ⟨rfl, rfl, q⟩ | q
 ·exact OwC.cells (C := C) (.head) j u hu L w q
 ·have q' : Inv C.w0 C.M ((L ++ [OwC e 1 (.slice (some ⟨b, 0, none⟩) n n) n ss]) ++ WinC e v n cs :: H') w := by rw [List.append_assoc]; exact q
  exact WinC.cellsI q' j u hu
theorem NowP.len {e b n : Nat} {ss : List Value} {v : Value} {cs : List Value} {H' : List HP} (p : Pick (NowP e b n ss v cs) H H') : ∀ (L : List HP) w, Inv C.w0 C.M (L ++ H) w → cs.length = n ∧ IsSl v n := fun L w hi => by
 rcases NowP.open (hi.pickL p) with ⟨rfl, rfl, q⟩ | q
 ·obtain ⟨hl, _⟩ := OwC.open q
  exact ⟨by omega, OwC.isSl q⟩
 ·have q' : Inv C.w0 C.M ((L ++ [OwC e 1 (.slice (some ⟨b, 0, none⟩) n n) n ss]) ++ WinC e v n cs :: H') w := by rw [List.append_assoc]; exact q
  obtain ⟨hl, g, o, cap, cur, rfl, h1, h2, h3, h4, hi'⟩ := WinC.open q'
  simp only [maxLen] at h2
  exact ⟨hl, by omega, _, _, rfl, fun _ => ⟨_, _, rfl⟩⟩
theorem NowP.cell {e b n i : Nat} {ss : List Value} {v : Value} {cs : List Value} {H' : List HP} (p : Pick (NowP e b n ss v cs) H H') (hi : i < cs.length) : Cell C H (elt v i 1) (cs.getD i undef) := by
 have := NowP.cells (C := C) p i (cs.getD i undef) (by simp [hi])
 rw [elt_eq, Nat.mul_one]
 exact this
end
theorem NowP.next {e b n g o c : Nat} {ss cs : List Value} {H H1 H2 : List HP} (p : Pick (OwC e 1 (.slice (some ⟨b, 0, none⟩) n n) n ss) H H1) (q : Pick (WinC e (.slice (some ⟨g, o, none⟩) (n + 1) c) (n + 1) cs) H1 H2) :
 ∀ h, sat H h → sat (NowP e b n ss (.slice (if c = 1 then some ⟨g, o, none⟩ else ofs (some ⟨g, o, none⟩) (1 * 1)) (n + 1 - 1) (c - 1)) (cs.drop 1) :: H2) h := fun h hs => by
 obtain ⟨h1, h2, s, a, r⟩ := p.sat hs
 obtain ⟨h3, h4, s2, a2, r2⟩ := q.sat r
 obtain ⟨r', s3, s4⟩ := split_assoc s s2
 refine ⟨r', h4, s3, .inr ⟨h1, h3, s4, a, ?_⟩, r2⟩
 obtain ⟨hl, g', o', cap, cur, e1, q1, q2, q3, q4, q5⟩ := a2
 injection e1 with e1 e2 e3
 injection e1 with e1
 injection e1 with e1 e4
 subst e1; subst e4; subst e3
 refine ⟨by simp [hl], ?_⟩
 by_cases h1c : c = 1
 ·subst h1c
  obtain rfl : n = 0 := by omega
  refine ⟨g, o, 0, cur, by simp, by omega, by omega, by omega, ?_, q5⟩
  rw [← q4]; simp
 ·refine ⟨g, o + 1, c - 1, cur, ?_, by omega, by omega, by omega, ?_, q5⟩
  ·rw [if_neg h1c]; simp [ofs, Addr.add_lit]
  ·rw [← q4, show n + 1 = 1 + n by omega, List.drop_take, List.drop_drop]; simp
end Go.TH
namespace Go.Proofs.YtnehaifgcegemaaGreat.Fa
open Go Go.TH
attribute [local irreducible] W WO pt
set_option maxRecDepth 10000
set_option maxHeartbeats 1000000
def OkG (p : Int × Int) : Prop := -1000000 ≤ p.1 ∧ p.1 ≤ p.2 ∧ p.2 ≤ 1000000 ∧ p.2 - p.1 ≤ 4
instance (p : Int × Int) : Decidable (OkG p) := by unfold OkG; infer_instance
def OkS (l : List (Int × Int)) : Prop := ∀ p ∈ l, OkG p
instance (l : List (Int × Int)) : Decidable (OkS l) := by unfold OkS; infer_instance
def chkF (l : List (Int × Int)) (t : Int) : Int := if l.length < 1 ∨ 24 < l.length then 6 else if t < 0 ∨ 1000000 < t then 2 else if OkS l then 0 else 2
theorem chkF0 {l : List (Int × Int)} {t : Int} : chkF l t = 0 ↔ (1 ≤ l.length ∧ l.length ≤ 24) ∧ (0 ≤ t ∧ t ≤ 1000000) ∧ OkS l := by
 unfold chkF
 split
 ·exact ⟨fun h => by omega, fun h => by omega⟩
 ·split
  ·exact ⟨fun h => by omega, fun h => by omega⟩
  ·split
   ·exact ⟨fun _ => ⟨by omega, by omega, by assumption⟩, fun _ => rfl⟩
   ·exact ⟨fun h => by omega, fun h => absurd h.2.2 (by assumption)⟩
theorem RdF.cells2 {C : Cx Tryz.prog} {H : List HP} {o : Value} {l : List (Int × Int)} (h : RdF encP 2 C.B C.w0 o l) {i : Nat} (h1 : i < l.length) : Cells C H (elt o i 2) [.int .i64 (l.getD i (0, 0)).1, .int .i64 (l.getD i (0, 0)).2] := RdF.cells h h1 (0, 0)
theorem ref_CheckSpots (w : World) (v : Value) (l : List (Int × Int)) (t : Int) (hR : RdF encP 2 w.heap.size w v l) : Ret Tryz.prog 32 [.agg #[v, .int .i64 t]].toArray w (.int .i64 (chkF l t)) := by
 refine Ret.of mixed tyTab Tryz.func32 rfl rfl ?_
 replace hR : RdF encP 2 (fnCx mixed tyTab Tryz.f32.ntmps w).B (fnCx mixed tyTab Tryz.f32.ntmps w).w0 v l := hR
 have hle := hR.sl.le
 have ho := hR.sl.oc
 refine W.sreg (WO.boxA rfl rfl (fun b1 hb1 => (WO.p rfl rfl (WO.nil (W.seq (W.sreg (WO.field0 rfl rfl rfl (WO.load rfl rfl (Cell.own Pick.head rfl) rfl ?_))))))))
 refine' WO.len (n := _) rfl rfl ?hs rfl ?_
 case hs => exact hR.sl
 refine WO.p rfl rfl (WO.p rfl rfl ?_)
 refine WO.guard_bl rfl rfl (fun c1 => ?_) (fun c1 => ?_)
 ·refine WO.no rfl rfl (WO.no rfl rfl (WO.no rfl rfl (WO.no rfl rfl (WO.p rfl rfl (WO.nil (W.cond_t rfl (W.sreg (WO.p rfl rfl (WO.nil (W.ret (fin.ret (Res.one rfl (RV.tmp rfl)) (congrArg (Value.int .i64) ?_))))))))))))
  first | (unfold chkF; rw [if_pos (by omega)]; done) | (unfold chkF; rw [if_neg (by omega), if_pos (by omega)]; done) | (unfold chkF; rw [if_neg (by omega), if_neg (by omega), if_neg (fun h => by have h1 := h _ (getD_mem (show i < l.length by omega) (0, 0)); unfold OkG at h1; omega)]; done) | (unfold chkF; rw [if_neg (by omega), if_neg (by omega), if_pos (by rw [show i = l.length by omega, List.take_length] at hin; exact hin)]; done)
 ·refine WO.go' rfl (WO.field0 rfl rfl rfl (WO.go' rfl (WO.load rfl rfl (Cell.own Pick.head rfl) rfl (WO.go' rfl ?_))))
  refine' WO.len (n := _) rfl rfl ?hs rfl ?_
  case hs => exact hR.sl
  refine WO.pg rfl rfl rfl (WO.p rfl rfl (WO.nil ?_))
  refine W.cond_bl rfl (fun c2 => ?_) (fun c2 => ?_)
  ·refine W.sreg (WO.p rfl rfl (WO.nil (W.ret (fin.ret (Res.one rfl (RV.tmp rfl)) (congrArg (Value.int .i64) ?_)))))
   first | (unfold chkF; rw [if_pos (by omega)]; done) | (unfold chkF; rw [if_neg (by omega), if_pos (by omega)]; done) | (unfold chkF; rw [if_neg (by omega), if_neg (by omega), if_neg (fun h => by have h1 := h _ (getD_mem (show i < l.length by omega) (0, 0)); unfold OkG at h1; omega)]; done) | (unfold chkF; rw [if_neg (by omega), if_neg (by omega), if_pos (by rw [show i = l.length by omega, List.take_length] at hin; exact hin)]; done)
  ·refine W.skip (W.seq (W.sreg (WO.fieldL rfl rfl rfl (WO.load rfl rfl (Cell.own Pick.head rfl) rfl (WO.p rfl rfl (WO.p rfl rfl ?_))))))
   refine WO.guard_bl rfl rfl (fun c3 => ?_) (fun c3 => ?_)
   ·refine WO.no rfl rfl (WO.no rfl rfl (WO.no rfl rfl (WO.p rfl rfl (WO.nil (W.cond_t rfl (W.sreg (WO.p rfl rfl (WO.nil (W.ret (fin.ret (Res.one rfl (RV.tmp rfl)) (congrArg (Value.int .i64) ?_)))))))))))
    first | (unfold chkF; rw [if_pos (by omega)]; done) | (unfold chkF; rw [if_neg (by omega), if_pos (by omega)]; done) | (unfold chkF; rw [if_neg (by omega), if_neg (by omega), if_neg (fun h => by have h1 := h _ (getD_mem (show i < l.length by omega) (0, 0)); unfold OkG at h1; omega)]; done) | (unfold chkF; rw [if_neg (by omega), if_neg (by omega), if_pos (by rw [show i = l.length by omega, List.take_length] at hin; exact hin)]; done)
   ·refine WO.go' rfl (WO.fieldL rfl rfl rfl (WO.go' rfl (WO.load rfl rfl (Cell.own Pick.head rfl) rfl (WO.pg rfl rfl rfl (WO.p rfl rfl (WO.nil ?_))))))
    refine W.cond_bl rfl (fun c4 => ?_) (fun c4 => ?_)
    ·refine W.sreg (WO.p rfl rfl (WO.nil (W.ret (fin.ret (Res.one rfl (RV.tmp rfl)) (congrArg (Value.int .i64) ?_)))))
     first | (unfold chkF; rw [if_pos (by omega)]; done) | (unfold chkF; rw [if_neg (by omega), if_pos (by omega)]; done) | (unfold chkF; rw [if_neg (by omega), if_neg (by omega), if_neg (fun h => by have h1 := h _ (getD_mem (show i < l.length by omega) (0, 0)); unfold OkG at h1; omega)]; done) | (unfold chkF; rw [if_neg (by omega), if_neg (by omega), if_pos (by rw [show i = l.length by omega, List.take_length] at hin; exact hin)]; done)
    ·refine W.skip (W.seq (W.sreg (WO.p rfl rfl (WO.nil (W.block ?_)))))
     refine W.loop (fun (i : Nat) => i ≤ l.length ∧ OkS (l.take i))
      (fun (i : Nat) => [(3, .int .i64 (i : Int)), (1, .pointer (some ⟨b1, 0, none⟩))])
      (fun (i : Nat) => [pt b1 (.cells #[v, .int .i64 t] 83 (0, 0))])
      (fun (i : Nat) => l.length - i) 0
      (by exact ⟨by omega, fun x hx => by simp at hx⟩) ⟨rfl, rfl, trivial⟩ (by repeat (first | exact Sub.nil | refine Sub.cons (by repeat first | exact .head | apply Pick.tail) ?_)) ?_
     rintro i ⟨hi, hin⟩
     refine W.seq (W.sreg (WO.p rfl rfl (WO.field0 rfl rfl rfl (WO.load rfl rfl (Cell.own Pick.head rfl) rfl ?_))))
     refine' WO.len (n := _) rfl rfl ?hs rfl ?_
     case hs => exact hR.sl
     refine WO.p rfl rfl (WO.nil ?_)
     refine W.cond_bl rfl (fun c5 => ?_) (fun c5 => ?_)
     ·refine W.skip (W.seq (W.block (W.sreg (WO.field0 rfl rfl rfl (WO.load rfl rfl (Cell.own Pick.head rfl) rfl (WO.p rfl rfl ?_))))))
      refine' WO.indexAddr (n := _) (i := _) rfl rfl rfl ?hs ?h1 rfl ?_
      case hs => exact hR.sl
      case h1 => (first | omega | (simp; omega))
      refine' WO.loadA (vs := _) rfl rfl ?hc ?hl rfl ?_
      case hc => exact RdF.cells2 hR (i := i) (by omega)
      case hl => rfl
      refine WO.alloc rfl rfl rfl (fun b2 hb2 => (WO.storeA rfl rfl rfl rfl Pick.head rfl rfl (WO.nil (W.sreg (WO.field0 rfl rfl rfl (WO.load rfl rfl (Cell.own Pick.head rfl) rfl (WO.p rfl rfl (WO.p rfl rfl ?_))))))))
      refine WO.guard_bl rfl rfl (fun c6 => ?_) (fun c6 => ?_)
      ·refine WO.no rfl rfl (WO.no rfl rfl (WO.no rfl rfl (WO.no rfl rfl (WO.no rfl rfl (WO.p rfl rfl (WO.p rfl rfl (WO.no rfl rfl (WO.no rfl rfl (WO.no rfl rfl (WO.p rfl rfl (WO.p rfl rfl (WO.no rfl rfl (WO.no rfl rfl (WO.no rfl rfl (WO.no rfl rfl (WO.no rfl rfl (WO.no rfl rfl (WO.p rfl rfl (WO.nil (W.cond_t rfl (W.sreg (WO.p rfl rfl (WO.nil (W.ret (fin.ret (Res.one rfl (RV.tmp rfl)) (congrArg (Value.int .i64) ?_))))))))))))))))))))))))))
       first | (unfold chkF; rw [if_pos (by omega)]; done) | (unfold chkF; rw [if_neg (by omega), if_pos (by omega)]; done) | (unfold chkF; rw [if_neg (by omega), if_neg (by omega), if_neg (fun h => by have h1 := h _ (getD_mem (show i < l.length by omega) (0, 0)); unfold OkG at h1; omega)]; done) | (unfold chkF; rw [if_neg (by omega), if_neg (by omega), if_pos (by rw [show i = l.length by omega, List.take_length] at hin; exact hin)]; done)
      ·refine WO.go' rfl (WO.field0 rfl rfl rfl (WO.go' rfl (WO.load rfl rfl (Cell.own Pick.head rfl) rfl (WO.go' rfl (WO.fieldL rfl rfl rfl (WO.go' rfl (WO.load rfl rfl (Cell.own Pick.head rfl) rfl (WO.pg rfl rfl rfl (WO.p rfl rfl (WO.p rfl rfl ?_))))))))))
       refine WO.guard_bl rfl rfl (fun c7 => ?_) (fun c7 => ?_)
       ·refine WO.no rfl rfl (WO.no rfl rfl (WO.no rfl rfl (WO.p rfl rfl (WO.p rfl rfl (WO.no rfl rfl (WO.no rfl rfl (WO.no rfl rfl (WO.no rfl rfl (WO.no rfl rfl (WO.no rfl rfl (WO.p rfl rfl (WO.nil (W.cond_t rfl (W.sreg (WO.p rfl rfl (WO.nil (W.ret (fin.ret (Res.one rfl (RV.tmp rfl)) (congrArg (Value.int .i64) ?_)))))))))))))))))))
        first | (unfold chkF; rw [if_pos (by omega)]; done) | (unfold chkF; rw [if_neg (by omega), if_pos (by omega)]; done) | (unfold chkF; rw [if_neg (by omega), if_neg (by omega), if_neg (fun h => by have h1 := h _ (getD_mem (show i < l.length by omega) (0, 0)); unfold OkG at h1; omega)]; done) | (unfold chkF; rw [if_neg (by omega), if_neg (by omega), if_pos (by rw [show i = l.length by omega, List.take_length] at hin; exact hin)]; done)
       ·refine WO.go' rfl (WO.fieldL rfl rfl rfl (WO.go' rfl (WO.load rfl rfl (Cell.own Pick.head rfl) rfl (WO.pg rfl rfl rfl (WO.p rfl rfl (WO.p rfl rfl ?_))))))
        refine WO.guard_bl rfl rfl (fun c8 => ?_) (fun c8 => ?_)
        ·refine WO.no rfl rfl (WO.no rfl rfl (WO.no rfl rfl (WO.no rfl rfl (WO.no rfl rfl (WO.no rfl rfl (WO.p rfl rfl (WO.nil (W.cond_t rfl (W.sreg (WO.p rfl rfl (WO.nil (W.ret (fin.ret (Res.one rfl (RV.tmp rfl)) (congrArg (Value.int .i64) ?_))))))))))))))
         first | (unfold chkF; rw [if_pos (by omega)]; done) | (unfold chkF; rw [if_neg (by omega), if_pos (by omega)]; done) | (unfold chkF; rw [if_neg (by omega), if_neg (by omega), if_neg (fun h => by have h1 := h _ (getD_mem (show i < l.length by omega) (0, 0)); unfold OkG at h1; omega)]; done) | (unfold chkF; rw [if_neg (by omega), if_neg (by omega), if_pos (by rw [show i = l.length by omega, List.take_length] at hin; exact hin)]; done)
        ·refine WO.go' rfl (WO.fieldL rfl rfl rfl (WO.go' rfl (WO.load rfl rfl (Cell.own Pick.head rfl) rfl (WO.go' rfl (WO.field0 rfl rfl rfl (WO.go' rfl (WO.load rfl rfl (Cell.own Pick.head rfl) rfl (WO.go' rfl (WO.ar rfl rfl rfl (by unfold in64; omega) rfl (WO.pg rfl rfl rfl (WO.p rfl rfl (WO.nil ?_))))))))))))
         refine W.cond_bl rfl (fun c9 => ?_) (fun c9 => ?_)
         ·refine W.sreg (WO.p rfl rfl (WO.nil (W.ret (fin.ret (Res.one rfl (RV.tmp rfl)) (congrArg (Value.int .i64) ?_)))))
          first | (unfold chkF; rw [if_pos (by omega)]; done) | (unfold chkF; rw [if_neg (by omega), if_pos (by omega)]; done) | (unfold chkF; rw [if_neg (by omega), if_neg (by omega), if_neg (fun h => by have h1 := h _ (getD_mem (show i < l.length by omega) (0, 0)); unfold OkG at h1; omega)]; done) | (unfold chkF; rw [if_neg (by omega), if_neg (by omega), if_pos (by rw [show i = l.length by omega, List.take_length] at hin; exact hin)]; done)
         ·refine W.skip (W.region (WO.p rfl rfl (WO.ar rfl rfl rfl (by unfold in64; omega) rfl (WO.p rfl rfl (WO.nil ?_)))))
          refine' ⟨i + 1, ?hp, ?hmu, ⟨rfl, rfl, trivial⟩, ?hS⟩
          case hS => repeat (first | exact Sub.nil | refine Sub.cons (by repeat first | exact .head | apply Pick.tail) ?_)
          case hp => exact ⟨by omega, all_succ (by omega) (0, 0) hin (by unfold OkG; omega)⟩
          case hmu => omega
     ·refine W.exit (blk_same (W.sreg (WO.p rfl rfl (WO.nil (W.ret (fin.ret (Res.one rfl (RV.tmp rfl)) (congrArg (Value.int .i64) ?_)))))))
      first | (unfold chkF; rw [if_pos (by omega)]; done) | (unfold chkF; rw [if_neg (by omega), if_pos (by omega)]; done) | (unfold chkF; rw [if_neg (by omega), if_neg (by omega), if_neg (fun h => by have h1 := h _ (getD_mem (show i < l.length by omega) (0, 0)); unfold OkG at h1; omega)]; done) | (unfold chkF; rw [if_neg (by omega), if_neg (by omega), if_pos (by rw [show i = l.length by omega, List.take_length] at hin; exact hin)]; done)
theorem c_within1 (w : World) (x lo hi : Int) (p q : Addr) (h1 : Cap w p (.int .i64 lo)) (h2 : Cap w q (.int .i64 hi)) : Ret Tryz.prog 126 [.int .i64 x, .pointer (some p), .pointer (some q)].toArray w (.bool (bl (¬ (lo ≤ x ∧ x ≤ hi)))) := by
 refine Ret.of mixed tyTab Tryz.func126 rfl rfl ?_
 replace h1 : Cap (fnCx mixed tyTab Tryz.f126.ntmps w).w0 p (.int .i64 lo) := h1
 replace h2 : Cap (fnCx mixed tyTab Tryz.f126.ntmps w).w0 q (.int .i64 hi) := h2
 refine W.sreg (WO.p rfl rfl (WO.nil (W.sreg (WO.p rfl rfl ?_))))
 refine' WO.load (v := _) rfl rfl ?hc rfl ?_
 case hc => (refine Cap.cell (v := .int .i64 lo) rfl h1)
 refine WO.p rfl rfl (WO.p rfl rfl ?_)
 refine WO.guard_bl rfl rfl (fun c1 => ?_) (fun c1 => ?_)
 ·refine WO.no rfl rfl (WO.no rfl rfl (WO.no rfl rfl (WO.p rfl rfl (WO.p rfl rfl (WO.nil (W.ret (fin.ret (Res.one rfl (RV.tmp rfl)) (congrArg Value.bool ?_))))))))
  first | exact (bl_t.2 (by omega)).symm | (rw [bl_eq, bl_eq, decide_eq_decide]; omega)
 ·refine WO.pg rfl rfl rfl (WO.go' rfl ?_)
  refine' WO.load (v := _) rfl rfl ?hc rfl ?_
  case hc => (refine Cap.cell (v := .int .i64 hi) rfl h2)
  refine WO.pg rfl rfl rfl (WO.p rfl rfl (WO.p rfl rfl (WO.nil (W.ret (fin.ret (Res.one rfl (RV.tmp rfl)) (congrArg Value.bool ?_))))))
  first | exact (bl_t.2 (by omega)).symm | (rw [bl_eq, bl_eq, decide_eq_decide]; omega)
theorem c_IndexI (w : World) (v : Value) (xs : List Int) (lo hi : Int) (p q : Addr) (hR : RdF encI 1 w.heap.size w v xs) (h1 : Cap w p (.int .i64 lo)) (h2 : Cap w q (.int .i64 hi)) : RetE Tryz.prog 222 [v, .func (.func 126) #[] #[.pointer (some p), .pointer (some q)]].toArray w (fun r => ∃ n : Int, r = .int .i64 n ∧ (0 ≤ n ↔ ¬ ∀ x ∈ xs, lo ≤ x ∧ x ≤ hi)) := by
 refine RetE.of mixed tyTab Tryz.func222 rfl rfl ?_
 replace hR : RdF encI 1 (fnCx mixed tyTab Tryz.f222.ntmps w).B (fnCx mixed tyTab Tryz.f222.ntmps w).w0 v xs := hR
 replace h1 : Cap (fnCx mixed tyTab Tryz.f222.ntmps w).w0 p (.int .i64 lo) := h1
 replace h2 : Cap (fnCx mixed tyTab Tryz.f222.ntmps w).w0 q (.int .i64 hi) := h2
 have hle := hR.sl.le
 refine W.sreg (WO.p rfl rfl (WO.nil (W.seq (W.sreg (WO.p rfl rfl ?_)))))
 refine' WO.len (n := _) rfl rfl ?hs rfl ?_
 case hs => exact hR.sl
 refine WO.p rfl rfl (WO.nil (W.block ?_))
 refine W.loop (fun (i : Nat) => i ≤ xs.length ∧ ∀ x ∈ xs.take i, lo ≤ x ∧ x ≤ hi)
  (fun (i : Nat) => [(8, .int .i64 (i : Int)), (7, .int .i64 (xs.length : Int)), (0, v), (1, .func (.func 126) #[] #[.pointer (some p), .pointer (some q)])])
  (fun (i : Nat) => [])
  (fun (i : Nat) => xs.length - i) 0
  (by exact ⟨by omega, by simp⟩) ⟨rfl, rfl, rfl, rfl, trivial⟩ (by repeat (first | exact Sub.nil | refine Sub.cons (by repeat first | exact .head | apply Pick.tail) ?_)) ?_
 rintro i ⟨hi0, hal⟩
 refine W.sreg (WO.p rfl rfl (WO.nil (W.seq ?_)))
 refine W.cond_bl rfl (fun c1 => ?_) (fun c1 => ?_)
 ·refine W.skip (W.seq (W.block (W.sreg (WO.p rfl rfl (WO.p rfl rfl (WO.nil (W.sreg (WO.p rfl rfl (WO.p rfl rfl (WO.p rfl rfl ?_))))))))))
  refine' WO.indexAddr (n := _) (i := _) rfl rfl rfl ?hs ?h1 rfl ?_
  case hs => exact hR.sl
  case h1 => (first | omega | (simp; omega))
  refine' WO.load (v := _) rfl rfl ?hc rfl ?_
  case hc => (first | (refine hR.cell0 ?_ 0 ?_ <;> first | rfl | omega))
  refine WO.callCR (first := []) (captured := [.pointer (some p), .pointer (some q)]) rfl rfl Tryz.call126 (fun L w hi' => c_within1 w (xs.getD i 0) lo hi p q (h1.old rfl hi') (h2.old rfl hi')) rfl (WO.nil ?_)
  refine W.cond_bl rfl (fun c2 => ?_) (fun c2 => ?_)
  ·refine W.sreg (WO.p rfl rfl (WO.p rfl rfl (WO.nil (W.ret ?_))))
   exact fin.ret (Res.one rfl (RV.tmp rfl)) ⟨_, rfl, by first | exact ⟨fun h => by omega, fun h => absurd (all_len (by omega) hal) h⟩ | exact ⟨fun _ => not_all_getD (i := i) (by omega) 0 (by assumption), fun _ => by omega⟩⟩
  ·refine W.skip (W.region (WO.ar rfl rfl rfl (by unfold in64; omega) rfl (WO.p rfl rfl (WO.nil ?_))))
   refine' ⟨i + 1, ?hp, ?hmu, ⟨rfl, rfl, rfl, rfl, trivial⟩, ?hS⟩
   case hS => repeat (first | exact Sub.nil | refine Sub.cons (by repeat first | exact .head | apply Pick.tail) ?_)
   case hp => exact ⟨by omega, all_succ (by omega) 0 hal (Decidable.not_not.1 (by assumption))⟩
   case hmu => omega
 ·refine W.exit (blk_same (W.sreg (WO.p rfl rfl (WO.nil (W.ret ?_)))))
  exact fin.ret (Res.one rfl (RV.tmp rfl)) ⟨_, rfl, by first | exact ⟨fun h => by omega, fun h => absurd (all_len (by omega) hal) h⟩ | exact ⟨fun _ => not_all_getD (i := i) (by omega) 0 (by assumption), fun _ => by omega⟩⟩
theorem c_ContI (w : World) (v : Value) (xs : List Int) (lo hi : Int) (p q : Addr) (hR : RdF encI 1 w.heap.size w v xs) (h1 : Cap w p (.int .i64 lo)) (h2 : Cap w q (.int .i64 hi)) : Ret Tryz.prog 125 [v, .func (.func 126) #[] #[.pointer (some p), .pointer (some q)]].toArray w (.bool (bl (¬ ∀ x ∈ xs, lo ≤ x ∧ x ≤ hi))) := by
 refine Ret.of mixed tyTab Tryz.func125 rfl rfl ?_
 replace hR : RdF encI 1 (fnCx mixed tyTab Tryz.f125.ntmps w).B (fnCx mixed tyTab Tryz.f125.ntmps w).w0 v xs := hR
 replace h1 : Cap (fnCx mixed tyTab Tryz.f125.ntmps w).w0 p (.int .i64 lo) := h1
 replace h2 : Cap (fnCx mixed tyTab Tryz.f125.ntmps w).w0 q (.int .i64 hi) := h2
 refine W.sreg (WO.p rfl rfl (WO.nil (W.sreg (WO.p rfl rfl (WO.p rfl rfl (WO.callE rfl Tryz.call222 (fun L w hi' => c_IndexI w v xs lo hi p q (hR.later hi') (h1.old rfl hi') (h2.old rfl hi')) rfl ?_))))))
 rintro _ ⟨n, rfl, hn⟩
 refine WO.p rfl rfl (WO.p rfl rfl (WO.nil (W.ret (fin.ret (Res.one rfl (RV.tmp rfl)) (congrArg Value.bool ?_)))))
 rw [bl_eq, bl_eq]; exact decide_eq_decide.2 hn
theorem c_within (w : World) (v : Value) (xs : List Int) (lo hi : Int) (hR : RdF encI 1 w.heap.size w v xs) : Ret Tryz.prog 50 [.int .i64 lo, .int .i64 hi, v].toArray w (.bool (bl (∀ x ∈ xs, lo ≤ x ∧ x ≤ hi))) := by
 refine Ret.of mixed tyTab Tryz.func50 rfl rfl ?_
 replace hR : RdF encI 1 (fnCx mixed tyTab Tryz.f50.ntmps w).B (fnCx mixed tyTab Tryz.f50.ntmps w).w0 v xs := hR
 refine W.sreg (WO.box1 rfl (by first | rfl | assumption) rfl (fun b1 hb1 => (WO.box1 rfl (by first | rfl | assumption) rfl (fun b2 hb2 => (WO.p rfl rfl (WO.nil (W.sreg (WO.p rfl rfl (WO.p rfl rfl (WO.callR rfl Tryz.call125 (fun L w hi' => c_ContI w v xs lo hi _ _ (hR.later hi') (Cap.of (b := b1) (by repeat first | exact .head | apply Pick.tail) rfl hi') (Cap.of (b := b2) (by repeat first | exact .head | apply Pick.tail) rfl hi')) rfl (WO.p rfl rfl (WO.p rfl rfl (WO.nil (W.ret (fin.ret (Res.one rfl (RV.tmp rfl)) (congrArg Value.bool ?_))))))))))))))))
 rcases Decidable.em (∀ x ∈ xs, lo ≤ x ∧ x ≤ hi) with h | h
 ·(rw [bl_t.2 h, bl_f.2 (fun g => g h)]; try rfl)
 ·(rw [bl_f.2 h, bl_t.2 h]; try rfl)
theorem all1 {lo hi x : Int} : bl (∀ y ∈ [x], lo ≤ y ∧ y ≤ hi) = bl (lo ≤ x ∧ x ≤ hi) := by rw [bl_eq, bl_eq, decide_eq_decide]; simp
theorem all2 {lo hi x z : Int} : bl (∀ y ∈ [x, z], lo ≤ y ∧ y ≤ hi) = bl (lo ≤ x ∧ x ≤ hi ∧ lo ≤ z ∧ z ≤ hi) := by rw [bl_eq, bl_eq, decide_eq_decide]; simp; omega
theorem nbl {p q : Prop} [Decidable p] [Decidable q] (h : ¬ p ↔ q) : (!bl p) = bl q := by
 rw [bl_eq, bl_eq]
 by_cases g : p
 ·simp [g]; exact fun x => h.2 x g
 ·simp [g, h.1 g]
theorem c_bad (w : World) (p : Int × Int) : Ret Tryz.prog 159 [.agg #[.int .i64 p.1, .int .i64 p.2]].toArray w (.bool (bl (¬ OkG p))) := by
 refine Ret.of mixed tyTab Tryz.func159 rfl rfl (W.sreg (WO.boxA rfl rfl (fun b1 hb1 => (WO.p rfl rfl (WO.nil (W.sreg (WO.field0 rfl rfl rfl (WO.load rfl rfl (Cell.own Pick.head rfl) rfl (WO.fieldL rfl rfl rfl (WO.load rfl rfl (Cell.own Pick.head rfl) rfl ?_))))))))))
 refine' WO.buildSl (cs := _) rfl rfl rfl rfl ?hf rfl rfl ?hl rfl (fun v2 => ?_)
 case hf => rfl
 case hl => rfl
 refine WO.callR (r := .bool (bl (-1000000 ≤ p.1 ∧ p.1 ≤ 1000000 ∧ -1000000 ≤ p.2 ∧ p.2 ≤ 1000000))) rfl Tryz.call50 (fun L w hi => by rw [← all2]; exact c_within w _ [p.1, p.2] _ _ (RdF.of_ow (e := 2) encI_ok (by repeat first | exact .head | apply Pick.tail) hi)) rfl (WO.p rfl rfl (WO.p rfl rfl ?_))
 refine WO.guard_nbl rfl rfl (fun c1 => ?_) (fun c1 => ?_)
 ·refine WO.no rfl rfl (WO.no rfl rfl (WO.no rfl rfl (WO.no rfl rfl (WO.no rfl rfl (WO.no rfl rfl (WO.no rfl rfl (WO.no rfl rfl (WO.p rfl rfl (WO.p rfl rfl (WO.nil (W.ret (fin.ret (Res.one rfl (RV.tmp rfl)) (congrArg Value.bool ?_)))))))))))))
  first | exact (bl_t.2 (by unfold OkG; omega)).symm | exact (bl_f.2 (by unfold OkG; omega)).symm | (refine nbl ?_; unfold OkG; omega) | (rw [bl_eq, bl_eq, decide_eq_decide]; unfold OkG; omega)
 ·refine WO.go' rfl (WO.fieldL rfl rfl rfl (WO.go' rfl (WO.load rfl rfl (Cell.own (Pick.tail (Pick.head)) rfl) rfl (WO.go' rfl (WO.field0 rfl rfl rfl (WO.go' rfl (WO.load rfl rfl (Cell.own (Pick.tail (Pick.head)) rfl) rfl (WO.go' rfl (WO.ar rfl rfl rfl (by unfold in64; omega) rfl (WO.go' rfl ?_))))))))))
  refine' WO.buildSl (cs := _) rfl rfl rfl rfl ?hf rfl rfl ?hl rfl (fun v3 => ?_)
  case hf => rfl
  case hl => rfl
  refine WO.go' rfl (WO.callR (r := .bool (bl (0 ≤ p.2 - p.1 ∧ p.2 - p.1 ≤ 4))) rfl Tryz.call50 (fun L w hi => by rw [← all1]; exact c_within w _ [p.2 - p.1] _ _ (RdF.of_ow (e := 2) encI_ok (by repeat first | exact .head | apply Pick.tail) hi)) rfl (WO.pg rfl rfl rfl (WO.p rfl rfl (WO.p rfl rfl (WO.nil (W.ret (fin.ret (Res.one rfl (RV.tmp rfl)) (congrArg Value.bool ?_))))))))
  first | exact (bl_t.2 (by unfold OkG; omega)).symm | exact (bl_f.2 (by unfold OkG; omega)).symm | (refine nbl ?_; unfold OkG; omega) | (rw [bl_eq, bl_eq, decide_eq_decide]; unfold OkG; omega)
theorem c_IndexP (w : World) (v : Value) (l : List (Int × Int)) (hR : RdF encP 2 w.heap.size w v l) : RetE Tryz.prog 242 [v, .func (.func 159) #[] #[]].toArray w (fun r => ∃ n : Int, r = .int .i64 n ∧ (0 ≤ n ↔ ¬ OkS l)) := by
 refine RetE.of mixed tyTab Tryz.func242 rfl rfl ?_
 replace hR : RdF encP 2 (fnCx mixed tyTab Tryz.f242.ntmps w).B (fnCx mixed tyTab Tryz.f242.ntmps w).w0 v l := hR
 have hle := hR.sl.le
 refine W.sreg (WO.p rfl rfl (WO.nil (W.seq (W.sreg (WO.p rfl rfl ?_)))))
 refine' WO.len (n := _) rfl rfl ?hs rfl ?_
 case hs => exact hR.sl
 refine WO.p rfl rfl (WO.nil (W.block ?_))
 refine W.loop (fun (i : Nat) => i ≤ l.length ∧ OkS (l.take i))
  (fun (i : Nat) => [(8, .int .i64 (i : Int)), (7, .int .i64 (l.length : Int)), (0, v), (1, .func (.func 159) #[] #[])])
  (fun (i : Nat) => [])
  (fun (i : Nat) => l.length - i) 0
  (by exact ⟨by omega, fun x hx => by simp at hx⟩) ⟨rfl, rfl, rfl, rfl, trivial⟩ (by repeat (first | exact Sub.nil | refine Sub.cons (by repeat first | exact .head | apply Pick.tail) ?_)) ?_
 rintro i ⟨hi0, hal⟩
 refine W.sreg (WO.p rfl rfl (WO.nil (W.seq ?_)))
 refine W.cond_bl rfl (fun c1 => ?_) (fun c1 => ?_)
 ·refine W.skip (W.seq (W.block (W.sreg (WO.p rfl rfl (WO.p rfl rfl (WO.nil (W.sreg (WO.p rfl rfl (WO.p rfl rfl (WO.p rfl rfl ?_))))))))))
  refine' WO.indexAddr (n := _) (i := _) rfl rfl rfl ?hs ?h1 rfl ?_
  case hs => exact hR.sl
  case h1 => (first | omega | (simp; omega))
  refine' WO.loadA (vs := _) rfl rfl ?hc ?hl rfl ?_
  case hc => exact RdF.cells2 hR (i := i) (by omega)
  case hl => rfl
  refine WO.callCR (first := []) (captured := []) rfl rfl Tryz.call159 (fun L w hi' => c_bad w (l.getD i (0, 0))) rfl (WO.nil ?_)
  refine W.cond_bl rfl (fun c2 => ?_) (fun c2 => ?_)
  ·refine W.sreg (WO.p rfl rfl (WO.p rfl rfl (WO.nil (W.ret ?_))))
   exact fin.ret (Res.one rfl (RV.tmp rfl)) ⟨_, rfl, by first | exact ⟨fun h => by omega, fun h => absurd (all_len (by omega) hal) h⟩ | exact ⟨fun _ => not_all_getD (i := i) (by omega) (0, 0) (by assumption), fun _ => by omega⟩⟩
  ·refine W.skip (W.region (WO.ar rfl rfl rfl (by unfold in64; omega) rfl (WO.p rfl rfl (WO.nil ?_))))
   refine' ⟨i + 1, ?hp, ?hmu, ⟨rfl, rfl, rfl, rfl, trivial⟩, ?hS⟩
   case hS => repeat (first | exact Sub.nil | refine Sub.cons (by repeat first | exact .head | apply Pick.tail) ?_)
   case hp => exact ⟨by omega, all_succ (by omega) (0, 0) hal (Decidable.not_not.1 (by assumption))⟩
   case hmu => omega
 ·refine W.exit (blk_same (W.sreg (WO.p rfl rfl (WO.nil (W.ret ?_)))))
  exact fin.ret (Res.one rfl (RV.tmp rfl)) ⟨_, rfl, by first | exact ⟨fun h => by omega, fun h => absurd (all_len (by omega) hal) h⟩ | exact ⟨fun _ => not_all_getD (i := i) (by omega) (0, 0) (by assumption), fun _ => by omega⟩⟩
theorem c_ContP (w : World) (v : Value) (l : List (Int × Int)) (hR : RdF encP 2 w.heap.size w v l) : Ret Tryz.prog 160 [v, .func (.func 159) #[] #[]].toArray w (.bool (bl (¬ OkS l))) := by
 refine Ret.of mixed tyTab Tryz.func160 rfl rfl ?_
 replace hR : RdF encP 2 (fnCx mixed tyTab Tryz.f160.ntmps w).B (fnCx mixed tyTab Tryz.f160.ntmps w).w0 v l := hR
 refine W.sreg (WO.p rfl rfl (WO.nil (W.sreg (WO.p rfl rfl (WO.p rfl rfl (WO.callE rfl Tryz.call242 (fun L w hi' => c_IndexP w v l (hR.later hi')) rfl ?_))))))
 rintro _ ⟨n, rfl, hn⟩
 refine WO.p rfl rfl (WO.p rfl rfl (WO.nil (W.ret (fin.ret (Res.one rfl (RV.tmp rfl)) (congrArg Value.bool ?_)))))
 rw [bl_eq, bl_eq]; exact decide_eq_decide.2 hn
theorem c_CheckSpots (w : World) (v : Value) (l : List (Int × Int)) (t : Int) (hR : RdF encP 2 w.heap.size w v l) : Ret Tryz.prog 78 [.agg #[v, .int .i64 t]].toArray w (.int .i64 (chkF l t)) := by
 refine Ret.of mixed tyTab Tryz.func78 rfl rfl ?_
 replace hR : RdF encP 2 (fnCx mixed tyTab Tryz.f78.ntmps w).B (fnCx mixed tyTab Tryz.f78.ntmps w).w0 v l := hR
 have ho := hR.sl.oc
 refine W.sreg (WO.boxA rfl rfl (fun b1 hb1 => (WO.p rfl rfl (WO.nil (W.sreg (WO.p rfl rfl (WO.nil (W.seq (W.block (W.sreg (WO.field0 rfl rfl rfl (WO.load rfl rfl (Cell.own Pick.head rfl) rfl ?_))))))))))))
 refine' WO.len (n := _) rfl rfl ?hs rfl ?_
 case hs => exact hR.sl
 refine WO.p rfl rfl (WO.p rfl rfl ?_)
 refine WO.guard_bl rfl rfl (fun c1 => ?_) (fun c1 => ?_)
 ·refine WO.no rfl rfl (WO.no rfl rfl (WO.no rfl rfl (WO.no rfl rfl (WO.p rfl rfl (WO.p rfl rfl (WO.nil (W.cond_t rfl (W.sreg (WO.p rfl rfl (WO.nil (W.ret (fin.ret (Res.one rfl (RV.tmp rfl)) (congrArg (Value.int .i64) ?_)))))))))))))
  first | (unfold chkF; rw [if_pos (by omega)]; done) | (unfold chkF; rw [if_neg (by omega), if_pos (by omega)]; done) | (unfold chkF; rw [if_neg (by omega), if_neg (by omega), if_neg (by assumption)]; done) | (unfold chkF; rw [if_neg (by omega), if_neg (by omega), if_pos (Decidable.not_not.1 (by assumption))]; done)
 ·refine WO.go' rfl (WO.field0 rfl rfl rfl (WO.go' rfl (WO.load rfl rfl (Cell.own Pick.head rfl) rfl (WO.go' rfl ?_))))
  refine' WO.len (n := _) rfl rfl ?hs rfl ?_
  case hs => exact hR.sl
  refine WO.pg rfl rfl rfl (WO.p rfl rfl (WO.p rfl rfl (WO.nil ?_)))
  refine W.cond_bl rfl (fun c2 => ?_) (fun c2 => ?_)
  ·refine W.sreg (WO.p rfl rfl (WO.nil (W.ret (fin.ret (Res.one rfl (RV.tmp rfl)) (congrArg (Value.int .i64) ?_)))))
   first | (unfold chkF; rw [if_pos (by omega)]; done) | (unfold chkF; rw [if_neg (by omega), if_pos (by omega)]; done) | (unfold chkF; rw [if_neg (by omega), if_neg (by omega), if_neg (by assumption)]; done) | (unfold chkF; rw [if_neg (by omega), if_neg (by omega), if_pos (Decidable.not_not.1 (by assumption))]; done)
  ·refine W.sreg (WO.fieldL rfl rfl rfl (WO.load rfl rfl (Cell.own Pick.head rfl) rfl ?_))
   refine' WO.buildSl (cs := _) rfl rfl rfl rfl ?hf rfl rfl ?hl rfl (fun v2 => ?_)
   case hf => rfl
   case hl => rfl
   refine WO.callR (r := .bool (bl (0 ≤ t ∧ t ≤ 1000000))) rfl Tryz.call50 (fun L w hi => by rw [← all1]; exact c_within w _ [t] _ _ (RdF.of_ow (e := 2) encI_ok (by repeat first | exact .head | apply Pick.tail) hi)) rfl (WO.p rfl rfl (WO.p rfl rfl ?_))
   refine WO.guard_nbl rfl rfl (fun c3 => ?_) (fun c3 => ?_)
   ·refine WO.no rfl rfl (WO.no rfl rfl (WO.no rfl rfl (WO.no rfl rfl (WO.p rfl rfl (WO.p rfl rfl (WO.nil (W.cond_t rfl (W.sreg (WO.p rfl rfl (WO.nil (W.ret (fin.ret (Res.one rfl (RV.tmp rfl)) (congrArg (Value.int .i64) ?_)))))))))))))
    first | (unfold chkF; rw [if_pos (by omega)]; done) | (unfold chkF; rw [if_neg (by omega), if_pos (by omega)]; done) | (unfold chkF; rw [if_neg (by omega), if_neg (by omega), if_neg (by assumption)]; done) | (unfold chkF; rw [if_neg (by omega), if_neg (by omega), if_pos (Decidable.not_not.1 (by assumption))]; done)
   ·refine WO.go' rfl (WO.field0 rfl rfl rfl (WO.go' rfl (WO.load rfl rfl (Cell.own (Pick.tail (Pick.head)) rfl) rfl (WO.pg rfl rfl rfl (WO.go' rfl (WO.callR rfl Tryz.call160 (fun L w hi' => c_ContP w v l (hR.later hi')) rfl (WO.p rfl rfl (WO.p rfl rfl (WO.nil ?_)))))))))
    refine W.cond_bl rfl (fun c4 => ?_) (fun c4 => ?_)
    ·refine W.sreg (WO.p rfl rfl (WO.nil (W.ret (fin.ret (Res.one rfl (RV.tmp rfl)) (congrArg (Value.int .i64) ?_)))))
     first | (unfold chkF; rw [if_pos (by omega)]; done) | (unfold chkF; rw [if_neg (by omega), if_pos (by omega)]; done) | (unfold chkF; rw [if_neg (by omega), if_neg (by omega), if_neg (by assumption)]; done) | (unfold chkF; rw [if_neg (by omega), if_neg (by omega), if_pos (Decidable.not_not.1 (by assumption))]; done)
    ·refine W.skip (W.sreg (WO.p rfl rfl (WO.nil (W.ret (fin.ret (Res.one rfl (RV.tmp rfl)) (congrArg (Value.int .i64) ?_))))))
     first | (unfold chkF; rw [if_pos (by omega)]; done) | (unfold chkF; rw [if_neg (by omega), if_pos (by omega)]; done) | (unfold chkF; rw [if_neg (by omega), if_neg (by omega), if_neg (by assumption)]; done) | (unfold chkF; rw [if_neg (by omega), if_neg (by omega), if_pos (Decidable.not_not.1 (by assumption))]; done)
end Go.Proofs.YtnehaifgcegemaaGreat.Fa
namespace Go.Proofs.YtnehaifgcegemaaGreat.Fa
open Go Go.TH
attribute [local irreducible] W WO pt
set_option maxRecDepth 10000
set_option maxHeartbeats 1000000
def sg (s : Nat) (d : Int) : Nat := if 0 < d then 1 else if d < 0 then 2 else s
def chg (s : Nat) (d : Int) : Nat := if s ≠ 0 ∧ sg s d ≠ s then 1 else 0
def ab (n : Int) : Int := max n (-n)
theorem sg_le {s : Nat} {d : Int} (h : s ≤ 2) : sg s d ≤ 2 := by unfold sg; split; omega; split <;> omega
theorem chg_le (s : Nat) (d : Int) : chg s d ≤ 1 := by unfold chg; split <;> omega
theorem sg_1 {s : Nat} {d : Int} (h : 0 < d) : sg s d = 1 := if_pos h
theorem sg_2 {s : Nat} {d : Int} (h : d < 0) : sg s d = 2 := by unfold sg; rw [if_neg (by omega), if_pos h]
theorem sg_0 {s : Nat} {d : Int} (h : ¬ d > 0) (h2 : ¬ d < 0) : sg s d = s := by unfold sg; rw [if_neg (by omega), if_neg h2]
theorem nx_eq {s : Nat} {d : Int} {z z' : Nat} (h1 : sg s d = z) (h2 : chg s d = z') : (Value.tuple #[.agg #[.int .i64 (z : Int)], .int .i64 (z' : Int)]) = .tuple #[.agg #[.int .i64 (sg s d : Int)], .int .i64 (chg s d : Int)] := by rw [h1, h2]
def bds (l : List Int) : List Int := (List.range (l.length - 2)).map fun i => l.getD i 0 - 2 * l.getD (i + 1) 0 + l.getD (i + 2) 0
theorem bds_len (l : List Int) : (bds l).length = l.length - 2 := by simp [bds]
theorem bds_get {l : List Int} {i : Nat} (h : i + 2 < l.length) : (bds l).getD i 0 = l.getD i 0 - 2 * l.getD (i + 1) 0 + l.getD (i + 2) 0 := by
 unfold bds
 rw [List.getD_eq_getElem?_getD, List.getElem?_map, List.getElem?_range (by omega)]
 rfl
def nxt (a : Nat × Nat × Int) (d : Int) : Nat × Nat × Int := (sg a.1 d, a.2.1 + chg a.1 d, a.2.2 + ab d)
def mst (s : Nat) (ds : List Int) : Nat × Nat × Int := ds.foldl nxt (s, 0, 0)
def chL (l : List Int) : Nat := (mst 0 (bds l)).2.1
def beL (l : List Int) : Int := (mst 0 (bds l)).2.2
theorem mst_succ {s : Nat} {ds : List Int} {k : Nat} (h : k < ds.length) : mst s (ds.take (k + 1)) = nxt (mst s (ds.take k)) (ds.getD k 0) := by
 unfold mst; rw [take_succ_getD h 0, List.foldl_append]; rfl
def OkI (l : List Int) : Prop := ∀ x ∈ l, -1000000 ≤ x ∧ x ≤ 1000000
instance (l : List Int) : Decidable (OkI l) := by unfold OkI; infer_instance
theorem ab_bd {d : Int} (h : -4000000 ≤ d ∧ d ≤ 4000000) : 0 ≤ ab d ∧ ab d ≤ 4000000 := by unfold ab; omega
theorem bd_in {l : List Int} (h : OkI l) {i : Nat} (hi : i + 2 < l.length) : -4000000 ≤ (bds l).getD i 0 ∧ (bds l).getD i 0 ≤ 4000000 := by
 rw [bds_get hi]
 have h1 := h _ (getD_mem (i := i) (by omega) 0)
 have h2 := h _ (getD_mem (i := i + 1) (by omega) 0)
 have h3 := h _ (getD_mem (i := i + 2) (by omega) 0)
 omega
theorem mst_bd {l : List Int} (h : OkI l) : ∀ {k : Nat}, k ≤ l.length - 2 → (mst 0 ((bds l).take k)).1 ≤ 2 ∧ (mst 0 ((bds l).take k)).2.1 ≤ k ∧ 0 ≤ (mst 0 ((bds l).take k)).2.2 ∧ (mst 0 ((bds l).take k)).2.2 ≤ 4000000 * k
 | 0, _ => by simp [mst]
 | k + 1, hk => by
  have ih := mst_bd h (k := k) (by omega)
  rw [mst_succ (by rw [bds_len]; omega)]
  have h1 := ab_bd (bd_in h (i := k) (by omega))
  have h2 := chg_le (mst 0 ((bds l).take k)).1 ((bds l).getD k 0)
  have h3 := sg_le (d := (bds l).getD k 0) ih.1
  unfold nxt
  simp only
  omega
theorem mea_bd {l : List Int} (h : OkI l) : chL l ≤ l.length ∧ 0 ≤ beL l ∧ beL l ≤ 4000000 * l.length := by
 have := mst_bd h (k := l.length - 2) (by omega)
 rw [List.take_of_length_le (by rw [bds_len]; omega)] at this
 unfold chL beL
 omega
theorem isSl_lit {a0 : Option Addr} {n c : Nat} (h : n ≤ 9223372036854775807) (h2 : 0 < n → ∃ b o, a0 = some ⟨b, o, none⟩) : IsSl (.slice a0 n c) n := ⟨h, a0, c, rfl, h2⟩
theorem RdF.cellI2 {C : Cx Tryz.prog} {H : List HP} {v : Value} {xs : List Int} {i j : Nat} {z : Int} (h : RdF encI 1 C.B C.w0 v xs) (hl : i < xs.length) (hz : z = xs.getD i 0) (hj : j = i) : Cell C H (elt v j 1) (.int .i64 z) := by
 subst hz hj
 exact h.cell0 hl 0 rfl
theorem c_next (w : World) (s : Nat) (d : Int) (hs : s ≤ 2) : Ret Tryz.prog 127 [.agg #[.int .i64 (s : Int)], .int .i64 d].toArray w (.tuple #[.agg #[.int .i64 (sg s d : Int)], .int .i64 (chg s d : Int)]) := by
 refine Ret.of mixed tyTab Tryz.func127 rfl rfl (W.sreg (WO.boxA rfl rfl (fun b1 hb1 => (WO.alloc rfl rfl rfl (fun b2 hb2 => (WO.p rfl rfl (WO.nil (W.sreg (WO.field0 rfl rfl rfl (WO.load rfl rfl (Cell.own (Pick.tail (Pick.head)) rfl) rfl (WO.p rfl rfl (WO.nil (W.seq (W.block (W.sreg (WO.p rfl rfl (WO.p rfl rfl (WO.p rfl rfl (WO.nil ?_)))))))))))))))))))
 refine W.cond_bl rfl (fun c1 => ?_) (fun c1 => ?_)
 ·refine W.region (WO.p rfl rfl (WO.nil (W.seq (W.sreg (WO.field0 rfl rfl rfl (WO.load rfl rfl (Cell.own (Pick.tail (Pick.head)) rfl) rfl (WO.p rfl rfl (WO.p rfl rfl ?_))))))))
  refine WO.guard_bl rfl rfl (fun c2 => ?_) (fun c2 => ?_)
  ·refine WO.pg rfl rfl rfl (WO.go' rfl (WO.field0 rfl rfl rfl (WO.go' rfl (WO.load rfl rfl (Cell.own (Pick.tail (Pick.head)) rfl) rfl (WO.pg rfl rfl rfl (WO.p rfl rfl (WO.nil ?_)))))))
   refine W.cond_bl rfl (fun c3 => ?_) (fun c3 => ?_)
   ·refine W.sreg (WO.p rfl rfl ?_)
    refine' WO.build (cs := _) rfl rfl rfl ?hf rfl ?_
    case hf => rfl
    refine WO.storeA rfl rfl rfl rfl Pick.head rfl rfl (WO.p rfl rfl (WO.nil (W.ret (fin.ret (Res.two rfl (RV.cell rfl rfl rfl (Cells.own (by repeat first | exact .head | apply Pick.tail))) (RV.tmp rfl)) ?_))))
    first | have e := sg_1 (s := s) (d := d) (by assumption) | have e := sg_2 (s := s) (d := d) (by assumption) | have e := sg_0 (s := s) (d := d) (by assumption) (by assumption)
    first | exact nx_eq (z := 1) (z' := 0) e (by unfold chg; rw [e]; split <;> omega) | exact nx_eq (z := 1) (z' := 1) e (by unfold chg; rw [e]; split <;> omega) | exact nx_eq (z := 2) (z' := 0) e (by unfold chg; rw [e]; split <;> omega) | exact nx_eq (z := 2) (z' := 1) e (by unfold chg; rw [e]; split <;> omega) | exact nx_eq (z := s) (z' := 0) e (by unfold chg; rw [e]; split <;> omega)
   ·refine W.skip (W.sreg (WO.p rfl rfl ?_))
    refine' WO.build (cs := _) rfl rfl rfl ?hf rfl ?_
    case hf => rfl
    refine WO.storeA rfl rfl rfl rfl Pick.head rfl rfl (WO.p rfl rfl (WO.nil (W.ret (fin.ret (Res.two rfl (RV.cell rfl rfl rfl (Cells.own (by repeat first | exact .head | apply Pick.tail))) (RV.tmp rfl)) ?_))))
    first | have e := sg_1 (s := s) (d := d) (by assumption) | have e := sg_2 (s := s) (d := d) (by assumption) | have e := sg_0 (s := s) (d := d) (by assumption) (by assumption)
    first | exact nx_eq (z := 1) (z' := 0) e (by unfold chg; rw [e]; split <;> omega) | exact nx_eq (z := 1) (z' := 1) e (by unfold chg; rw [e]; split <;> omega) | exact nx_eq (z := 2) (z' := 0) e (by unfold chg; rw [e]; split <;> omega) | exact nx_eq (z := 2) (z' := 1) e (by unfold chg; rw [e]; split <;> omega) | exact nx_eq (z := s) (z' := 0) e (by unfold chg; rw [e]; split <;> omega)
  ·refine WO.no rfl rfl (WO.no rfl rfl (WO.no rfl rfl (WO.no rfl rfl (WO.p rfl rfl (WO.nil (W.cond_f rfl (W.skip (W.sreg (WO.p rfl rfl ?_)))))))))
   refine' WO.build (cs := _) rfl rfl rfl ?hf rfl ?_
   case hf => rfl
   refine WO.storeA rfl rfl rfl rfl Pick.head rfl rfl (WO.p rfl rfl (WO.nil (W.ret (fin.ret (Res.two rfl (RV.cell rfl rfl rfl (Cells.own (by repeat first | exact .head | apply Pick.tail))) (RV.tmp rfl)) ?_))))
   first | have e := sg_1 (s := s) (d := d) (by assumption) | have e := sg_2 (s := s) (d := d) (by assumption) | have e := sg_0 (s := s) (d := d) (by assumption) (by assumption)
   first | exact nx_eq (z := 1) (z' := 0) e (by unfold chg; rw [e]; split <;> omega) | exact nx_eq (z := 1) (z' := 1) e (by unfold chg; rw [e]; split <;> omega) | exact nx_eq (z := 2) (z' := 0) e (by unfold chg; rw [e]; split <;> omega) | exact nx_eq (z := 2) (z' := 1) e (by unfold chg; rw [e]; split <;> omega) | exact nx_eq (z := s) (z' := 0) e (by unfold chg; rw [e]; split <;> omega)
 ·refine W.sreg (WO.p rfl rfl (WO.p rfl rfl (WO.p rfl rfl (WO.nil ?_))))
  refine W.cond_bl rfl (fun c4 => ?_) (fun c4 => ?_)
  ·refine W.region (WO.p rfl rfl (WO.nil (W.seq (W.sreg (WO.field0 rfl rfl rfl (WO.load rfl rfl (Cell.own (Pick.tail (Pick.head)) rfl) rfl (WO.p rfl rfl (WO.p rfl rfl ?_))))))))
   refine WO.guard_bl rfl rfl (fun c5 => ?_) (fun c5 => ?_)
   ·refine WO.pg rfl rfl rfl (WO.go' rfl (WO.field0 rfl rfl rfl (WO.go' rfl (WO.load rfl rfl (Cell.own (Pick.tail (Pick.head)) rfl) rfl (WO.pg rfl rfl rfl (WO.p rfl rfl (WO.nil ?_)))))))
    refine W.cond_bl rfl (fun c6 => ?_) (fun c6 => ?_)
    ·refine W.sreg (WO.p rfl rfl ?_)
     refine' WO.build (cs := _) rfl rfl rfl ?hf rfl ?_
     case hf => rfl
     refine WO.storeA rfl rfl rfl rfl Pick.head rfl rfl (WO.p rfl rfl (WO.nil (W.ret (fin.ret (Res.two rfl (RV.cell rfl rfl rfl (Cells.own (by repeat first | exact .head | apply Pick.tail))) (RV.tmp rfl)) ?_))))
     first | have e := sg_1 (s := s) (d := d) (by assumption) | have e := sg_2 (s := s) (d := d) (by assumption) | have e := sg_0 (s := s) (d := d) (by assumption) (by assumption)
     first | exact nx_eq (z := 1) (z' := 0) e (by unfold chg; rw [e]; split <;> omega) | exact nx_eq (z := 1) (z' := 1) e (by unfold chg; rw [e]; split <;> omega) | exact nx_eq (z := 2) (z' := 0) e (by unfold chg; rw [e]; split <;> omega) | exact nx_eq (z := 2) (z' := 1) e (by unfold chg; rw [e]; split <;> omega) | exact nx_eq (z := s) (z' := 0) e (by unfold chg; rw [e]; split <;> omega)
    ·refine W.skip (W.sreg (WO.p rfl rfl ?_))
     refine' WO.build (cs := _) rfl rfl rfl ?hf rfl ?_
     case hf => rfl
     refine WO.storeA rfl rfl rfl rfl Pick.head rfl rfl (WO.p rfl rfl (WO.nil (W.ret (fin.ret (Res.two rfl (RV.cell rfl rfl rfl (Cells.own (by repeat first | exact .head | apply Pick.tail))) (RV.tmp rfl)) ?_))))
     first | have e := sg_1 (s := s) (d := d) (by assumption) | have e := sg_2 (s := s) (d := d) (by assumption) | have e := sg_0 (s := s) (d := d) (by assumption) (by assumption)
     first | exact nx_eq (z := 1) (z' := 0) e (by unfold chg; rw [e]; split <;> omega) | exact nx_eq (z := 1) (z' := 1) e (by unfold chg; rw [e]; split <;> omega) | exact nx_eq (z := 2) (z' := 0) e (by unfold chg; rw [e]; split <;> omega) | exact nx_eq (z := 2) (z' := 1) e (by unfold chg; rw [e]; split <;> omega) | exact nx_eq (z := s) (z' := 0) e (by unfold chg; rw [e]; split <;> omega)
   ·refine WO.no rfl rfl (WO.no rfl rfl (WO.no rfl rfl (WO.no rfl rfl (WO.p rfl rfl (WO.nil (W.cond_f rfl (W.skip (W.sreg (WO.p rfl rfl ?_)))))))))
    refine' WO.build (cs := _) rfl rfl rfl ?hf rfl ?_
    case hf => rfl
    refine WO.storeA rfl rfl rfl rfl Pick.head rfl rfl (WO.p rfl rfl (WO.nil (W.ret (fin.ret (Res.two rfl (RV.cell rfl rfl rfl (Cells.own (by repeat first | exact .head | apply Pick.tail))) (RV.tmp rfl)) ?_))))
    first | have e := sg_1 (s := s) (d := d) (by assumption) | have e := sg_2 (s := s) (d := d) (by assumption) | have e := sg_0 (s := s) (d := d) (by assumption) (by assumption)
    first | exact nx_eq (z := 1) (z' := 0) e (by unfold chg; rw [e]; split <;> omega) | exact nx_eq (z := 1) (z' := 1) e (by unfold chg; rw [e]; split <;> omega) | exact nx_eq (z := 2) (z' := 0) e (by unfold chg; rw [e]; split <;> omega) | exact nx_eq (z := 2) (z' := 1) e (by unfold chg; rw [e]; split <;> omega) | exact nx_eq (z := s) (z' := 0) e (by unfold chg; rw [e]; split <;> omega)
  ·refine W.skip (W.seq (W.sreg (WO.field0 rfl rfl rfl (WO.load rfl rfl (Cell.own (Pick.tail (Pick.head)) rfl) rfl (WO.p rfl rfl (WO.p rfl rfl ?_))))))
   refine WO.guard_bl rfl rfl (fun c7 => ?_) (fun c7 => ?_)
   ·refine WO.pg rfl rfl rfl (WO.go' rfl (WO.field0 rfl rfl rfl (WO.go' rfl (WO.load rfl rfl (Cell.own (Pick.tail (Pick.head)) rfl) rfl (WO.pg rfl rfl rfl (WO.p rfl rfl (WO.nil ?_)))))))
    refine W.cond_bl rfl (fun c8 => ?_) (fun c8 => ?_)
    ·exfalso; omega
    ·refine W.skip (W.sreg (WO.p rfl rfl ?_))
     refine' WO.build (cs := _) rfl rfl rfl ?hf rfl ?_
     case hf => rfl
     refine WO.storeA rfl rfl rfl rfl Pick.head rfl rfl (WO.p rfl rfl (WO.nil (W.ret (fin.ret (Res.two rfl (RV.cell rfl rfl rfl (Cells.own (by repeat first | exact .head | apply Pick.tail))) (RV.tmp rfl)) ?_))))
     first | have e := sg_1 (s := s) (d := d) (by assumption) | have e := sg_2 (s := s) (d := d) (by assumption) | have e := sg_0 (s := s) (d := d) (by assumption) (by assumption)
     first | exact nx_eq (z := 1) (z' := 0) e (by unfold chg; rw [e]; split <;> omega) | exact nx_eq (z := 1) (z' := 1) e (by unfold chg; rw [e]; split <;> omega) | exact nx_eq (z := 2) (z' := 0) e (by unfold chg; rw [e]; split <;> omega) | exact nx_eq (z := 2) (z' := 1) e (by unfold chg; rw [e]; split <;> omega) | exact nx_eq (z := s) (z' := 0) e (by unfold chg; rw [e]; split <;> omega)
   ·refine WO.no rfl rfl (WO.no rfl rfl (WO.no rfl rfl (WO.no rfl rfl (WO.p rfl rfl (WO.nil (W.cond_f rfl (W.skip (W.sreg (WO.p rfl rfl ?_)))))))))
    refine' WO.build (cs := _) rfl rfl rfl ?hf rfl ?_
    case hf => rfl
    refine WO.storeA rfl rfl rfl rfl Pick.head rfl rfl (WO.p rfl rfl (WO.nil (W.ret (fin.ret (Res.two rfl (RV.cell rfl rfl rfl (Cells.own (by repeat first | exact .head | apply Pick.tail))) (RV.tmp rfl)) ?_))))
    first | have e := sg_1 (s := s) (d := d) (by assumption) | have e := sg_2 (s := s) (d := d) (by assumption) | have e := sg_0 (s := s) (d := d) (by assumption) (by assumption)
    first | exact nx_eq (z := 1) (z' := 0) e (by unfold chg; rw [e]; split <;> omega) | exact nx_eq (z := 1) (z' := 1) e (by unfold chg; rw [e]; split <;> omega) | exact nx_eq (z := 2) (z' := 0) e (by unfold chg; rw [e]; split <;> omega) | exact nx_eq (z := 2) (z' := 1) e (by unfold chg; rw [e]; split <;> omega) | exact nx_eq (z := s) (z' := 0) e (by unfold chg; rw [e]; split <;> omega)
theorem ref_amount (w : World) (n : Int) (h : -9000000000000000000 ≤ n ∧ n ≤ 9000000000000000000) : Ret Tryz.prog 246 [.int .i64 n].toArray w (.int .i64 (ab n)) := by
 refine Ret.of mixed tyTab Tryz.func246 rfl rfl (W.sreg (WO.p rfl rfl (WO.nil (W.sreg (WO.p rfl rfl (WO.p rfl rfl (WO.neg rfl (by unfold in64; omega) rfl (WO.max2 rfl rfl rfl (WO.p rfl rfl (WO.nil (W.ret ?_)))))))))))
 exact fin.ret (Res.one rfl (RV.tmp rfl)) rfl
theorem bds_take {l : List Int} {k : Nat} (h : k + 2 < l.length) : (bds l).take (k + 1) = (bds l).take k ++ [l.getD k 0 - 2 * l.getD (k + 1) 0 + l.getD (k + 2) 0] := by
 rw [take_succ_getD (by rw [bds_len]; omega) 0, bds_get h]
theorem ref_Bends (w : World) (v : Value) (l : List Int) (hR : RdF encI 1 w.heap.size w v l) (hok : OkI l) (hl : l.length ≤ 4096) : Ct Tryz.prog 245 [v].toArray w fun u w' => ∃ Hq, (Hq = [OwE encI 2 1 u (bds l)]) ∧ Inv w [] Hq w' := by
 refine Ct.of mixed tyTab Tryz.func245 rfl rfl ?_
 replace hR : RdF encI 1 (fnCx mixed tyTab Tryz.f245.ntmps w).B (fnCx mixed tyTab Tryz.f245.ntmps w).w0 v l := hR
 have hle := hR.sl.le
 refine W.sreg (WO.p rfl rfl (WO.nil (W.sreg (WO.p rfl rfl (WO.nil (W.seq (W.sreg (WO.p rfl rfl (WO.nil (W.block (W.chg (owNil (enc := encI) (e := 2) (sz := 1)) ?_)))))))))))
 refine W.loop2 (fun (i : Nat) (o : Value) => 1 ≤ i ∧ i ≤ l.length + 1)
  (fun (i : Nat) (o : Value) => [(4, .int .i64 (i : Int)), (3, o), (0, v)])
  (fun (i : Nat) (o : Value) => [OwE encI 2 1 o ((bds l).take (i - 1))])
  (fun (i : Nat) (o : Value) => l.length - i) 1 (.slice none 0 0)
  (by exact ⟨by omega, by omega⟩) ⟨rfl, rfl, rfl, trivial⟩ (by repeat (first | exact Sub.nil | refine Sub.cons (by repeat first | exact .head | apply Pick.tail) ?_)) ?_
 rintro i o ⟨hi1, hi0⟩
 refine W.seq (W.sreg (WO.p rfl rfl (WO.ar rfl rfl rfl (by unfold in64; omega) rfl (WO.p rfl rfl ?_))))
 refine' WO.len (n := _) rfl rfl ?hs rfl ?_
 case hs => exact hR.sl
 refine WO.p rfl rfl (WO.nil ?_)
 refine W.cond_bl rfl (fun c1 => ?_) (fun c1 => ?_)
 ·refine W.skip (W.seq (W.block ?_))
  have hx1 := hok _ (getD_mem (i := i - 1) (by omega) 0)
  have hx2 := hok _ (getD_mem (i := i) (by omega) 0)
  have hx3 := hok _ (getD_mem (i := i + 1) (by omega) 0)
  refine W.drawD 19 [.r 0 [], .r 1 [], .r 2 [], .r 3 [], .r 4 [], .b 5 [], .r 6 [], .r 7 [], .r 8 [], .b 9 [], .r 10 [], .r 11 [], .r 12 [], .r 13 [], .r 14 [], .r 15 [], .b 16 [], .r 17 [], .c 18 []] [] (A0 := []) (Sub.refl _) (by kernel_rfl) ?_ ?_
  ·repeat constructor
  refine DT.r rfl rfl rfl (WO.p rfl rfl (WO.nil ⟨rfl, rfl⟩)) (DT.r rfl rfl rfl (WO.p rfl rfl (WO.nil ⟨rfl, rfl⟩)) (DT.r rfl rfl rfl (WO.p rfl rfl (WO.nil ⟨rfl, rfl⟩)) (DT.r rfl rfl rfl (WO.ar rfl rfl rfl (by unfold in64; omega) rfl (WO.nil ⟨rfl, rfl⟩)) ?_)))
  refine' DT.r rfl rfl rfl ?hq ?_
  case hq =>
   refine' WO.indexAddrZ (n := _) rfl rfl rfl ?hs ?h00 ?h1 rfl ?_
   case hs => exact hR.sl
   case h00 => omega
   case h1 => (first | omega | (simp; omega))
   exact WO.nil ⟨rfl, rfl⟩
  refine' DT.b rfl rfl rfl ?hq ?_
  case hq =>
   refine' WO.load (v := _) rfl rfl ?hc rfl ?_
   case hc => ((refine RdF.cellI2 hR (i := i - 1) (by omega) rfl ?_; omega))
   exact WO.nil ⟨rfl, rfl⟩
  refine DT.r rfl rfl rfl (WO.p rfl rfl (WO.nil ⟨rfl, rfl⟩)) (DT.r rfl rfl rfl (WO.p rfl rfl (WO.nil ⟨rfl, rfl⟩)) ?_)
  refine' DT.r rfl rfl rfl ?hq ?_
  case hq =>
   refine' WO.indexAddr (n := _) (i := _) rfl rfl rfl ?hs ?h1 rfl ?_
   case hs => exact hR.sl
   case h1 => (first | omega | (simp; omega))
   exact WO.nil ⟨rfl, rfl⟩
  refine' DT.b rfl rfl rfl ?hq ?_
  case hq =>
   refine' WO.load (v := _) rfl rfl ?hc rfl ?_
   case hc => (refine RdF.cellI2 hR (i := i) (by omega) rfl rfl)
   exact WO.nil ⟨rfl, rfl⟩
  refine DT.r rfl rfl rfl (WO.ar rfl rfl rfl (by unfold in64; omega) rfl (WO.nil ⟨rfl, rfl⟩)) (DT.r rfl rfl rfl (WO.ar rfl rfl rfl (by unfold in64; omega) rfl (WO.nil ⟨rfl, rfl⟩)) (DT.r rfl rfl rfl (WO.p rfl rfl (WO.nil ⟨rfl, rfl⟩)) (DT.r rfl rfl rfl (WO.p rfl rfl (WO.nil ⟨rfl, rfl⟩)) (DT.r rfl rfl rfl (WO.ar rfl rfl rfl (by unfold in64; omega) rfl (WO.nil ⟨rfl, rfl⟩)) ?_))))
  refine' DT.r rfl rfl rfl ?hq ?_
  case hq =>
   refine' WO.indexAddrZ (n := _) rfl rfl rfl ?hs ?h00 ?h1 rfl ?_
   case hs => exact hR.sl
   case h00 => omega
   case h1 => (first | omega | (simp; omega))
   exact WO.nil ⟨rfl, rfl⟩
  refine' DT.b rfl rfl rfl ?hq ?_
  case hq =>
   refine' WO.load (v := _) rfl rfl ?hc rfl ?_
   case hc => ((refine RdF.cellI2 hR (i := i + 1) (by omega) rfl ?_; omega))
   exact WO.nil ⟨rfl, rfl⟩
  refine DT.r rfl rfl rfl (WO.ar rfl rfl rfl (by unfold in64; omega) rfl (WO.nil ⟨rfl, rfl⟩)) (DT.c [_] rfl rfl rfl rfl ?_)
  refine' WO.buildSl (cs := _) rfl rfl rfl rfl ?hf rfl rfl ?hl rfl (fun v1 => ?_)
  case hf => rfl
  case hl => rfl
  refine WO.nil ⟨_, [_], rfl, rfl, (Keep.r (Keep.b (Keep.r (Keep.r (Keep.r (Keep.r (Keep.r (Keep.r (Keep.b (Keep.r (Keep.r (Keep.r (Keep.b (Keep.r (Keep.r (Keep.r (Keep.r (Keep.r Keep.nil)))))))))))))))))), ?_⟩
  refine DT.nil [_, _] rfl ?_
  refine' WO.appendE (enc := encI) (m := 1) (ys := [l.getD (i - 1) 0 - 2 * l.getD i 0 + l.getD (i + 1) 0]) encI_ok rfl rfl rfl rfl rfl (by repeat first | exact .head | apply Pick.tail) (isSl_lit (by omega) (fun _ => ⟨_, _, rfl⟩)) (by omega) rfl (OwC.cells .head) (by rw [List.length_take, bds_len]; omega) (by rw [List.length_take, bds_len]; omega) rfl (fun g c => ?_)
  rw [show (bds l).take (i - 1) ++ [l.getD (i - 1) 0 - 2 * l.getD i 0 + l.getD (i + 1) 0] = (bds l).take (i + 1 - 1) by rw [show i + 1 - 1 = i - 1 + 1 by omega, bds_take (by omega), show i - 1 + 1 = i by omega, show i - 1 + 2 = i + 1 by omega]]
  refine WO.p rfl rfl (WO.nil (W.region (WO.p rfl rfl (WO.ar rfl rfl rfl (by unfold in64; omega) rfl (WO.p rfl rfl (WO.nil ?_))))))
  refine' ⟨i + 1, _, ?hp, ?hmu, ⟨rfl, rfl, rfl, trivial⟩, ?hS⟩
  case hS => repeat (first | exact Sub.nil | refine Sub.cons (by repeat first | exact .head | apply Pick.tail) ?_)
  case hp => exact ⟨by omega, by omega⟩
  case hmu => omega
 ·refine W.exit (blk_same (W.sreg (WO.p rfl rfl (WO.p rfl rfl (WO.nil (W.ret ?_))))))
  rw [List.take_of_length_le (by rw [bds_len]; omega)]
  exact fin.ret (Res.one rfl (RV.tmp rfl)) rfl
theorem owE_cellS {C : Cx Tryz.prog} {H : List HP} {e : Nat} {v : Value} {xs : List Int} {i j : Nat} {x : Int} (s : Sub H [OwE encI e 1 v xs]) (hi : i < xs.length) (hx : x = xs.getD i 0) (hj : j = i) : Cell C H (elt v j 1) (.int .i64 x) := by
 subst hj
 cases s with
 | cons p _ => exact OwE.cell0 encI_ok p hi 0 (by rw [hx]; rfl)
def sOf (d : Int) : Nat := sg 0 d
theorem sOf_step {s : Nat} {d : Int} (h : d ≠ 0) : sOf d = sg s d := by unfold sOf sg; split; rfl; rw [if_pos (by omega), if_pos (by omega)]
theorem chg_on {p d : Int} (h : p > 0 ∧ d < 0 ∨ p < 0 ∧ d > 0) : chg (sOf p) d = 1 := by
 unfold chg sOf sg
 rw [if_pos]
 rcases h with h | h
 ·rw [if_pos (by omega), if_neg (by omega), if_pos (by omega)]; omega
 ·rw [if_neg (by omega), if_pos (by omega), if_pos (by omega)]; omega
theorem chg_off {p d : Int} (h : ¬ (p > 0 ∧ d < 0 ∨ p < 0 ∧ d > 0)) : chg (sOf p) d = 0 := by
 unfold chg sOf sg
 rw [if_neg]
 intro g
 rcases (show 0 < p ∨ p < 0 ∨ p = 0 by omega) with h1 | h1 | h1
 ·rw [if_pos h1] at g; split at g; omega; rw [if_neg (by omega)] at g; omega
 ·rw [if_neg (by omega), if_pos h1] at g; rw [if_neg (by omega)] at g; split at g <;> omega
 ·rw [if_neg (by omega), if_neg (by omega)] at g; omega
theorem nx_z {p d b : Int} {c : Nat} (h : d = 0) : nxt (sOf p, c, b) d = (sOf p, c, b + ab d) := by
 subst h
 have e : sg (sOf p) 0 = sOf p := sg_0 (by omega) (by omega)
 unfold nxt; simp only [chg, e]; simp
theorem nx_on {p d b : Int} {c : Nat} (h : d ≠ 0) (g : p > 0 ∧ d < 0 ∨ p < 0 ∧ d > 0) : nxt (sOf p, c, b) d = (sOf d, c + 1, b + ab d) := by
 unfold nxt; simp only [chg_on g, sOf_step (s := sOf p) h]
theorem nx_off {p d b : Int} {c : Nat} (h : d ≠ 0) (g : ¬ (p > 0 ∧ d < 0 ∨ p < 0 ∧ d > 0)) : nxt (sOf p, c, b) d = (sOf d, c, b + ab d) := by
 unfold nxt; simp only [chg_off g, sOf_step (s := sOf p) h]; simp
theorem ref_measure (w : World) (v : Value) (l : List Int) (hR : RdF encI 1 w.heap.size w v l) (hok : OkI l) (hl : l.length ≤ 4096) : Ret Tryz.prog 168 [v].toArray w (.tuple #[.int .i64 (chL l : Int), .int .i64 (beL l)]) := by
 refine Ret.of mixed tyTab Tryz.func168 rfl rfl ?_
 replace hR : RdF encI 1 (fnCx mixed tyTab Tryz.f168.ntmps w).B (fnCx mixed tyTab Tryz.f168.ntmps w).w0 v l := hR
 have hle := hR.sl.le
 have hbl := bds_len l
 refine W.sreg (WO.p rfl rfl (WO.p rfl rfl (WO.nil (W.sreg (WO.p rfl rfl (WO.p rfl rfl (WO.p rfl rfl (WO.nil (W.sreg (WO.p rfl rfl (WO.call rfl Tryz.call245 (fun L w hi => ref_Bends w v l (hR.later hi) hok hl) rfl ?_)))))))))))
 rintro bv _ rfl
 refine WO.p rfl rfl (WO.nil (W.seq (W.sreg (WO.p rfl rfl (WO.nil (W.block (W.fact (OwE.sl (enc := encI) (e := 2) (sz := 1) (xs := bds l) (by repeat first | exact .head | apply Pick.tail)) (fun hsl => ?_))))))))
 refine W.loop4 (fun (i : Nat) (c : Int) (b : Int) (p : Int) => i ≤ l.length - 2 ∧ 0 ≤ c ∧ (sOf p, c.toNat, b) = mst 0 ((bds l).take i))
  (fun (i : Nat) (c : Int) (b : Int) (p : Int) => [(8, .int .i64 (i : Int)), (4, .int .i64 c), (5, .int .i64 b), (6, .int .i64 p), (7, bv)])
  (fun (i : Nat) (c : Int) (b : Int) (p : Int) => [OwE encI 2 1 bv (bds l)])
  (fun (i : Nat) (c : Int) (b : Int) (p : Int) => l.length - i) 0 0 0 0
  (by exact ⟨by omega, by omega, rfl⟩) ⟨rfl, rfl, rfl, rfl, rfl, trivial⟩ (by repeat (first | exact Sub.nil | refine Sub.cons (by repeat first | exact .head | apply Pick.tail) ?_)) ?_
 rintro i c b p ⟨hi0, hc0, hm⟩
 refine W.seq (W.sreg (WO.p rfl rfl (WO.p rfl rfl ?_)))
 refine' WO.len (n := _) rfl rfl ?hs rfl ?_
 case hs => refine hsl
 refine WO.p rfl rfl (WO.nil ?_)
 refine W.cond_bl rfl (fun c1 => ?_) (fun c1 => ?_)
 ·refine W.skip (W.seq (W.block ?_))
  have hbi := bd_in hok (i := i) (by omega)
  have hb2 := ab_bd hbi
  have hmb := mst_bd hok (k := i) (by omega)
  have hmn := mst_succ (s := 0) (ds := bds l) (k := i) (by omega)
  rw [← hm] at hmb hmn
  simp only at hmb
  refine W.sreg (WO.p rfl rfl (WO.p rfl rfl (WO.p rfl rfl ?_)))
  refine' WO.indexAddr (n := _) (i := _) rfl rfl rfl ?hs ?h1 rfl ?_
  case hs => refine hsl
  case h1 => (first | omega | (simp; omega))
  refine' WO.load (v := _) rfl rfl ?hc rfl ?_
  case hc => (first | (refine owE_cellS (e := 2) (xs := bds l) (i := i) ?_ (by omega) rfl rfl; exact (by repeat (first | exact Sub.nil | refine Sub.cons (by repeat first | exact .head | apply Pick.tail) ?_))))
  refine WO.callR rfl Tryz.call246 (fun L w hi => ref_amount w ((bds l).getD i 0) (by omega)) rfl (WO.ar rfl rfl rfl (by unfold in64; omega) rfl (WO.p rfl rfl (WO.nil (W.seq (W.sreg (WO.p rfl rfl (WO.p rfl rfl ?_)))))))
  refine' WO.indexAddr (n := _) (i := _) rfl rfl rfl ?hs ?h1 rfl ?_
  case hs => refine hsl
  case h1 => (first | omega | (simp; omega))
  refine' WO.load (v := _) rfl rfl ?hc rfl ?_
  case hc => (first | (refine owE_cellS (e := 2) (xs := bds l) (i := i) ?_ (by omega) rfl rfl; exact (by repeat (first | exact Sub.nil | refine Sub.cons (by repeat first | exact .head | apply Pick.tail) ?_))))
  refine WO.p rfl rfl (WO.nil ?_)
  refine W.cond_bl rfl (fun c2 => ?_) (fun c2 => ?_)
  ·refine W.exit (blk_same (W.region (WO.p rfl rfl (WO.ar rfl rfl rfl (by unfold in64; omega) rfl (WO.p rfl rfl (WO.nil ?_))))))
   refine' ⟨i + 1, _, _, _, ?hp, ?hmu, ⟨rfl, rfl, rfl, rfl, rfl, trivial⟩, ?hS⟩
   case hS => repeat (first | exact Sub.nil | refine Sub.cons (by repeat first | exact .head | apply Pick.tail) ?_)
   case hp => exact ⟨by omega, by omega, by rw [hmn]; first | exact (nx_z (by assumption)).symm | (rw [show (c + 1).toNat = c.toNat + 1 by omega]; exact (nx_on (by assumption) (by omega)).symm) | exact (nx_off (by assumption) (by omega)).symm⟩
   case hmu => omega
  ·refine W.skip (W.seq (W.sreg (WO.p rfl rfl (WO.p rfl rfl (WO.p rfl rfl ?_)))))
   refine WO.guard_bl rfl rfl (fun c3 => ?_) (fun c3 => ?_)
   ·refine WO.pg rfl rfl rfl (WO.pg rfl rfl rfl (WO.go' rfl ?_))
    refine' WO.indexAddr (n := _) (i := _) rfl rfl rfl ?hs ?h1 rfl ?_
    case hs => refine hsl
    case h1 => (first | omega | (simp; omega))
    refine WO.go' rfl ?_
    refine' WO.load (v := _) rfl rfl ?hc rfl ?_
    case hc => (first | (refine owE_cellS (e := 2) (xs := bds l) (i := i) ?_ (by omega) rfl rfl; exact (by repeat (first | exact Sub.nil | refine Sub.cons (by repeat first | exact .head | apply Pick.tail) ?_))))
    refine WO.pg rfl rfl rfl (WO.p rfl rfl (WO.p rfl rfl ?_))
    refine WO.guard_bl rfl rfl (fun c4 => ?_) (fun c4 => ?_)
    ·refine WO.no rfl rfl (WO.no rfl rfl (WO.no rfl rfl (WO.no rfl rfl (WO.no rfl rfl (WO.no rfl rfl (WO.no rfl rfl (WO.no rfl rfl (WO.no rfl rfl (WO.p rfl rfl (WO.nil (W.cond_t rfl (W.region (WO.p rfl rfl (WO.ar rfl rfl rfl (by unfold in64; omega) rfl (WO.p rfl rfl (WO.nil (W.region (WO.p rfl rfl (WO.p rfl rfl ?_)))))))))))))))))))
     refine' WO.indexAddr (n := _) (i := _) rfl rfl rfl ?hs ?h1 rfl ?_
     case hs => refine hsl
     case h1 => (first | omega | (simp; omega))
     refine' WO.load (v := _) rfl rfl ?hc rfl ?_
     case hc => (first | (refine owE_cellS (e := 2) (xs := bds l) (i := i) ?_ (by omega) rfl rfl; exact (by repeat (first | exact Sub.nil | refine Sub.cons (by repeat first | exact .head | apply Pick.tail) ?_))))
     refine WO.p rfl rfl (WO.nil (W.region (WO.p rfl rfl (WO.ar rfl rfl rfl (by unfold in64; omega) rfl (WO.p rfl rfl (WO.nil ?_))))))
     refine' ⟨i + 1, _, _, _, ?hp, ?hmu, ⟨rfl, rfl, rfl, rfl, rfl, trivial⟩, ?hS⟩
     case hS => repeat (first | exact Sub.nil | refine Sub.cons (by repeat first | exact .head | apply Pick.tail) ?_)
     case hp => exact ⟨by omega, by omega, by rw [hmn]; first | exact (nx_z (by assumption)).symm | (rw [show (c + 1).toNat = c.toNat + 1 by omega]; exact (nx_on (by assumption) (by omega)).symm) | exact (nx_off (by assumption) (by omega)).symm⟩
     case hmu => omega
    ·refine WO.pg rfl rfl rfl (WO.pg rfl rfl rfl (WO.pg rfl rfl rfl ?_))
     refine WO.guard_bl rfl rfl (fun c5 => ?_) (fun c5 => ?_)
     ·exfalso; omega
     ·refine WO.no rfl rfl (WO.no rfl rfl (WO.no rfl rfl (WO.no rfl rfl (WO.no rfl rfl (WO.pg rfl rfl rfl (WO.p rfl rfl (WO.nil (W.cond_f rfl (W.skip (W.region (WO.p rfl rfl (WO.p rfl rfl ?_))))))))))))
      refine' WO.indexAddr (n := _) (i := _) rfl rfl rfl ?hs ?h1 rfl ?_
      case hs => refine hsl
      case h1 => (first | omega | (simp; omega))
      refine' WO.load (v := _) rfl rfl ?hc rfl ?_
      case hc => (first | (refine owE_cellS (e := 2) (xs := bds l) (i := i) ?_ (by omega) rfl rfl; exact (by repeat (first | exact Sub.nil | refine Sub.cons (by repeat first | exact .head | apply Pick.tail) ?_))))
      refine WO.p rfl rfl (WO.nil (W.region (WO.p rfl rfl (WO.ar rfl rfl rfl (by unfold in64; omega) rfl (WO.p rfl rfl (WO.nil ?_))))))
      refine' ⟨i + 1, _, _, _, ?hp, ?hmu, ⟨rfl, rfl, rfl, rfl, rfl, trivial⟩, ?hS⟩
      case hS => repeat (first | exact Sub.nil | refine Sub.cons (by repeat first | exact .head | apply Pick.tail) ?_)
      case hp => exact ⟨by omega, by omega, by rw [hmn]; first | exact (nx_z (by assumption)).symm | (rw [show (c + 1).toNat = c.toNat + 1 by omega]; exact (nx_on (by assumption) (by omega)).symm) | exact (nx_off (by assumption) (by omega)).symm⟩
      case hmu => omega
   ·refine WO.no rfl rfl (WO.no rfl rfl (WO.no rfl rfl (WO.no rfl rfl (WO.no rfl rfl (WO.p rfl rfl (WO.p rfl rfl (WO.pg rfl rfl rfl (WO.pg rfl rfl rfl (WO.pg rfl rfl rfl ?_)))))))))
    refine WO.guard_bl rfl rfl (fun c7 => ?_) (fun c7 => ?_)
    ·refine WO.pg rfl rfl rfl (WO.pg rfl rfl rfl (WO.go' rfl ?_))
     refine' WO.indexAddr (n := _) (i := _) rfl rfl rfl ?hs ?h1 rfl ?_
     case hs => refine hsl
     case h1 => (first | omega | (simp; omega))
     refine WO.go' rfl ?_
     refine' WO.load (v := _) rfl rfl ?hc rfl ?_
     case hc => (first | (refine owE_cellS (e := 2) (xs := bds l) (i := i) ?_ (by omega) rfl rfl; exact (by repeat (first | exact Sub.nil | refine Sub.cons (by repeat first | exact .head | apply Pick.tail) ?_))))
     refine WO.pg rfl rfl rfl (WO.pg rfl rfl rfl (WO.p rfl rfl (WO.nil ?_)))
     refine W.cond_bl rfl (fun c8 => ?_) (fun c8 => ?_)
     ·refine W.region (WO.p rfl rfl (WO.ar rfl rfl rfl (by unfold in64; omega) rfl (WO.p rfl rfl (WO.nil (W.region (WO.p rfl rfl (WO.p rfl rfl ?_)))))))
      refine' WO.indexAddr (n := _) (i := _) rfl rfl rfl ?hs ?h1 rfl ?_
      case hs => refine hsl
      case h1 => (first | omega | (simp; omega))
      refine' WO.load (v := _) rfl rfl ?hc rfl ?_
      case hc => (first | (refine owE_cellS (e := 2) (xs := bds l) (i := i) ?_ (by omega) rfl rfl; exact (by repeat (first | exact Sub.nil | refine Sub.cons (by repeat first | exact .head | apply Pick.tail) ?_))))
      refine WO.p rfl rfl (WO.nil (W.region (WO.p rfl rfl (WO.ar rfl rfl rfl (by unfold in64; omega) rfl (WO.p rfl rfl (WO.nil ?_))))))
      refine' ⟨i + 1, _, _, _, ?hp, ?hmu, ⟨rfl, rfl, rfl, rfl, rfl, trivial⟩, ?hS⟩
      case hS => repeat (first | exact Sub.nil | refine Sub.cons (by repeat first | exact .head | apply Pick.tail) ?_)
      case hp => exact ⟨by omega, by omega, by rw [hmn]; first | exact (nx_z (by assumption)).symm | (rw [show (c + 1).toNat = c.toNat + 1 by omega]; exact (nx_on (by assumption) (by omega)).symm) | exact (nx_off (by assumption) (by omega)).symm⟩
      case hmu => omega
     ·refine W.skip (W.region (WO.p rfl rfl (WO.p rfl rfl ?_)))
      refine' WO.indexAddr (n := _) (i := _) rfl rfl rfl ?hs ?h1 rfl ?_
      case hs => refine hsl
      case h1 => (first | omega | (simp; omega))
      refine' WO.load (v := _) rfl rfl ?hc rfl ?_
      case hc => (first | (refine owE_cellS (e := 2) (xs := bds l) (i := i) ?_ (by omega) rfl rfl; exact (by repeat (first | exact Sub.nil | refine Sub.cons (by repeat first | exact .head | apply Pick.tail) ?_))))
      refine WO.p rfl rfl (WO.nil (W.region (WO.p rfl rfl (WO.ar rfl rfl rfl (by unfold in64; omega) rfl (WO.p rfl rfl (WO.nil ?_))))))
      refine' ⟨i + 1, _, _, _, ?hp, ?hmu, ⟨rfl, rfl, rfl, rfl, rfl, trivial⟩, ?hS⟩
      case hS => repeat (first | exact Sub.nil | refine Sub.cons (by repeat first | exact .head | apply Pick.tail) ?_)
      case hp => exact ⟨by omega, by omega, by rw [hmn]; first | exact (nx_z (by assumption)).symm | (rw [show (c + 1).toNat = c.toNat + 1 by omega]; exact (nx_on (by assumption) (by omega)).symm) | exact (nx_off (by assumption) (by omega)).symm⟩
      case hmu => omega
    ·refine WO.no rfl rfl (WO.no rfl rfl (WO.no rfl rfl (WO.no rfl rfl (WO.no rfl rfl (WO.pg rfl rfl rfl (WO.p rfl rfl (WO.nil (W.cond_f rfl (W.skip (W.region (WO.p rfl rfl (WO.p rfl rfl ?_))))))))))))
     refine' WO.indexAddr (n := _) (i := _) rfl rfl rfl ?hs ?h1 rfl ?_
     case hs => refine hsl
     case h1 => (first | omega | (simp; omega))
     refine' WO.load (v := _) rfl rfl ?hc rfl ?_
     case hc => (first | (refine owE_cellS (e := 2) (xs := bds l) (i := i) ?_ (by omega) rfl rfl; exact (by repeat (first | exact Sub.nil | refine Sub.cons (by repeat first | exact .head | apply Pick.tail) ?_))))
     refine WO.p rfl rfl (WO.nil (W.region (WO.p rfl rfl (WO.ar rfl rfl rfl (by unfold in64; omega) rfl (WO.p rfl rfl (WO.nil ?_))))))
     refine' ⟨i + 1, _, _, _, ?hp, ?hmu, ⟨rfl, rfl, rfl, rfl, rfl, trivial⟩, ?hS⟩
     case hS => repeat (first | exact Sub.nil | refine Sub.cons (by repeat first | exact .head | apply Pick.tail) ?_)
     case hp => exact ⟨by omega, by omega, by rw [hmn]; first | exact (nx_z (by assumption)).symm | (rw [show (c + 1).toNat = c.toNat + 1 by omega]; exact (nx_on (by assumption) (by omega)).symm) | exact (nx_off (by assumption) (by omega)).symm⟩
     case hmu => omega
 ·refine W.exit (blk_same (W.sreg (WO.p rfl rfl (WO.p rfl rfl (WO.p rfl rfl (WO.p rfl rfl (WO.nil (W.ret (fin.ret (Res.two rfl (RV.tmp rfl) (RV.tmp rfl)) ?_)))))))))
  rw [List.take_of_length_le (by omega)] at hm
  unfold chL beL; rw [← hm]; simp only; rw [Int.toNat_of_nonneg hc0]
end Go.Proofs.YtnehaifgcegemaaGreat.Fa
namespace Go.Proofs.YtnehaifgcegemaaGreat.Fa
open Go Go.TH
attribute [local irreducible] W WO pt
set_option maxRecDepth 10000
set_option maxHeartbeats 1000000
def InTo (l : List (Int × Int)) (x : List Int) (n : Nat) : Prop := ∀ i, i < n → (l.getD i (0, 0)).1 ≤ x.getD i 0 ∧ x.getD i 0 ≤ (l.getD i (0, 0)).2
def InS (l : List (Int × Int)) (x : List Int) : Prop := x.length = l.length ∧ InTo l x l.length
instance (l : List (Int × Int)) (x : List Int) (n : Nat) : Decidable (InTo l x n) := by unfold InTo; infer_instance
instance (l : List (Int × Int)) (x : List Int) : Decidable (InS l x) := by unfold InS; infer_instance
theorem InTo_succ {l : List (Int × Int)} {x : List Int} {n : Nat} (h : InTo l x n) (g : (l.getD n (0, 0)).1 ≤ x.getD n 0 ∧ x.getD n 0 ≤ (l.getD n (0, 0)).2) : InTo l x (n + 1) := fun i hi => by
 rcases Nat.lt_or_ge i n with h1 | h1
 ·exact h i h1
 ·rw [show i = n by omega]; exact g
theorem InS.ok {l : List (Int × Int)} {x : List Int} (h : InS l x) (hs : OkS l) : OkI x := by
 intro z hz
 obtain ⟨i, hi, rfl⟩ := List.mem_iff_getElem.1 hz
 have h1 := h.2 i (by rw [← h.1]; exact hi)
 have h2 := hs _ (getD_mem (l := l) (i := i) (by rw [← h.1]; exact hi) (0, 0))
 rw [List.getD_eq_getElem?_getD (l := x), List.getElem?_eq_getElem hi] at h1
 simp only [Option.getD_some] at h1
 unfold OkG at h2
 omega
def costL (t : Int) (x : List Int) : Int := beL x + t * (chL x : Int)
def ckE (l : List (Int × Int)) (t : Int) (x : List Int) : Int := if chkF l t ≠ 0 then chkF l t else if x.length ≠ l.length then 15 else if InTo l x l.length then 0 else 17
def ckV (l : List (Int × Int)) (t : Int) (x : List Int) : Value := if ckE l t x = 0 then .tuple #[.int .i64 (costL t x), .int .i64 0] else .tuple #[.int .i64 0, .int .i64 (ckE l t x)]
theorem ckE0 {l : List (Int × Int)} {t : Int} {x : List Int} : ckE l t x = 0 ↔ chkF l t = 0 ∧ InS l x := by
 unfold ckE InS
 by_cases h1 : chkF l t = 0
 ·by_cases h2 : x.length = l.length
  ·by_cases h3 : InTo l x l.length <;> simp [h1, h2, h3]
  ·simp [h1, h2]
 ·simp [h1]
theorem ckV_bad {l : List (Int × Int)} {t : Int} {x : List Int} (h : chkF l t ≠ 0) : ckV l t x = .tuple #[.int .i64 0, .int .i64 (chkF l t)] := by
 have e : ckE l t x = chkF l t := if_pos h
 unfold ckV; rw [e, if_neg h]
theorem ckV_eq {l : List (Int × Int)} {t : Int} {x : List Int} (h : ¬ chkF l t ≠ 0) (g : x.length ≠ l.length) : ckV l t x = .tuple #[.int .i64 0, .int .i64 15] := by
 have e : ckE l t x = 15 := by unfold ckE; rw [if_neg h, if_pos g]
 unfold ckV; rw [e]; rfl
theorem ckV_in {l : List (Int × Int)} {t : Int} {x : List Int} (h : ¬ chkF l t ≠ 0) (g : x.length = l.length) (k : ¬ InTo l x l.length) : ckV l t x = .tuple #[.int .i64 0, .int .i64 17] := by
 have e : ckE l t x = 17 := by unfold ckE; rw [if_neg h, if_neg (by omega), if_neg k]
 unfold ckV; rw [e]; rfl
theorem ckV_ok {l : List (Int × Int)} {t : Int} {x : List Int} (h : ¬ chkF l t ≠ 0) (g : x.length = l.length) (k : InTo l x l.length) : ckV l t x = .tuple #[.int .i64 (costL t x), .int .i64 0] := by
 unfold ckV; rw [if_pos (ckE0.2 ⟨by omega, g, k⟩)]
theorem turn_bd {t : Int} {n : Nat} (h : 0 ≤ t ∧ t ≤ 1000000) (hn : n ≤ 4096) : 0 ≤ t * (n : Int) ∧ t * (n : Int) ≤ 4096000000 := by
 constructor
 ·exact Int.mul_nonneg h.1 (by omega)
 ·have := Int.mul_le_mul h.2 (show (n : Int) ≤ 4096 by omega) (by omega) (by omega); omega
theorem ref_Cost (w : World) (o v : Value) (l : List (Int × Int)) (t : Int) (x : List Int) (ho : o.oneCell' = true) (hX : RdF encI 1 w.heap.size w v x) (hok : OkI x) (hl : x.length ≤ 4096) (ht : 0 ≤ t ∧ t ≤ 1000000) : Ret Tryz.prog 81 [.agg #[o, .int .i64 t], v].toArray w (.int .i64 (costL t x)) := by
 refine Ret.of mixed tyTab Tryz.func81 rfl rfl ?_
 replace hX : RdF encI 1 (fnCx mixed tyTab Tryz.f81.ntmps w).B (fnCx mixed tyTab Tryz.f81.ntmps w).w0 v x := hX
 have hb := mea_bd hok
 have htb := turn_bd ht (n := chL x) (by omega)
 refine W.sreg (WO.boxA rfl rfl (fun b1 hb1 => (WO.p rfl rfl (WO.nil (W.sreg (WO.p rfl rfl (WO.callR rfl Tryz.call168 (fun L w hi => ref_measure w v x (hX.later hi) hok hl) rfl (WO.p rfl rfl (WO.p rfl rfl (WO.p rfl rfl (WO.p rfl rfl (WO.p rfl rfl (WO.nil (W.sreg (WO.p rfl rfl (WO.fieldL rfl rfl rfl (WO.load rfl rfl (Cell.own Pick.head rfl) rfl (WO.p rfl rfl (WO.ar rfl rfl rfl (by unfold in64; omega) rfl (WO.ar rfl rfl rfl (by unfold in64; omega) rfl (WO.p rfl rfl (WO.nil (W.ret ?_)))))))))))))))))))))))
 exact fin.ret (Res.one rfl (RV.tmp rfl)) rfl
theorem ref_Check (w : World) (o v : Value) (l : List (Int × Int)) (t : Int) (x : List Int) (hR : RdF encP 2 w.heap.size w o l) (hX : RdF encI 1 w.heap.size w v x) : Ret Tryz.prog 34 [.agg #[o, .int .i64 t], v].toArray w (ckV l t x) := by
 refine Ret.of mixed tyTab Tryz.func34 rfl rfl ?_
 replace hR : RdF encP 2 (fnCx mixed tyTab Tryz.f34.ntmps w).B (fnCx mixed tyTab Tryz.f34.ntmps w).w0 o l := hR
 replace hX : RdF encI 1 (fnCx mixed tyTab Tryz.f34.ntmps w).B (fnCx mixed tyTab Tryz.f34.ntmps w).w0 v x := hX
 have hle := hX.sl.le
 have ho := hR.sl.oc
 refine W.sreg (WO.boxA rfl rfl (fun b1 hb1 => (WO.p rfl rfl (WO.p rfl rfl (WO.nil (W.seq (W.sreg (WO.loadA rfl rfl (Cells.own Pick.head) rfl rfl (WO.callR rfl Tryz.call32 (fun L w hi => ref_CheckSpots w o l t (hR.later hi)) rfl (WO.p rfl rfl (WO.nil ?_)))))))))))
 refine W.cond_bl rfl (fun c1 => ?_) (fun c1 => ?_)
 ·refine W.sreg (WO.loadA rfl rfl (Cells.own Pick.head) rfl rfl (WO.callR rfl Tryz.call32 (fun L w hi => ref_CheckSpots w o l t (hR.later hi)) rfl (WO.p rfl rfl (WO.p rfl rfl (WO.nil (W.ret (fin.ret (Res.two rfl (RV.tmp rfl) (RV.tmp rfl)) ?_)))))))
  first | exact (ckV_bad (by assumption)).symm | exact (ckV_eq (by assumption) (by omega)).symm | exact (ckV_in (by assumption) (by omega) (fun h => by have := h i (by omega); omega)).symm | exact (ckV_ok (by assumption) (by omega) (by rw [show l.length = i by omega]; exact hin)).symm
 ·refine W.skip (W.seq (W.sreg (WO.p rfl rfl ?_)))
  refine' WO.len (n := _) rfl rfl ?hs rfl ?_
  case hs => (first | first | exact hX.sl | exact hR.sl)
  refine WO.field0 rfl rfl rfl (WO.load rfl rfl (Cell.own Pick.head rfl) rfl ?_)
  refine' WO.len (n := _) rfl rfl ?hs rfl ?_
  case hs => (first | first | exact hX.sl | exact hR.sl)
  refine WO.p rfl rfl (WO.nil ?_)
  refine W.cond_bl rfl (fun c2 => ?_) (fun c2 => ?_)
  ·refine W.sreg (WO.p rfl rfl (WO.p rfl rfl (WO.nil (W.ret (fin.ret (Res.two rfl (RV.tmp rfl) (RV.tmp rfl)) ?_)))))
   first | exact (ckV_bad (by assumption)).symm | exact (ckV_eq (by assumption) (by omega)).symm | exact (ckV_in (by assumption) (by omega) (fun h => by have := h i (by omega); omega)).symm | exact (ckV_ok (by assumption) (by omega) (by rw [show l.length = i by omega]; exact hin)).symm
  ·refine W.skip (W.seq (W.sreg (WO.p rfl rfl (WO.nil (W.block ?_)))))
   refine W.loop (fun (i : Nat) => i ≤ x.length ∧ InTo l x i)
    (fun (i : Nat) => [(6, .int .i64 (i : Int)), (2, .pointer (some ⟨b1, 0, none⟩)), (1, v)])
    (fun (i : Nat) => [pt b1 (.cells #[o, .int .i64 t] 83 (0, 0))])
    (fun (i : Nat) => x.length - i) 0
    (by exact ⟨by omega, fun i hi => by omega⟩) ⟨rfl, rfl, rfl, trivial⟩ (by repeat (first | exact Sub.nil | refine Sub.cons (by repeat first | exact .head | apply Pick.tail) ?_)) ?_
   rintro i ⟨hi, hin⟩
   refine W.seq (W.sreg (WO.p rfl rfl (WO.p rfl rfl ?_)))
   refine' WO.len (n := _) rfl rfl ?hs rfl ?_
   case hs => (first | first | exact hX.sl | exact hR.sl)
   refine WO.p rfl rfl (WO.nil ?_)
   refine W.cond_bl rfl (fun c3 => ?_) (fun c3 => ?_)
   ·refine W.skip (W.seq (W.block (W.seq ?_)))
    refine W.drawD 22 [.r 0 [], .r 1 [], .r 2 [], .b 3 [], .r 4 [], .b 5 [], .r 6 [], .r 7 [], .r 8 [], .b 9 [], .r 10 [], .r 11 [], .r 12 [], .r 13 [], .r 14 [], .b 15 [], .r 16 [], .b 17 [], .r 18 [], .r 19 [], .r 20 [], .b 21 []] [] (A0 := []) (Sub.refl _) (by kernel_rfl) ?_ ?_
    ·repeat constructor
    refine DT.r rfl rfl rfl (WO.p rfl rfl (WO.nil ⟨rfl, rfl⟩)) (DT.r rfl rfl rfl (WO.p rfl rfl (WO.nil ⟨rfl, rfl⟩)) ?_)
    refine' DT.r rfl rfl rfl ?hq ?_
    case hq =>
     refine' WO.indexAddr (n := _) (i := _) rfl rfl rfl ?hs ?h1 rfl ?_
     case hs => (first | first | exact hX.sl | exact hR.sl)
     case h1 => (first | omega | (simp; omega))
     exact WO.nil ⟨rfl, rfl⟩
    refine' DT.b rfl rfl rfl ?hq ?_
    case hq =>
     refine' WO.load (v := _) rfl rfl ?hc rfl ?_
     case hc => (first | (refine RdF.cellI2 hX (i := i) (by omega) rfl rfl) | (refine hR.cell0 (i := i) ?_ (0, 0) ?_ <;> first | rfl | omega) | (refine hR.cellAt (i := i) ?_ (0, 0) ?_ <;> first | rfl | omega))
     exact WO.nil ⟨rfl, rfl⟩
    refine DT.r rfl rfl rfl (WO.field0 rfl rfl rfl (WO.nil ⟨rfl, rfl⟩)) (DT.b rfl rfl rfl (WO.load rfl rfl (Cell.own Pick.head rfl) rfl (WO.nil ⟨rfl, rfl⟩)) (DT.r rfl rfl rfl (WO.p rfl rfl (WO.nil ⟨rfl, rfl⟩)) ?_))
    refine' DT.r rfl rfl rfl ?hq ?_
    case hq =>
     refine' WO.indexAddr (n := _) (i := _) rfl rfl rfl ?hs ?h1 rfl ?_
     case hs => (first | first | exact hX.sl | exact hR.sl)
     case h1 => (first | omega | (simp; omega))
     exact WO.nil ⟨rfl, rfl⟩
    refine DT.r rfl rfl rfl (WO.field0 rfl rfl rfl (WO.nil ⟨rfl, rfl⟩)) ?_
    refine' DT.b rfl rfl rfl ?hq ?_
    case hq =>
     refine' WO.load (v := _) rfl rfl ?hc rfl ?_
     case hc => (first | (refine RdF.cellI2 hX (i := i) (by omega) rfl rfl) | (refine hR.cell0 (i := i) ?_ (0, 0) ?_ <;> first | rfl | omega) | (refine hR.cellAt (i := i) ?_ (0, 0) ?_ <;> first | rfl | omega))
     exact WO.nil ⟨rfl, rfl⟩
    refine DT.r rfl rfl rfl (WO.p rfl rfl (WO.nil ⟨rfl, rfl⟩)) ?_
    refine DT.rB rfl rfl rfl (WO.p rfl rfl (WO.nil ⟨rfl, rfl⟩)) (fun c4 => ?_) (fun c4 => ?_)
    ·refine DT.r rfl rfl rfl (WO.no rfl rfl (WO.nil ⟨rfl, rfl⟩)) (DT.r rfl rfl rfl (WO.no rfl rfl (WO.nil ⟨rfl, rfl⟩)) (DT.r rfl rfl rfl (WO.no rfl rfl (WO.nil ⟨rfl, rfl⟩)) (DT.b rfl rfl rfl (WO.no rfl rfl (WO.nil ⟨rfl, rfl⟩)) (DT.r rfl rfl rfl (WO.no rfl rfl (WO.nil ⟨rfl, rfl⟩)) (DT.b rfl rfl rfl (WO.no rfl rfl (WO.nil ⟨rfl, rfl⟩)) (DT.r rfl rfl rfl (WO.no rfl rfl (WO.nil ⟨rfl, rfl⟩)) (DT.r rfl rfl rfl (WO.no rfl rfl (WO.nil ⟨rfl, rfl⟩)) (DT.r rfl rfl rfl (WO.no rfl rfl (WO.nil ⟨rfl, rfl⟩)) (DT.b rfl rfl rfl (WO.no rfl rfl (WO.nil ⟨rfl, rfl⟩)) (DT.nil [_] rfl (WO.no rfl rfl (WO.p rfl rfl (WO.nil (W.cond_t rfl (W.sreg (WO.p rfl rfl (WO.p rfl rfl (WO.nil ?_))))))))))))))))))
     refine W.ret (fin.ret (Res.two rfl (RV.tmp rfl) (RV.tmp rfl)) ?_)
     first | exact (ckV_bad (by assumption)).symm | exact (ckV_eq (by assumption) (by omega)).symm | exact (ckV_in (by assumption) (by omega) (fun h => by have := h i (by omega); omega)).symm | exact (ckV_ok (by assumption) (by omega) (by rw [show l.length = i by omega]; exact hin)).symm
    ·refine DT.r rfl rfl rfl (WO.pg rfl rfl rfl (WO.nil ⟨rfl, rfl⟩)) (DT.r rfl rfl rfl (WO.pg rfl rfl rfl (WO.nil ⟨rfl, rfl⟩)) ?_)
     refine' DT.r rfl rfl rfl ?hq ?_
     case hq =>
      refine WO.go' rfl ?_
      refine' WO.indexAddr (n := _) (i := _) rfl rfl rfl ?hs ?h1 rfl ?_
      case hs => (first | first | exact hX.sl | exact hR.sl)
      case h1 => (first | omega | (simp; omega))
      exact WO.nil ⟨rfl, rfl⟩
     refine' DT.b rfl rfl rfl ?hq ?_
     case hq =>
      refine WO.go' rfl ?_
      refine' WO.load (v := _) rfl rfl ?hc rfl ?_
      case hc => (first | (refine RdF.cellI2 hX (i := i) (by omega) rfl rfl) | (refine hR.cell0 (i := i) ?_ (0, 0) ?_ <;> first | rfl | omega) | (refine hR.cellAt (i := i) ?_ (0, 0) ?_ <;> first | rfl | omega))
      exact WO.nil ⟨rfl, rfl⟩
     refine DT.r rfl rfl rfl (WO.go' rfl (WO.field0 rfl rfl rfl (WO.nil ⟨rfl, rfl⟩))) (DT.b rfl rfl rfl (WO.go' rfl (WO.load rfl rfl (Cell.own Pick.head rfl) rfl (WO.nil ⟨rfl, rfl⟩))) (DT.r rfl rfl rfl (WO.pg rfl rfl rfl (WO.nil ⟨rfl, rfl⟩)) ?_))
     refine' DT.r rfl rfl rfl ?hq ?_
     case hq =>
      refine WO.go' rfl ?_
      refine' WO.indexAddr (n := _) (i := _) rfl rfl rfl ?hs ?h1 rfl ?_
      case hs => (first | first | exact hX.sl | exact hR.sl)
      case h1 => (first | omega | (simp; omega))
      exact WO.nil ⟨rfl, rfl⟩
     refine DT.r rfl rfl rfl (WO.go' rfl (WO.field rfl rfl rfl (WO.nil ⟨rfl, rfl⟩))) ?_
     refine' DT.b rfl rfl rfl ?hq ?_
     case hq =>
      refine WO.go' rfl ?_
      refine' WO.load (v := _) rfl rfl ?hc rfl ?_
      case hc => (first | (refine RdF.cellI2 hX (i := i) (by omega) rfl rfl) | (refine hR.cell0 (i := i) ?_ (0, 0) ?_ <;> first | rfl | omega) | (refine hR.cellAt (i := i) ?_ (0, 0) ?_ <;> first | rfl | omega))
      exact WO.nil ⟨rfl, rfl⟩
     refine DT.nil [_] rfl (WO.pg rfl rfl rfl (WO.p rfl rfl (WO.nil ?_)))
     refine W.cond_bl rfl (fun c5 => ?_) (fun c5 => ?_)
     ·refine W.sreg (WO.p rfl rfl (WO.p rfl rfl (WO.nil (W.ret (fin.ret (Res.two rfl (RV.tmp rfl) (RV.tmp rfl)) ?_)))))
      first | exact (ckV_bad (by assumption)).symm | exact (ckV_eq (by assumption) (by omega)).symm | exact (ckV_in (by assumption) (by omega) (fun h => by have := h i (by omega); omega)).symm | exact (ckV_ok (by assumption) (by omega) (by rw [show l.length = i by omega]; exact hin)).symm
     ·refine W.skip (W.region (WO.p rfl rfl (WO.ar rfl rfl rfl (by unfold in64; omega) rfl (WO.p rfl rfl (WO.nil ?_)))))
      refine' ⟨i + 1, ?hp, ?hmu, ⟨rfl, rfl, rfl, trivial⟩, ?hS⟩
      case hS => repeat (first | exact Sub.nil | refine Sub.cons (by repeat first | exact .head | apply Pick.tail) ?_)
      case hp => exact ⟨by omega, InTo_succ hin (by omega)⟩
      case hmu => omega
   ·refine W.exit (blk_same ?_)
    have hcf := chkF0.1 (show chkF l t = 0 by omega)
    refine W.sreg (WO.loadA rfl rfl (Cells.own Pick.head) rfl rfl (WO.p rfl rfl (WO.callR rfl Tryz.call81 (fun L w hi => ref_Cost w o v l t x ho (hX.later hi) (InS.ok (l := l) ⟨by omega, by rw [show l.length = i by omega]; exact hin⟩ hcf.2.2) (by omega) hcf.2.1) rfl (WO.p rfl rfl (WO.p rfl rfl (WO.nil (W.ret (fin.ret (Res.two rfl (RV.tmp rfl) (RV.tmp rfl)) ?_))))))))
    first | exact (ckV_bad (by assumption)).symm | exact (ckV_eq (by assumption) (by omega)).symm | exact (ckV_in (by assumption) (by omega) (fun h => by have := h i (by omega); omega)).symm | exact (ckV_ok (by assumption) (by omega) (by rw [show l.length = i by omega]; exact hin)).symm
end Go.Proofs.YtnehaifgcegemaaGreat.Fa
namespace Go.TH
open Go
section
variable {P : Program} {C : Cx P} {E : Env} {H : List HP}
theorem prt_prt (p : Addr) (a b : Nat) : (prt p a).add b = prt p (a + b) := by rw [prt_eq, prt_eq, Addr.add_add]
section rules
variable {ops : Array Oper} {K : KP} {rest : List Oper} {d : Nat} {ty : TypeId} {pos : String} {af : Array Edge} {x y : Operand} {T : TypeId}
theorem WO.indexArr0 {len e sz : Nat} {k : IntKind} {i : Nat} {zi : Int} {p : Addr} (hT : C.tt.ar? T = some (len, e, sz)) (hx : ev E x = some (.pointer (some p))) (hy : ev E y = some (.int k zi)) (hz : zi = (i : Int)) (h1 : i < len) (hN : Nat.blt d C.N = true)
 (h : WO C ops rest K ((d, .pointer (some (prt p (i * sz)))) :: E) H) : WO C ops (⟨some d, .indexAddr T x y, ty, pos, af, none⟩ :: rest) K E H := by
 subst hz
 refine WO.indexArr hT hx hy (by omega) (by omega) hN ?_
 rw [Int.toNat_natCast, ← prt_eq]; exact h
theorem WO.indexArrP {len e sz fo fo' : Nat} {k : IntKind} {i : Nat} {zi : Int} {p : Addr} (hT : C.tt.ar? T = some (len, e, sz)) (hx : ev E x = some (.pointer (some (prt p fo)))) (hy : ev E y = some (.int k zi)) (hz : zi = (i : Int)) (h1 : i < len) (hf : fo + i * sz = fo') (hN : Nat.blt d C.N = true)
 (h : WO C ops rest K ((d, .pointer (some (prt p fo'))) :: E) H) : WO C ops (⟨some d, .indexAddr T x y, ty, pos, af, none⟩ :: rest) K E H := by
 subst hz hf
 refine WO.indexArr hT hx hy (by omega) (by omega) hN ?_
 rw [Int.toNat_natCast, prt_prt]; exact h
end rules
def tabC (sz n : Nat) (g : Nat → Int) : List Value := (List.range (n * sz)).map fun k => .int .i64 (g k)
theorem tabC_len (sz n : Nat) (g : Nat → Int) : (tabC sz n g).length = n * sz := by simp [tabC]
theorem tabC_get {sz n k : Nat} {g : Nat → Int} (h : k < n * sz) : (tabC sz n g)[k]? = some (.int .i64 (g k)) := by
 unfold tabC; rw [List.getElem?_map, List.getElem?_range h]; rfl
def updF (g : Nat → Int) (k : Nat) (c : Int) : Nat → Int := fun j => if j = k then c else g j
theorem updF_same (g : Nat → Int) (k : Nat) (c : Int) : updF g k c k = c := if_pos rfl
theorem updF_other {g : Nat → Int} {k j : Nat} {c : Int} (h : j ≠ k) : updF g k c j = g j := if_neg h
theorem tabC_set {sz n k : Nat} {g : Nat → Int} {c : Int} (h : k < n * sz) : (tabC sz n g).set k (.int .i64 c) = tabC sz n (updF g k c) := by
 refine List.ext_getElem? fun j => ?_
 rw [List.getElem?_set, tabC_len]
 rcases Nat.lt_or_ge j (n * sz) with hj | hj
 ·by_cases e : k = j
  ·subst e; rw [if_pos rfl, if_pos h, tabC_get h, updF_same]
  ·rw [if_neg e, tabC_get hj, tabC_get hj, updF_other (fun x => e x.symm)]
 ·have h1 : k ≠ j := by omega
  rw [if_neg h1, List.getElem?_eq_none (by rw [tabC_len]; exact hj), List.getElem?_eq_none (by rw [tabC_len]; exact hj)]
def TabP (e sz : Nat) (v : Value) (n : Nat) (g : Nat → Int) : HP := OwC e sz v n (tabC sz n g)
structure RdT (sz B : Nat) (w : World) (v : Value) (n : Nat) (g : Nat → Int) : Prop where
 sl : IsSl v n
 blk : 0 < n → (base v).block < B
 cell : ∀ i j, i < n → j < sz → w.cell? (((base v).add (i * sz)).add j) = some (.int .i64 (g (i * sz + j)))
theorem at_lt {i j n sz : Nat} (hi : i < n) (hj : j < sz) : i * sz + j < n * sz := by
 have := Nat.mul_le_mul_right sz (show i + 1 ≤ n by omega)
 rw [Nat.add_mul] at this; omega
theorem RdT.of {e sz n : Nat} {v : Value} {g : Nat → Int} {H' L : List HP} {w : World} (p : Pick (TabP e sz v n g) H H') (hs : 0 < sz) (hi : Inv C.w0 C.M (L ++ H) w) : RdT sz w.heap.size w v n g := by
 have key : ∀ i j, i < n → j < sz → w.cell? (((base v).add (i * sz)).add j) = some (.int .i64 (g (i * sz + j))) := fun i j h1 h2 =>
  OwC.cellAt (C := C) p (tabC_get (at_lt h1 h2)) L w hi
 refine ⟨OwC.sl p L w hi, fun hn => ?_, key⟩
 have := World.block_lt_of_cell? w _ (key 0 0 hn hs)
 rw [addr_add_block, addr_add_block] at this
 exact this
theorem RdT.cellAt {sz n : Nat} {v : Value} {g : Nat → Int} (h : RdT sz C.B C.w0 v n g) {i j : Nat} (hi : i < n) (hj : j < sz) : Cell C H (prt (elt v i sz) j) (.int .i64 (g (i * sz + j))) := by
 rw [prt_eq, elt_eq]
 exact Cell.old (by rw [addr_add_block, addr_add_block]; exact h.blk (by omega)) (h.cell i j hi hj)
theorem RdT.later {sz n : Nat} {v : Value} {g : Nat → Int} {L : List HP} {w : World} (h : RdT sz C.B C.w0 v n g) (hi : Inv C.w0 C.M (L ++ H) w) : RdT sz w.heap.size w v n g :=
 ⟨h.sl, fun hn => Nat.lt_of_lt_of_le (h.blk hn) (Nat.le_trans C.hB hi.size), fun i j h1 h2 => by have := (h.cellAt (H := H) h1 h2) L w hi; rwa [prt_eq, elt_eq] at this⟩
section rules
variable {ops : Array Oper} {K : KP} {rest : List Oper} {d : Nat} {ty : TypeId} {pos : String} {af : Array Edge} {x y : Operand} {T : TypeId}
theorem WO.storeT {e sz n i j : Nat} {v : Value} {g : Nat → Int} {c : Int} {H' : List HP} (hx : ev E x = some (.pointer (some (prt (elt v i sz) j)))) (hy : ev E y = some (.int .i64 c)) (hT : C.tt.one? T = true) (p : Pick (TabP e sz v n g) H H') (hl : i < n) (hj : j < sz)
 (h : WO C ops rest K E (TabP e sz v n (updF g (i * sz + j) c) :: H')) : WO C ops (⟨none, .store T x y, ty, pos, af, none⟩ :: rest) K E H := by
 refine WO.step0 rfl rfl (XO.run (by simp) fun L a w hf hi => ?_)
 obtain ⟨hcl, hcase⟩ := OwC.open (hi.pickL p)
 rcases hcase with ⟨rfl, rfl, hv⟩ | ⟨q, cap, cur, rfl, q1, q2, q3, q4, hv⟩
 ·omega
 ·have hlook := (hv.look (b := q) (o := .cells cur.toArray e (0, 0)) ((Pick.head).app L)).1
  have ea : prt (elt (.slice (some ⟨q, 0, none⟩) n cap) i sz) j = ⟨q, i * sz + j, none⟩ := by rw [prt_eq, elt_eq, Addr.add_add]; simp [base, Addr.add_lit]
  have hk := at_lt hl hj
  have hle : n * sz ≤ cap * sz := Nat.mul_le_mul_right _ q1
  obtain ⟨w', hr, a1, a2, a3, a4, a5, a6⟩ := run_storeVar_own (P := P) (T := T) (b := q) (off := i * sz + j) (w := w) (cs := cur) (v := .int .i64 c) (vs := [.int .i64 c]) (by simp [Value.cells]) (CT.of hT).size hlook (by simp; omega) (by simp [Value.oneCell'])
  refine ⟨undef, w', _, .inr ⟨?_, rfl⟩, h, ?_⟩
  ·simp [execOp, hf.eval hx, hf.eval hy, ea, Instr.storeAt, Instr.sureAddr, hr]
  ·have h2 := hv.set (b := q) (o := .cells cur.toArray e (0, 0)) (H' := L ++ H') Pick.mem a1 a2 a3 a4 a5 a6
   have h3 := h2.perm (List.perm_middle (l₁ := L) (l₂ := H')).symm
   refine OwC.shut (tabC_len sz n _) q1 q2 (by simpa [wrl] using q3) ?_ h3
   simp only [wrl]
   rw [List.take_set, q4, tabC_set hk]
theorem WO.makeT {e sz by' n : Nat} {zv : Value} {k k' : IntKind} (hs : 0 < sz) (hT : C.tt.sl? T = some (e, sz, by')) (hz : C.tt.z? e = some zv) (hc : zv.cells = (List.replicate sz (.int .i64 0)).toArray) (hx : ev E x = some (.int k (n : Int))) (hy : ev E y = some (.int k' (n : Int)))
 (hb : by' * n ≤ 281474976710656) (h63 : n ≤ 9223372036854775807) (hN : Nat.blt d C.N = true)
 (h : ∀ b, WO C ops rest K ((d, .slice (some ⟨b, 0, none⟩) n n) :: E) (TabP e sz (.slice (some ⟨b, 0, none⟩) n n) n (fun _ => 0) :: H)) : WO C ops (⟨some d, .makeSlice T x y, ty, pos, af, none⟩ :: rest) K E H := by
 refine WO.makeOwN hT hz hc (by simp) hs hx hy hb h63 hN fun b => ?_
 have := h b
 unfold TabP at this
 rw [show tabC sz n (fun _ => 0) = (List.replicate n (List.replicate sz (Value.int .i64 0))).flatten by unfold tabC; rw [List.flatten_replicate_replicate, List.map_const', List.length_range]] at this
 exact this
end rules
theorem W.rangeFuncG {g : Operand} {p : Tmp} {assign body : Code} {Q : Post} {f : FuncId} {captured : List Value} (Hit : List HP) (HI : Nat → List HP) (xs : List Value) (hro : C.ro = none) (hN : Nat.blt p C.N = true)
 (hg : ev E g = some (.func (.func f) #[] captured.toArray)) (hcall : ∀ (args : Array Value) (w : World), (callFunc f args).run P w = .ok (.enter f args) w)
 (hH : Sub H (Hit ++ HI 0))
 (hiter : ∀ (l : Nat) (Hc : Nat → List HP), (∀ k x, xs[k]? = some x → YieldOK P C.B C.w0 l #[x] (Hc k) (Hc (k + 1))) → (∀ k, ∃ A, Hc k = A :: HI k) →
   ∀ w M', C.B ≤ w.heap.size → (∀ k, k < C.B → w.heap[k]? = C.w0.heap[k]?) → (∀ b ∈ M', C.B ≤ b) → Inv w M' (Hit ++ Hc 0) w → Ct P f (#[.func (.yield l) #[] #[]] ++ captured.toArray) w fun _ w' => Inv w M' (Hit ++ Hc xs.length) w')
 (hround : ∀ (l : Nat) (w : World) (M : List Nat) (hB : C.B ≤ w.heap.size) (hM : ∀ b ∈ M, C.B ≤ b), (∀ k, k < C.B → w.heap[k]? = C.w0.heap[k]?) → ∀ k x, xs[k]? = some x →
   W (rdCx C l w M hB hM) assign (thn (fun E2 H2 => W (rdCx C l w M hB hM) body (thn (fun _ H3 => Sub H3 (HI (k + 1))) (fun _ _ _ => False)) E2 H2) (fun _ _ _ => False)) ((p, x) :: E) (HI k))
 (h : Q .normal E (Hit ++ HI xs.length)) : W C (.rangeFunc g #[p] assign body) Q E H := by
 intro L ds a w hs
 have hF : C.F = Fence.wide := by unfold Cx.F; rw [hro]; rfl
 rw [hF]
 refine wpIn_rangeFunc ?_
 intro fn hfn
 obtain ⟨rec, hrec⟩ : ∃ rec : LoopState → Option Code → Loop, rec = fun st pe => { state := st, pending := pe, fn, tmps := a.tmps, params := #[p], assign, body, defers := w.heap.size } := ⟨_, rfl⟩
 obtain ⟨W1, hW1⟩ : ∃ W1, (w.alloc (.deferred (some []))).alloc (.loop (rec .ready none)) = W1 := ⟨_, rfl⟩
 let D := w.heap.size
 let l := w.heap.size + 1
 have hinv1 : Inv C.w0 C.M ((((D :: ds).map ptd) ++ L) ++ ((Hit ++ (pt l (.loop (rec .ready none)) :: HI 0)))) W1 := by
  have i1 := hs.inv.sub (Sub.app hH _)
  have i2 := i1.alloc (.deferred (some []))
  have i3 := i2.alloc (.loop (rec .ready none))
  rw [hW1] at i3
  have e : (w.alloc (.deferred (some []))).heap.size = l := by simp [l]
  rw [e] at i3
  refine i3.perm ?_
  have q1 : (pt l (.loop (rec .ready none)) :: ptd D :: ((ds.map ptd ++ L) ++ (Hit ++ HI 0))).Perm (pt l (.loop (rec .ready none)) :: ((((D :: ds).map ptd) ++ L ++ Hit) ++ HI 0)) := by
   simp [List.append_assoc]
  refine q1.trans ?_
  have q2 := (List.perm_middle (a := pt l (.loop (rec .ready none))) (l₁ := ((D :: ds).map ptd) ++ L ++ Hit) (l₂ := HI 0)).symm
  simpa [List.append_assoc] using q2
 refine ⟨l, [{ target := .collected D, args := #[] }], W1, { target := .fn (.func f) captured.toArray, args := #[.func (.yield l) #[] #[]] }, W1, f, #[.func (.yield l) #[] #[]] ++ captured.toArray, W1, ?_, ?_, ?_, ?_, fun h => by simp [Fence.wide] at h, ?_⟩
 ·rw [← hW1, hrec]; exact run_enterLoop_outer _ _ _ _ _
 ·simp only [resolve, hs.fr.eval hg]
  simp [go_sem, Deferred.ofValue, Act.eval]
 ·intro f' hf'; trivial
 ·simp [invoke, hcall]
 ·
  let Hc : Nat → List HP := fun k => pt l (.loop (rec .ready none)) :: HI k
  have hi2 : Inv C.w0 C.M ((Hit ++ Hc 0) ++ (((D :: ds).map ptd) ++ L)) W1 := hinv1.perm List.perm_append_comm
  obtain ⟨M', h1, h2, s, pa, pb, hM⟩ := handed hi2
  have hMB : ∀ b ∈ M', C.B ≤ b := fun b hb => by
   rcases (handed_own s hM b hb).1 with h | h
   ·exact Nat.le_trans C.hB h
   ·exact C.hM b h
  have hy : ∀ k x, xs[k]? = some x → YieldOK P C.B C.w0 l #[x] (Hc k) (Hc (k + 1)) := by
   intro k x hx wy My hyB hyk hyM hyi
   have hl : wy.heap[l]? = some (.loop (rec .ready none)) := (hyi.look .head).1
   have hy := run_yield (P := P) (args := #[x]) hl (by rw [hrec]; rfl)
   refine ⟨_, _, _, _, hy, roundIn_of_wpIn trivial ?_⟩
   have hrd := hround l wy My hyB hyM hyk k x hx
   have hst : St (rdCx C l wy My hyB hyM) [pt l (.loop (rec .ready none))] [] ((p, x) :: E) (HI k) { tmps := (#[p].zip #[x]).foldl (fun tmps (t, a) => tmps.setIfInBounds t a) a.tmps, defers := [] } wy := by
    refine ⟨rfl, ?_, hyi⟩
    have := hs.fr.put (v := x) hN
    exact ⟨by have := this.size; simpa [Act.put, rdCx] using this, fun t u hu => by have := this.get t u hu; simpa [Act.put] using this⟩
   have hw := hrd _ _ _ _ hst
   have hFr : (rdCx C l wy My hyB hyM).F = Fence.wide.inRound l := rfl
   rw [hFr] at hw
   rw [hrec]
   rw [hrec] at hw hl
   refine wpIn_mono hw ?_
   rintro e a2 w2 ⟨ds2, E2, H2, q, st2⟩
   cases e <;> first | exact q.elim | skip
   have i2 : Inv wy My (ds2.map ptd ++ pt l (.loop (rec .ready none)) :: H2) w2 := by have := st2.inv; rw [hrec]; simpa [List.append_assoc, rdCx] using this
   have hl2 := (i2.look (b := l) (o := .loop (rec .ready none)) ((Pick.head).app (ds2.map ptd))).1
   have i3 := putObj_inv (o' := .loop (rec .busy none)) i2
   have hb2 := run_beginRound (P := P) hl2 (by rw [hrec])
   have e3 : ({ rec .ready none with state := .busy } : Loop) = rec .busy none := by rw [hrec]
   rw [e3] at hb2
   refine ⟨_, hb2, ?_⟩
   have hw3 := q [pt l (.loop (rec .busy none))] ds2 a2 _ ⟨st2.defers, st2.fr, by simpa [List.append_assoc, rdCx] using i3⟩
   rw [hFr] at hw3
   refine wpIn_mono hw3 ?_
   rintro e4 a4 w4 ⟨ds4, E4, H4, q4, st4⟩
   cases e4 <;> first | exact q4.elim | skip
   have i4 : Inv wy My (ds4.map ptd ++ pt l (.loop (rec .busy none)) :: H4) w4 := by simpa [List.append_assoc, rdCx] using st4.inv
   have hl4 := (i4.look (b := l) (o := .loop (rec .busy none)) ((Pick.head).app (ds4.map ptd))).1
   have i5 := putObj_inv (o' := .loop (rec .ready none)) i4
   have hb4 := run_endRound (P := P) none hl4
   have e5 : ({ rec .busy none with state := if (none : Option Code).isNone then .ready else .done, pending := none } : Loop) = rec .ready none := by rw [hrec]; rfl
   rw [e5] at hb4
   refine ⟨_, _, hb4, rfl, ?_⟩
   have q4' : Sub H4 (HI (k + 1)) := q4
   refine i5.sub ?_
   have s1 : Sub (ds4.map ptd ++ pt l (.loop (rec .ready none)) :: H4) (pt l (.loop (rec .ready none)) :: H4) := by
    induction ds4.map ptd with
    | nil => exact Sub.refl _
    | cons A r ih => exact Sub.tail ih
   exact s1.trans (.cons .head q4')
  have hct := hiter l Hc hy (fun k => ⟨_, rfl⟩) W1 M' (Nat.le_trans C.hB (by have := hinv1.size; exact this)) hinv1.keepB hMB (handed_start s pa hM)
  refine CallsIn.mono hct ?_
  rintro e w' ⟨v, rfl, hi'⟩
  have hb := handed_back (hi2.sub .nil) s pb hM hi'
  have hb2 : Inv C.w0 C.M ((((D :: ds).map ptd) ++ L ++ Hit) ++ pt l (.loop (rec .ready none)) :: HI xs.length) w' := by
   refine hb.perm ?_
   have := List.perm_append_comm (l₁ := Hit ++ Hc xs.length) (l₂ := ((D :: ds).map ptd) ++ L)
   simpa [Hc, List.append_assoc] using this
  have hl := (hb2.look (b := l) (o := .loop (rec .ready none)) ((Pick.head).app _)).1
  refine ⟨none, w'.putObj l (.loop { rec .ready none with state := .exhausted }), ?_, ?_⟩
  ·have := run_endLoop (P := P) hl (by rw [hrec]; simp)
   have e6 : (rec .ready none).pending = none := by rw [hrec]
   rw [this]; exact congrArg (fun q => Result.ok q _) e6
  ·have h6 := putObj_inv (o' := .loop { rec .ready none with state := .exhausted }) hb2
   have h7 := h6.dropL
   refine ⟨D :: ds, E, Hit ++ HI xs.length, h, ⟨?_, ⟨hs.fr.size, hs.fr.get⟩, by simpa [List.append_assoc] using h7⟩⟩
   show [_] ++ a.defers = _
   rw [hs.defers]; rfl
theorem Cap.upTo {w u : World} {p : Addr} {v : Value} (h : Cap w p v) (_ : w.heap.size ≤ u.heap.size) (hk : ∀ k, k < w.heap.size → u.heap[k]? = w.heap[k]?) : Cap u p v := ⟨by have := h.lt; omega, by rw [cell_agree hk h.lt]; exact h.at_⟩
theorem RdT.agree {sz B n : Nat} {w w' : World} {v : Value} {g : Nat → Int} (h : RdT sz B w v n g) (hk : ∀ k, k < B → w'.heap[k]? = w.heap[k]?) : RdT sz B w' v n g := ⟨h.sl, h.blk, fun i j h1 h2 => by rw [cell_agree hk (by rw [addr_add_block, addr_add_block]; exact h.blk (by omega))]; exact h.cell i j h1 h2⟩
theorem RdT.up {sz B B' n : Nat} {w : World} {v : Value} {g : Nat → Int} (h : RdT sz B w v n g) (hB : B ≤ B') : RdT sz B' w v n g := ⟨h.sl, fun hn => Nat.lt_of_lt_of_le (h.blk hn) hB, h.cell⟩
def TabX (e sz : Nat) (v : Value) (n : Nat) (p : (Nat → Int) → Prop) : HP := fun h => ∃ g, p g ∧ TabP e sz v n g h
theorem TabX.open {e sz n : Nat} {v : Value} {p : (Nat → Int) → Prop} {H' : List HP} (pk : Pick (TabX e sz v n p) H H') : ∀ h, sat H h → ∃ g, p g ∧ sat (TabP e sz v n g :: H') h := fun h hs => by
 obtain ⟨h1, h2, s, ⟨g, hg, ht⟩, hr⟩ := pk.sat hs
 exact ⟨g, hg, h1, h2, s, ht, hr⟩
theorem TabX.shut {e sz n : Nat} {v : Value} {p : (Nat → Int) → Prop} {g : Nat → Int} {H' : List HP} (hg : p g) (pk : Pick (TabP e sz v n g) H H') : ∀ h, sat H h → sat (TabX e sz v n p :: H') h := fun h hs => by
 obtain ⟨h1, h2, s, ht, hr⟩ := pk.sat hs
 exact ⟨h1, h2, s, ⟨g, hg, ht⟩, hr⟩
theorem tabXm {e sz n : Nat} {v : Value} {p p' : (Nat → Int) → Prop} {H' : List HP} (hp : ∀ g, p g → p' g) (pk : Pick (TabX e sz v n p) H H') : ∀ h, sat H h → sat (TabX e sz v n p' :: H') h := fun h hs => by
 obtain ⟨h1, h2, s, ⟨g, hg, ht⟩, hr⟩ := pk.sat hs
 exact ⟨h1, h2, s, ⟨g, hp g hg, ht⟩, hr⟩
theorem TabP.sl {e sz n : Nat} {v : Value} {g : Nat → Int} {H' : List HP} (pk : Pick (TabP e sz v n g) H H') : ∀ (L : List HP) w, Inv C.w0 C.M (L ++ H) w → IsSl v n := OwC.sl pk
section clears
variable {ops : Array Oper} {K : KP} {rest : List Oper} {d : Nat} {ty : TypeId} {pos : String} {af : Array Edge} {x y : Operand} {T : TypeId}
end clears
end
end Go.TH
namespace Go.Proofs.YtnehaifgcegemaaGreat.Fa
open Go Go.TH
attribute [local irreducible] W WO pt
set_option maxRecDepth 10000
set_option maxHeartbeats 1000000
structure DrR (n : Nat) (w : World) (p : Addr) (v : Value) (l : List (Int × Int)) (t B T : Int) (lv : Value) : Prop where
 c : RdC n w p [v, .int .i64 t, .int .i64 B, .int .i64 T, lv]
 r : RdF encP 2 n w v l
def DrS (n0 : Nat) (w0 : World) (S : HP) (p : Addr) (v : Value) (l : List (Int × Int)) (t B T : Int) (lv : Value) : Prop := ∀ (u : World) (M : List Nat) (L H : List HP) (w : World), Inv u M (L ++ S :: H) w → n0 ≤ w.heap.size → (∀ k, k < n0 → w.heap[k]? = w0.heap[k]?) → DrR w.heap.size w p v l t B T lv
section
variable {p : Addr} {v : Value} {l : List (Int × Int)} {t B T : Int} {lv : Value} {S : HP}
theorem DrR.later {C : Cx Tryz.prog} {H L : List HP} {w : World} (h : DrR C.B C.w0 p v l t B T lv) (hi : Inv C.w0 C.M (L ++ H) w) : DrR w.heap.size w p v l t B T lv := ⟨h.c.later hi, h.r.later hi⟩
theorem DrR.up {n n' : Nat} {w : World} (h : DrR n w p v l t B T lv) (hn : n ≤ n') : DrR n' w p v l t B T lv := ⟨h.c.up hn, h.r.up hn⟩
theorem DrR.agree {n : Nat} {w w' : World} (h : DrR n w p v l t B T lv) (hk : ∀ k, k < n → w'.heap[k]? = w.heap[k]?) : DrR n w' p v l t B T lv := ⟨h.c.agree hk, h.r.agree hk⟩
theorem DrS.old {n0 : Nat} {w0 : World} (h : DrR n0 w0 p v l t B T lv) : DrS n0 w0 S p v l t B T lv := fun _ _ _ _ _ _ h1 h2 => (h.agree h2).up h1
theorem DrS.agree {n0 : Nat} {w0 w1 : World} (h : DrS n0 w0 S p v l t B T lv) (hk : ∀ k, k < n0 → w1.heap[k]? = w0.heap[k]?) : DrS n0 w1 S p v l t B T lv := fun u M L H w hi h1 h2 => h u M L H w hi h1 (fun k hlt => by rw [h2 k hlt, hk k hlt])
theorem DrS.at {C : Cx Tryz.prog} {H H' L : List HP} {w : World} (h : DrS C.B C.w0 S p v l t B T lv) (pk : Pick S H H') (hi : Inv C.w0 C.M (L ++ H) w) : DrR w.heap.size w p v l t B T lv := h _ _ L H' w (hi.pickL pk) (Nat.le_trans C.hB hi.size) hi.keepB
theorem DrS.sat {n0 : Nat} {w0 : World} {A : HP} {R : List HP} (h : DrS n0 w0 S p v l t B T lv) : DrS n0 w0 (sat (A :: S :: R)) p v l t B T lv := fun u M L H w hi h1 h2 => by
 have h3 : Inv u M (L ++ (A :: S :: R ++ H)) w := Inv.chg (L := L) hi sat_many
 exact h u M (L ++ [A]) (R ++ H) w (by simpa using h3) h1 h2
theorem DrS.cell0 {C : Cx Tryz.prog} {H : List HP} (h : DrS C.B C.w0 S p v l t B T lv) (sb : Sub H [S]) : Cell C H p v := fun L w hi => by
 cases sb with
 | cons pk _ =>
  have := (h.at pk hi).c.at_ 0 v rfl
  rwa [addr_add_zero] at this
theorem DrS.cellAt {C : Cx Tryz.prog} {H : List HP} (h : DrS C.B C.w0 S p v l t B T lv) (sb : Sub H [S]) {j : Nat} {u : Value} (hu : lget [v, .int .i64 t, .int .i64 B, .int .i64 T, lv] j = some u) : Cell C H (prt p j) u := fun L w hi => by
 cases sb with
 | cons pk _ =>
  rw [lget_eq] at hu
  rw [prt_eq]
  exact (h.at pk hi).c.at_ j u hu
theorem DrS.lo {C : Cx Tryz.prog} {H : List HP} (h : DrS C.B C.w0 S p v l t B T lv) (sb : Sub H [S]) {i j : Nat} {z : Int} (hi : i < l.length) (hj : j = i) (hz : z = (l.getD i (0, 0)).1) : Cell C H (elt v j 2) (.int .i64 z) := fun L w hi' => by
 cases sb with
 | cons pk _ =>
  subst hj hz
  have := (h.at pk hi').r.cell j (l.getD j (0, 0)) (getD_some hi _) 0 _ rfl
  rw [addr_add_zero] at this
  rw [elt_eq]; exact this
end
theorem RdF.loZ {C : Cx Tryz.prog} {H : List HP} {v : Value} {l : List (Int × Int)} (h : RdF encP 2 C.B C.w0 v l) {i j : Nat} (hi : i < l.length) (hj : j = i) : Cell C H (elt v j 2) (.int .i64 (l.getD i (0, 0)).1) := by
 subst hj
 exact h.cell0 hi (0, 0) rfl
def wid (r : Int × Int) : Nat := (r.2 - r.1 + 1).toNat
theorem wid_ok {r : Int × Int} (h : OkG r) : 1 ≤ wid r ∧ wid r ≤ 5 ∧ (wid r : Int) = r.2 - r.1 + 1 := by unfold OkG at h; unfold wid; omega
def stV (i a b s : Nat) : Value := .agg #[.int .i64 (i : Int), .int .i64 (a : Int), .int .i64 (b : Int), .int .i64 (s : Int)]
theorem c_wide (w : World) (p : Addr) (v : Value) (l : List (Int × Int)) (t B T : Int) (lv : Value) (i : Nat) (zi : Int) (hD : DrR w.heap.size w p v l t B T lv) (hz : zi = (i : Int)) (hi : i < l.length) (hg : OkS l) : Ret Tryz.prog 162 [.pointer (some p), .int .i64 zi].toArray w (.int .i64 (wid (l.getD i (0, 0)) : Int)) := by
 subst hz
 refine Ret.of mixed tyTab Tryz.func162 rfl rfl ?_
 have hD' : DrR (fnCx mixed tyTab Tryz.f162.ntmps w).B (fnCx mixed tyTab Tryz.f162.ntmps w).w0 p v l t B T lv := hD
 have hR := hD'.r
 have hP := hD'.c
 have hgi := hg _ (getD_mem hi (0, 0))
 have hw := wid_ok hgi
 unfold OkG at hgi
 refine W.sreg (WO.p rfl rfl (WO.nil (W.seq ?_)))
 refine W.drawD 18 [.r 0 [], .r 1 [], .r 2 [], .r 3 [], .b 4 [], .r 5 [], .r 6 [], .r 7 [], .b 8 [], .r 9 [], .r 10 [], .r 11 [], .r 12 [], .b 13 [], .r 14 [], .r 15 [], .r 16 [], .b 17 []] [] (A0 := []) (Sub.refl _) (by kernel_rfl) ?_ ?_
 ·repeat constructor
 refine DT.r rfl rfl rfl (WO.p rfl rfl (WO.nil ⟨rfl, rfl⟩)) (DT.r rfl rfl rfl (WO.p rfl rfl (WO.nil ⟨rfl, rfl⟩)) (DT.r rfl rfl rfl (WO.field0 rfl rfl rfl (WO.nil ⟨rfl, rfl⟩)) (DT.r rfl rfl rfl (WO.field0 rfl rfl rfl (WO.nil ⟨rfl, rfl⟩)) ?_)))
 refine' DT.b rfl rfl rfl ?hq ?_
 case hq =>
  refine' WO.load (v := _) rfl rfl ?hc rfl ?_
  case hc => (first | (refine hP.cell0 ?_ <;> rfl) | (refine hR.cell0 (i := i) ?_ (0, 0) ?_ <;> first | rfl | omega) | (refine hR.cellAt (i := i) ?_ (0, 0) ?_ <;> first | rfl | omega))
  exact WO.nil ⟨rfl, rfl⟩
 refine DT.r rfl rfl rfl (WO.p rfl rfl (WO.nil ⟨rfl, rfl⟩)) ?_
 refine' DT.r rfl rfl rfl ?hq ?_
 case hq =>
  refine' WO.indexAddr (n := _) (i := _) rfl rfl rfl ?hs ?h1 rfl ?_
  case hs => exact hR.sl
  case h1 => (first | omega | (simp; omega))
  exact WO.nil ⟨rfl, rfl⟩
 refine DT.r rfl rfl rfl (WO.field rfl rfl rfl (WO.nil ⟨rfl, rfl⟩)) ?_
 refine' DT.b rfl rfl rfl ?hq ?_
 case hq =>
  refine' WO.load (v := _) rfl rfl ?hc rfl ?_
  case hc => (first | (refine hP.cell0 ?_ <;> rfl) | (refine hR.cell0 (i := i) ?_ (0, 0) ?_ <;> first | rfl | omega) | (refine hR.cellAt (i := i) ?_ (0, 0) ?_ <;> first | rfl | omega))
  exact WO.nil ⟨rfl, rfl⟩
 refine DT.r rfl rfl rfl (WO.p rfl rfl (WO.nil ⟨rfl, rfl⟩)) (DT.r rfl rfl rfl (WO.p rfl rfl (WO.nil ⟨rfl, rfl⟩)) (DT.r rfl rfl rfl (WO.field0 rfl rfl rfl (WO.nil ⟨rfl, rfl⟩)) (DT.r rfl rfl rfl (WO.field0 rfl rfl rfl (WO.nil ⟨rfl, rfl⟩)) ?_)))
 refine' DT.b rfl rfl rfl ?hq ?_
 case hq =>
  refine' WO.load (v := _) rfl rfl ?hc rfl ?_
  case hc => (first | (refine hP.cell0 ?_ <;> rfl) | (refine hR.cell0 (i := i) ?_ (0, 0) ?_ <;> first | rfl | omega) | (refine hR.cellAt (i := i) ?_ (0, 0) ?_ <;> first | rfl | omega))
  exact WO.nil ⟨rfl, rfl⟩
 refine DT.r rfl rfl rfl (WO.p rfl rfl (WO.nil ⟨rfl, rfl⟩)) ?_
 refine' DT.r rfl rfl rfl ?hq ?_
 case hq =>
  refine' WO.indexAddr (n := _) (i := _) rfl rfl rfl ?hs ?h1 rfl ?_
  case hs => exact hR.sl
  case h1 => (first | omega | (simp; omega))
  exact WO.nil ⟨rfl, rfl⟩
 refine DT.r rfl rfl rfl (WO.field0 rfl rfl rfl (WO.nil ⟨rfl, rfl⟩)) ?_
 refine' DT.b rfl rfl rfl ?hq ?_
 case hq =>
  refine' WO.load (v := _) rfl rfl ?hc rfl ?_
  case hc => (first | (refine hP.cell0 ?_ <;> rfl) | (refine hR.cell0 (i := i) ?_ (0, 0) ?_ <;> first | rfl | omega) | (refine hR.cellAt (i := i) ?_ (0, 0) ?_ <;> first | rfl | omega))
  exact WO.nil ⟨rfl, rfl⟩
 refine DT.nil [] rfl (WO.ar rfl rfl rfl (by unfold in64; omega) rfl (WO.ar rfl rfl rfl (by unfold in64; omega) rfl (WO.p rfl rfl (WO.nil (W.ret ?_)))))
 exact fin.ret (Res.one rfl (RV.tmp rfl)) (congrArg (Value.int .i64) (by omega))
theorem c_at (w : World) (p : Addr) (v : Value) (l : List (Int × Int)) (t B T : Int) (lv : Value) (g : Nat → Int) (i a b s : Nat) (hD : DrR w.heap.size w p v l t B T lv) (hT : RdT 75 w.heap.size w lv l.length g) (hi : i < l.length) (ha : a < 5) (hb : b < 5) (hs : s < 3) : Ret Tryz.prog 165 [.pointer (some p), stV i a b s].toArray w (.int .i64 (g (i * 75 + (a * 15 + b * 3 + s)))) := by
 refine Ret.of mixed tyTab Tryz.func165 rfl rfl ?_
 have hD' : DrR (fnCx mixed tyTab Tryz.f165.ntmps w).B (fnCx mixed tyTab Tryz.f165.ntmps w).w0 p v l t B T lv := hD
 have hT' : RdT 75 (fnCx mixed tyTab Tryz.f165.ntmps w).B (fnCx mixed tyTab Tryz.f165.ntmps w).w0 lv l.length g := hT
 have hP := hD'.c
 refine W.sreg (WO.boxA rfl rfl (fun b1 hb1 => (WO.p rfl rfl (WO.nil (W.seq ?_)))))
 refine W.drawD 16 [.r 0 [], .r 1 [], .r 2 [], .b 3 [], .r 4 [], .b 5 [], .r 6 [], .b 7 [], .r 8 [], .b 9 [], .r 10 [], .r 11 [], .b 12 [], .r 13 [], .r 14 [], .r 15 []] [] (A0 := []) (Sub.refl _) (by kernel_rfl) ?_ ?_
 ·repeat constructor
 refine DT.r rfl rfl rfl (WO.p rfl rfl (WO.nil ⟨rfl, rfl⟩)) (DT.r rfl rfl rfl (WO.p rfl rfl (WO.nil ⟨rfl, rfl⟩)) (DT.r rfl rfl rfl (WO.field rfl rfl rfl (WO.nil ⟨rfl, rfl⟩)) ?_))
 refine' DT.b rfl rfl rfl ?hq ?_
 case hq =>
  refine' WO.load (v := _) rfl rfl ?hc rfl ?_
  case hc => (first | (refine hP.cellAt ?_ <;> rfl) | exact hT'.cellAt (j := a * 15 + b * 3 + s) hi (by omega))
  exact WO.nil ⟨rfl, rfl⟩
 refine DT.r rfl rfl rfl (WO.field0 rfl rfl rfl (WO.nil ⟨rfl, rfl⟩)) (DT.b rfl rfl rfl (WO.load rfl rfl (Cell.own Pick.head rfl) rfl (WO.nil ⟨rfl, rfl⟩)) (DT.r rfl rfl rfl (WO.fieldL rfl rfl rfl (WO.nil ⟨rfl, rfl⟩)) (DT.b rfl rfl rfl (WO.load rfl rfl (Cell.own Pick.head rfl) rfl (WO.nil ⟨rfl, rfl⟩)) (DT.r rfl rfl rfl (WO.fieldL rfl rfl rfl (WO.nil ⟨rfl, rfl⟩)) (DT.b rfl rfl rfl (WO.load rfl rfl (Cell.own Pick.head rfl) rfl (WO.nil ⟨rfl, rfl⟩)) (DT.r rfl rfl rfl (WO.fieldL rfl rfl rfl (WO.nil ⟨rfl, rfl⟩)) (DT.r rfl rfl rfl (WO.field0 rfl rfl rfl (WO.nil ⟨rfl, rfl⟩)) (DT.b rfl rfl rfl (WO.load rfl rfl (Cell.own Pick.head rfl) rfl (WO.nil ⟨rfl, rfl⟩)) ?_))))))))
 refine' DT.r rfl rfl rfl ?hq ?_
 case hq =>
  refine' WO.indexAddr (n := _) (i := _) rfl rfl rfl ?hs ?h1 rfl ?_
  case hs => exact hT'.sl
  case h1 => (first | omega | (simp; omega))
  exact WO.nil ⟨rfl, rfl⟩
 refine DT.r rfl rfl rfl (WO.indexArr0 (i := a) rfl rfl rfl rfl ha rfl (WO.nil ⟨rfl, rfl⟩)) (DT.r rfl rfl rfl (WO.indexArrP (i := b) (fo' := a * 15 + b * 3) rfl rfl rfl rfl hb rfl rfl (WO.nil ⟨rfl, rfl⟩)) (DT.nil [_] rfl (WO.indexArrP (i := s) (fo' := a * 15 + b * 3 + s) rfl rfl rfl rfl hs (by omega) rfl ?_)))
 refine' WO.load (v := _) rfl rfl ?hc rfl ?_
 case hc => (first | (refine hP.cellAt ?_ <;> rfl) | exact hT'.cellAt (j := a * 15 + b * 3 + s) hi (by omega))
 refine WO.p rfl rfl (WO.nil (W.ret ?_))
 exact fin.ret (Res.one rfl (RV.tmp rfl)) rfl
def dif (l : List (Int × Int)) (i a b c : Nat) : Int := (l.getD (i - 1) (0, 0)).1 + a - 2 * ((l.getD i (0, 0)).1 + b) + ((l.getD (i + 1) (0, 0)).1 + c)
def stp (B T : Int) (s : Nat) (d : Int) : Int := B * ab d + T * (chg s d : Int)
theorem dif_bd {l : List (Int × Int)} (hg : OkS l) {i a b c : Nat} (hi : i + 1 < l.length) (ha : a < 5) (hb : b < 5) (hc : c < 5) : -5000000 ≤ dif l i a b c ∧ dif l i a b c ≤ 5000000 := by
 have h1 := hg _ (getD_mem (i := i - 1) (by omega) (0, 0))
 have h2 := hg _ (getD_mem (i := i) (by omega) (0, 0))
 have h3 := hg _ (getD_mem (i := i + 1) (by omega) (0, 0))
 unfold OkG at h1 h2 h3
 unfold dif
 omega
def OkC (B T : Int) : Prop := (B = 0 ∨ B = 1) ∧ 0 ≤ T ∧ T ≤ 1000000
theorem stp_bd {B T d : Int} (h : OkC B T) (hd : -5000000 ≤ d ∧ d ≤ 5000000) (s : Nat) : (0 ≤ B * ab d ∧ B * ab d ≤ 5000000) ∧ (0 ≤ T * (chg s d : Int) ∧ T * (chg s d : Int) ≤ 1000000) ∧ 0 ≤ stp B T s d ∧ stp B T s d ≤ 6000000 := by
 obtain ⟨h1, h2, h3⟩ := h
 have h4 := chg_le s d
 have h5 : (0 ≤ B * ab d ∧ B * ab d ≤ 5000000) := by
  rcases h1 with rfl | rfl
  ·omega
  ·unfold ab; omega
 have h6 : (0 ≤ T * (chg s d : Int) ∧ T * (chg s d : Int) ≤ 1000000) := by
  rcases (show chg s d = 0 ∨ chg s d = 1 by omega) with e | e <;> rw [e]
  ·omega
  ·omega
 unfold stp
 omega
theorem c_on (w : World) (p : Addr) (v : Value) (l : List (Int × Int)) (t B T : Int) (lv : Value) (i a b s c : Nat) (hD : DrR w.heap.size w p v l t B T lv) (hg : OkS l) (hC : OkC B T) (h1 : 1 ≤ i) (hi : i + 1 < l.length) (ha : a < 5) (hb : b < 5) (hs : s < 3) (hc : c < 5) : Ret Tryz.prog 167 [.pointer (some p), stV i a b s, .int .i64 (c : Int)].toArray w (.tuple #[stV (i + 1) b c (sg s (dif l i a b c)), .int .i64 (stp B T s (dif l i a b c))]) := by
 refine Ret.of mixed tyTab Tryz.func167 rfl rfl ?_
 have hD' : DrR (fnCx mixed tyTab Tryz.f167.ntmps w).B (fnCx mixed tyTab Tryz.f167.ntmps w).w0 p v l t B T lv := hD
 have hR := hD'.r
 have hP := hD'.c
 have hg1 := hg _ (getD_mem (i := i - 1) (by omega) (0, 0))
 have hg2 := hg _ (getD_mem (i := i) (by omega) (0, 0))
 have hg3 := hg _ (getD_mem (i := i + 1) (by omega) (0, 0))
 have hdb := dif_bd hg hi ha hb hc
 have hsb := stp_bd hC hdb s
 unfold OkG at hg1 hg2 hg3
 have hle := hR.sl.le
 refine W.sreg (WO.boxA rfl rfl (fun b1 hb1 => (WO.alloc rfl rfl rfl (fun b2 hb2 => (WO.p rfl rfl (WO.nil (W.seq ?_)))))))
 refine W.drawD 13 [.r 0 [], .r 1 [], .r 2 [], .r 3 [], .b 4 [], .r 5 [], .b 6 [], .r 7 [], .r 8 [], .r 9 [], .b 10 [], .r 11 [], .b 12 []] [] (A0 := []) (Sub.refl _) (by kernel_rfl) ?_ ?_
 ·repeat constructor
 refine DT.r rfl rfl rfl (WO.p rfl rfl (WO.nil ⟨rfl, rfl⟩)) (DT.r rfl rfl rfl (WO.p rfl rfl (WO.nil ⟨rfl, rfl⟩)) (DT.r rfl rfl rfl (WO.field0 rfl rfl rfl (WO.nil ⟨rfl, rfl⟩)) (DT.r rfl rfl rfl (WO.field0 rfl rfl rfl (WO.nil ⟨rfl, rfl⟩)) ?_)))
 refine' DT.b rfl rfl rfl ?hq ?_
 case hq =>
  refine' WO.load (v := _) rfl rfl ?hc rfl ?_
  case hc => (first | (refine hP.cell0 ?_ <;> rfl) | (refine hP.cellAt ?_ <;> rfl) | (refine RdF.loZ hR (i := i) (by omega) ?_; omega))
  exact WO.nil ⟨rfl, rfl⟩
 refine DT.r rfl rfl rfl (WO.field0 rfl rfl rfl (WO.nil ⟨rfl, rfl⟩)) (DT.b rfl rfl rfl (WO.load rfl rfl (Cell.own (Pick.tail (Pick.head)) rfl) rfl (WO.nil ⟨rfl, rfl⟩)) (DT.r rfl rfl rfl (WO.ar rfl rfl rfl (by unfold in64; omega) rfl (WO.nil ⟨rfl, rfl⟩)) ?_))
 refine' DT.r rfl rfl rfl ?hq ?_
 case hq =>
  refine' WO.indexAddrZ (n := _) rfl rfl rfl ?hs ?h00 ?h1 rfl ?_
  case hs => exact hR.sl
  case h00 => omega
  case h1 => (first | omega | (simp; omega))
  exact WO.nil ⟨rfl, rfl⟩
 refine DT.r rfl rfl rfl (WO.field0 rfl rfl rfl (WO.nil ⟨rfl, rfl⟩)) ?_
 refine' DT.b rfl rfl rfl ?hq ?_
 case hq =>
  refine' WO.load (v := _) rfl rfl ?hc rfl ?_
  case hc => ((refine RdF.loZ hR (i := i - 1) (by omega) ?_; omega))
  exact WO.nil ⟨rfl, rfl⟩
 refine DT.r rfl rfl rfl (WO.fieldL rfl rfl rfl (WO.nil ⟨rfl, rfl⟩)) (DT.b rfl rfl rfl (WO.load rfl rfl (Cell.own (Pick.tail (Pick.head)) rfl) rfl (WO.nil ⟨rfl, rfl⟩)) (DT.nil [_, _] rfl (WO.ar rfl rfl rfl (by unfold in64; omega) rfl (WO.p rfl rfl (WO.nil (W.seq ?_))))))
 refine W.drawD 12 [.r 0 [], .r 1 [], .r 2 [], .r 3 [], .b 4 [], .r 5 [], .b 6 [], .r 7 [], .r 8 [], .b 9 [], .r 10 [], .b 11 []] [] (A0 := []) (Sub.refl _) (by kernel_rfl) ?_ ?_
 ·repeat constructor
 refine DT.r rfl rfl rfl (WO.p rfl rfl (WO.nil ⟨rfl, rfl⟩)) (DT.r rfl rfl rfl (WO.p rfl rfl (WO.nil ⟨rfl, rfl⟩)) (DT.r rfl rfl rfl (WO.field0 rfl rfl rfl (WO.nil ⟨rfl, rfl⟩)) (DT.r rfl rfl rfl (WO.field0 rfl rfl rfl (WO.nil ⟨rfl, rfl⟩)) ?_)))
 refine' DT.b rfl rfl rfl ?hq ?_
 case hq =>
  refine' WO.load (v := _) rfl rfl ?hc rfl ?_
  case hc => (first | (refine hP.cell0 ?_ <;> rfl) | (refine hP.cellAt ?_ <;> rfl) | (refine RdF.loZ hR (i := i) (by omega) ?_; omega))
  exact WO.nil ⟨rfl, rfl⟩
 refine DT.r rfl rfl rfl (WO.field0 rfl rfl rfl (WO.nil ⟨rfl, rfl⟩)) (DT.b rfl rfl rfl (WO.load rfl rfl (Cell.own (Pick.tail (Pick.head)) rfl) rfl (WO.nil ⟨rfl, rfl⟩)) ?_)
 refine' DT.r rfl rfl rfl ?hq ?_
 case hq =>
  refine' WO.indexAddr (n := _) (i := _) rfl rfl rfl ?hs ?h1 rfl ?_
  case hs => exact hR.sl
  case h1 => (first | omega | (simp; omega))
  exact WO.nil ⟨rfl, rfl⟩
 refine DT.r rfl rfl rfl (WO.field0 rfl rfl rfl (WO.nil ⟨rfl, rfl⟩)) ?_
 refine' DT.b rfl rfl rfl ?hq ?_
 case hq =>
  refine' WO.load (v := _) rfl rfl ?hc rfl ?_
  case hc => (first | (refine hP.cell0 ?_ <;> rfl) | (refine hP.cellAt ?_ <;> rfl) | (refine RdF.loZ hR (i := i) (by omega) ?_; omega))
  exact WO.nil ⟨rfl, rfl⟩
 refine DT.r rfl rfl rfl (WO.fieldL rfl rfl rfl (WO.nil ⟨rfl, rfl⟩)) (DT.b rfl rfl rfl (WO.load rfl rfl (Cell.own (Pick.tail (Pick.head)) rfl) rfl (WO.nil ⟨rfl, rfl⟩)) (DT.nil [_, _] rfl (WO.ar rfl rfl rfl (by unfold in64; omega) rfl (WO.p rfl rfl (WO.nil (W.seq ?_))))))
 refine W.drawD 12 [.r 0 [], .r 1 [], .r 2 [], .r 3 [], .b 4 [], .r 5 [], .b 6 [], .r 7 [], .r 8 [], .r 9 [], .b 10 [], .r 11 []] [] (A0 := []) (Sub.refl _) (by kernel_rfl) ?_ ?_
 ·repeat constructor
 refine DT.r rfl rfl rfl (WO.p rfl rfl (WO.nil ⟨rfl, rfl⟩)) (DT.r rfl rfl rfl (WO.p rfl rfl (WO.nil ⟨rfl, rfl⟩)) (DT.r rfl rfl rfl (WO.field0 rfl rfl rfl (WO.nil ⟨rfl, rfl⟩)) (DT.r rfl rfl rfl (WO.field0 rfl rfl rfl (WO.nil ⟨rfl, rfl⟩)) ?_)))
 refine' DT.b rfl rfl rfl ?hq ?_
 case hq =>
  refine' WO.load (v := _) rfl rfl ?hc rfl ?_
  case hc => (first | (refine hP.cell0 ?_ <;> rfl) | (refine hP.cellAt ?_ <;> rfl) | (refine RdF.loZ hR (i := i) (by omega) ?_; omega))
  exact WO.nil ⟨rfl, rfl⟩
 refine DT.r rfl rfl rfl (WO.field0 rfl rfl rfl (WO.nil ⟨rfl, rfl⟩)) (DT.b rfl rfl rfl (WO.load rfl rfl (Cell.own (Pick.tail (Pick.head)) rfl) rfl (WO.nil ⟨rfl, rfl⟩)) (DT.r rfl rfl rfl (WO.ar rfl rfl rfl (by unfold in64; omega) rfl (WO.nil ⟨rfl, rfl⟩)) ?_))
 refine' DT.r rfl rfl rfl ?hq ?_
 case hq =>
  refine' WO.indexAddrZ (n := _) rfl rfl rfl ?hs ?h00 ?h1 rfl ?_
  case hs => exact hR.sl
  case h00 => omega
  case h1 => (first | omega | (simp; omega))
  exact WO.nil ⟨rfl, rfl⟩
 refine DT.r rfl rfl rfl (WO.field0 rfl rfl rfl (WO.nil ⟨rfl, rfl⟩)) ?_
 refine' DT.b rfl rfl rfl ?hq ?_
 case hq =>
  refine' WO.load (v := _) rfl rfl ?hc rfl ?_
  case hc => ((refine RdF.loZ hR (i := i + 1) (by omega) ?_; omega))
  exact WO.nil ⟨rfl, rfl⟩
 refine DT.r rfl rfl rfl (WO.p rfl rfl (WO.nil ⟨rfl, rfl⟩)) (DT.nil [_, _] rfl (WO.ar rfl rfl rfl (by unfold in64; omega) rfl (WO.p rfl rfl (WO.nil (W.sreg (WO.p rfl rfl (WO.p rfl rfl (WO.ar rfl rfl rfl (by unfold in64; omega) rfl (WO.ar rfl rfl rfl (by unfold in64; omega) rfl (WO.p rfl rfl (WO.ar rfl rfl rfl (by unfold in64; omega) rfl (WO.p rfl rfl (WO.nil ?_)))))))))))))
 unfold dif at hdb
 refine W.sreg (WO.fieldL rfl rfl rfl (WO.loadA rfl rfl (Cells.ownAt (n := 1) (Pick.tail (Pick.head)) rfl) rfl rfl (WO.p rfl rfl (WO.callR rfl Tryz.call127 (fun L w hi => c_next w s _ (by omega)) rfl (WO.p rfl rfl (WO.p rfl rfl (WO.p rfl rfl (WO.alloc rfl rfl rfl (fun b3 hb3 => (WO.storeA rfl rfl rfl rfl Pick.head rfl rfl (WO.p rfl rfl (WO.nil (W.seq ?_)))))))))))))
 unfold stp dif ab at hsb
 refine W.drawD 25 [.r 0 [], .b 1 [], .r 2 [], .r 3 [], .b 4 [], .r 5 [], .b 6 [], .r 7 [], .r 8 [], .r 9 [], .r 10 [], .b 11 [], .r 12 [], .r 13 [], .r 14 [], .r 15 [], .r 16 [], .r 17 [], .r 18 [], .r 19 [], .b 20 [], .r 21 [], .r 22 [], .r 23 [], .s 24 []] [] (A0 := [_]) (H0 := [_, _]) (.cons (Pick.tail .head) (.cons .head (.cons .head .nil))) (by kernel_rfl) ?_ ?_
 ·exact (ALok.r (ALok.b (ALok.r (ALok.r (ALok.b (ALok.r (ALok.b (ALok.r (ALok.r (ALok.r (ALok.r (ALok.b (ALok.r (ALok.r (ALok.r (ALok.r (ALok.r (ALok.r (ALok.r (ALok.r (ALok.b (ALok.r (ALok.r (ALok.r (ALok.s ALok.nil)))))))))))))))))))))))))
 refine DT.r rfl rfl rfl (WO.field0 rfl rfl rfl (WO.nil ⟨rfl, rfl⟩)) (DT.b rfl rfl rfl (WO.load rfl rfl (Cell.own (Pick.tail (Pick.head)) rfl) rfl (WO.nil ⟨rfl, rfl⟩)) (DT.r rfl rfl rfl (WO.ar rfl rfl rfl (by unfold in64; omega) rfl (WO.nil ⟨rfl, rfl⟩)) (DT.r rfl rfl rfl (WO.fieldL rfl rfl rfl (WO.nil ⟨rfl, rfl⟩)) (DT.b rfl rfl rfl (WO.load rfl rfl (Cell.own (Pick.tail (Pick.head)) rfl) rfl (WO.nil ⟨rfl, rfl⟩)) (DT.r rfl rfl rfl (WO.p rfl rfl (WO.nil ⟨rfl, rfl⟩)) (DT.b rfl rfl rfl (WO.loadA rfl rfl (Cells.own Pick.head) rfl rfl (WO.nil ⟨rfl, rfl⟩)) ?_))))))
 refine' DT.r rfl rfl rfl ?hq ?_
 case hq =>
  refine' WO.build (cs := _) rfl rfl rfl ?hf rfl ?_
  case hf => rfl
  exact WO.nil ⟨rfl, rfl⟩
 refine DT.r rfl rfl rfl (WO.p rfl rfl (WO.nil ⟨rfl, rfl⟩)) (DT.r rfl rfl rfl (WO.p rfl rfl (WO.nil ⟨rfl, rfl⟩)) (DT.r rfl rfl rfl (WO.field rfl rfl rfl (WO.nil ⟨rfl, rfl⟩)) ?_))
 refine' DT.b rfl rfl rfl ?hq ?_
 case hq =>
  refine' WO.load (v := _) rfl rfl ?hc rfl ?_
  case hc => (first | (refine hP.cell0 ?_ <;> rfl) | (refine hP.cellAt ?_ <;> rfl) | (refine RdF.loZ hR (i := i) (by omega) ?_; omega))
  exact WO.nil ⟨rfl, rfl⟩
 refine DT.r rfl rfl rfl (WO.p rfl rfl (WO.nil ⟨rfl, rfl⟩)) (DT.r rfl rfl rfl (WO.p rfl rfl (WO.nil ⟨rfl, rfl⟩)) (DT.r rfl rfl rfl (WO.neg rfl (by unfold in64; omega) rfl (WO.nil ⟨rfl, rfl⟩)) (DT.r rfl rfl rfl (WO.max2 rfl rfl rfl (WO.nil ⟨rfl, rfl⟩)) (DT.r rfl rfl rfl (WO.ar rfl rfl rfl (by unfold in64; omega) rfl (WO.nil ⟨rfl, rfl⟩)) (DT.r rfl rfl rfl (WO.p rfl rfl (WO.nil ⟨rfl, rfl⟩)) (DT.r rfl rfl rfl (WO.p rfl rfl (WO.nil ⟨rfl, rfl⟩)) (DT.r rfl rfl rfl (WO.field rfl rfl rfl (WO.nil ⟨rfl, rfl⟩)) ?_)))))))
 refine' DT.b rfl rfl rfl ?hq ?_
 case hq =>
  refine' WO.load (v := _) rfl rfl ?hc rfl ?_
  case hc => (first | (refine hP.cell0 ?_ <;> rfl) | (refine hP.cellAt ?_ <;> rfl) | (refine RdF.loZ hR (i := i) (by omega) ?_; omega))
  exact WO.nil ⟨rfl, rfl⟩
 refine DT.r rfl rfl rfl (WO.p rfl rfl (WO.nil ⟨rfl, rfl⟩)) (DT.r rfl rfl rfl (WO.ar rfl rfl rfl (by unfold in64; omega) rfl (WO.nil ⟨rfl, rfl⟩)) (DT.r rfl rfl rfl (WO.ar rfl rfl rfl (by unfold in64; omega) rfl (WO.nil ⟨rfl, rfl⟩)) (DT.s [_, _, _] rfl rfl rfl (WO.storeA rfl rfl rfl rfl Pick.head rfl rfl ?_))))
 refine WO.nil ⟨[_], rfl, rfl, (Keep.r (Keep.r (Keep.r (Keep.b (Keep.r (Keep.r (Keep.r (Keep.r (Keep.r (Keep.r (Keep.r (Keep.r (Keep.b (Keep.r (Keep.r (Keep.r (Keep.r (Keep.b (Keep.r (Keep.b (Keep.r (Keep.r (Keep.b (Keep.r Keep.nil)))))))))))))))))))))))), ?_⟩
 refine DT.nil [_, _, _] rfl (WO.p rfl rfl (WO.nil (W.ret ?_)))
 exact fin.ret (Res.two rfl (RV.cell rfl rfl rfl (Cells.own (by repeat first | exact .head | apply Pick.tail))) (RV.tmp rfl)) rfl
end Go.Proofs.YtnehaifgcegemaaGreat.Fa
namespace Go.Proofs.YtnehaifgcegemaaGreat.Fa
open Go Go.TH
attribute [local irreducible] W WO pt
set_option maxRecDepth 10000
set_option maxHeartbeats 1000000
def FnN (B : Nat) (wr : World) (f : Nat) (cap : List Value) (n : Nat) (T : Nat → Int) : Prop :=
 ∀ w : World, B ≤ w.heap.size → (∀ k, k < B → w.heap[k]? = wr.heap[k]?) → ∀ x, x < n → Ret Tryz.prog f (([.int .i64 (x : Int)] : List Value) ++ cap).toArray w (.int .i64 (T x))
theorem FnN.at_ {C : Cx Tryz.prog} {H : List HP} {L : List HP} {w : World} {f : Nat} {cap : List Value} {n : Nat} {T : Nat → Int} (hB : C.B = C.w0.heap.size) (h : FnN C.w0.heap.size C.w0 f cap n T) (hi : Inv C.w0 C.M (L ++ H) w) {x : Nat} (hx : x < n) : Ret Tryz.prog f (([] : List Value) ++ [Value.int .i64 (x : Int)] ++ cap).toArray w (.int .i64 (T x)) := by
 rw [List.nil_append]
 exact h w hi.size (by rw [← hB]; exact hi.keepB) x hx
def lst (f : Nat → Int) : Nat → Nat × Int
 | 0 => (0, f 0)
 | k + 1 => if f (k + 1) < (lst f k).2 then (k + 1, f (k + 1)) else lst f k
theorem lst_yes {f : Nat → Int} {k : Nat} (h : f (k + 1) < (lst f k).2) : lst f (k + 1) = (k + 1, f (k + 1)) := if_pos h
theorem lst_no {f : Nat → Int} {k : Nat} (h : ¬ f (k + 1) < (lst f k).2) : lst f (k + 1) = lst f k := if_neg h
theorem lst_spec (f : Nat → Int) : ∀ n, (lst f n).1 ≤ n ∧ (lst f n).2 = f (lst f n).1 ∧ (∀ i, i ≤ n → (lst f n).2 ≤ f i) ∧ ∀ i, i < (lst f n).1 → (lst f n).2 < f i
 | 0 => ⟨Nat.le_refl _, rfl, fun i hi => by rw [show i = 0 by omega]; exact Int.le_refl _, fun i hi => by simp [lst] at hi⟩
 | n + 1 => by
  have ih := lst_spec f n
  by_cases h : f (n + 1) < (lst f n).2
  ·rw [lst_yes h]
   refine ⟨Nat.le_refl _, rfl, fun i hi => ?_, fun i hi => ?_⟩
   ·rcases Nat.lt_or_ge n i with g | g
    ·rw [show i = n + 1 by omega]; exact Int.le_refl _
    ·have := ih.2.2.1 i g; show f (n + 1) ≤ f i; omega
   ·have h1 : i < n + 1 := hi
    have := ih.2.2.1 i (by omega); show f (n + 1) < f i; omega
  ·rw [lst_no h]
   refine ⟨by omega, ih.2.1, fun i hi => ?_, ih.2.2.2⟩
   rcases Nat.lt_or_ge n i with g | g
   ·rw [show i = n + 1 by omega]; omega
   ·exact ih.2.2.1 i g
theorem c_least (w : World) (n : Nat) (f : Nat) (cap : List Value) (T : Nat → Int) (hn : 1 ≤ n) (hn2 : n ≤ 1000) (hF : FnN w.heap.size w f cap n T) (hcall : ∀ (args : Array Value) (w : World), (callFunc f args).run Tryz.prog w = .ok (.enter f args) w) :
 Ret Tryz.prog 163 [.int .i64 (n : Int), .func (.func f) (([] : List Value).toArray) cap.toArray].toArray w (.tuple #[.int .i64 ((lst T (n - 1)).1 : Int), .int .i64 (lst T (n - 1)).2]) := by
 refine Ret.of mixed tyTab Tryz.func163 rfl rfl ?_
 replace hF : FnN (fnCx mixed tyTab Tryz.f163.ntmps w).w0.heap.size (fnCx mixed tyTab Tryz.f163.ntmps w).w0 f cap n T := hF
 refine W.sreg (WO.p rfl rfl (WO.p rfl rfl (WO.nil (W.sreg (WO.p rfl rfl (WO.callCR (first := []) (captured := cap) rfl rfl hcall (fun L w hi => hF.at_ (x := 0) rfl hi (by omega)) rfl (WO.p rfl rfl (WO.p rfl rfl (WO.nil (W.seq (W.sreg (WO.p rfl rfl (WO.nil (W.block ?_))))))))))))))
 refine W.loop3 (fun (i : Nat) (a : Int) (b : Int) => 1 ≤ i ∧ i ≤ n ∧ a = ((lst T (i - 1)).1 : Int) ∧ b = (lst T (i - 1)).2)
  (fun (i : Nat) (a : Int) (b : Int) => [(8, .int .i64 (i : Int)), (6, .int .i64 a), (7, .int .i64 b), (0, .int .i64 (n : Int)), (1, .func (.func f) (([] : List Value).toArray) cap.toArray)])
  (fun (i : Nat) (a : Int) (b : Int) => [])
  (fun (i : Nat) (a : Int) (b : Int) => n - i) 1 0 (T 0)
  (by exact ⟨by omega, by omega, rfl, rfl⟩) ⟨rfl, rfl, rfl, rfl, rfl, trivial⟩ (by repeat (first | exact Sub.nil | refine Sub.cons (by repeat first | exact .head | apply Pick.tail) ?_)) ?_
 rintro i a b ⟨h1, h2, ha, hb⟩
 refine W.seq (W.sreg (WO.p rfl rfl (WO.p rfl rfl (WO.p rfl rfl (WO.nil ?_)))))
 refine W.cond_bl rfl (fun c1 => ?_) (fun c1 => ?_)
 ·refine W.skip (W.seq (W.block (W.sreg (WO.p rfl rfl (WO.p rfl rfl (WO.callCR (first := []) (captured := cap) rfl rfl hcall (fun L w hi => hF.at_ (x := i) rfl hi (by omega)) rfl (WO.p rfl rfl (WO.nil (W.sreg (WO.p rfl rfl (WO.p rfl rfl (WO.p rfl rfl (WO.nil ?_)))))))))))))
  refine W.cond_bl rfl (fun c2 => ?_) (fun c2 => ?_)
  ·refine W.region (WO.p rfl rfl (WO.p rfl rfl (WO.p rfl rfl (WO.p rfl rfl (WO.nil (W.region (WO.p rfl rfl (WO.ar rfl rfl rfl (by unfold in64; omega) rfl (WO.p rfl rfl (WO.nil ?_))))))))))
   refine' ⟨i + 1, _, _, ?hp, ?hmu, ⟨rfl, rfl, rfl, rfl, rfl, trivial⟩, ?hS⟩
   case hS => repeat (first | exact Sub.nil | refine Sub.cons (by repeat first | exact .head | apply Pick.tail) ?_)
   case hp => exact ⟨by omega, by omega, by have e : i - 1 + 1 = i := (by omega); rw [show i + 1 - 1 = i - 1 + 1 by omega]; first | (rw [lst_yes (by rw [e, ← hb]; assumption), e]; exact ⟨rfl, rfl⟩) | (rw [lst_no (by rw [e, ← hb]; assumption)]; exact ⟨ha, hb⟩)⟩
   case hmu => omega
  ·refine W.skip (W.region (WO.p rfl rfl (WO.ar rfl rfl rfl (by unfold in64; omega) rfl (WO.p rfl rfl (WO.nil ?_)))))
   refine' ⟨i + 1, _, _, ?hp, ?hmu, ⟨rfl, rfl, rfl, rfl, rfl, trivial⟩, ?hS⟩
   case hS => repeat (first | exact Sub.nil | refine Sub.cons (by repeat first | exact .head | apply Pick.tail) ?_)
   case hp => exact ⟨by omega, by omega, by have e : i - 1 + 1 = i := (by omega); rw [show i + 1 - 1 = i - 1 + 1 by omega]; first | (rw [lst_yes (by rw [e, ← hb]; assumption), e]; exact ⟨rfl, rfl⟩) | (rw [lst_no (by rw [e, ← hb]; assumption)]; exact ⟨ha, hb⟩)⟩
   case hmu => omega
 ·refine W.exit (blk_same (W.sreg (WO.p rfl rfl (WO.p rfl rfl (WO.p rfl rfl (WO.p rfl rfl (WO.nil (W.ret (fin.ret (Res.two rfl (RV.tmp rfl) (RV.tmp rfl)) ?_)))))))))
  rw [show n - 1 = i - 1 by omega, ← ha, ← hb]
def gof (B T : Int) : List (Int × Int) → Int → Int → Nat → Int
 | [], _, _, _ => 0
 | r :: rs, x, y, s => (lst (fun c => stp B T s (x - 2 * y + (r.1 + c)) + gof B T rs y (r.1 + c) (sg s (x - 2 * y + (r.1 + c)))) (wid r - 1)).2
def gAt (B T : Int) (l : List (Int × Int)) (i a b s : Nat) : Int := gof B T (l.drop (i + 1)) ((l.getD (i - 1) (0, 0)).1 + a) ((l.getD i (0, 0)).1 + b) s
def gOn (B T : Int) (l : List (Int × Int)) (i a b s c : Nat) : Int := stp B T s (dif l i a b c) + gAt B T l (i + 1) b c (sg s (dif l i a b c))
theorem gAt_last {B T : Int} {l : List (Int × Int)} {i a b s : Nat} (h : l.length ≤ i + 1) : gAt B T l i a b s = 0 := by
 unfold gAt; rw [List.drop_eq_nil_of_le h]; rfl
theorem gAt_succ {B T : Int} {l : List (Int × Int)} {i a b s : Nat} (h : i + 1 < l.length) : gAt B T l i a b s = (lst (gOn B T l i a b s) (wid (l.getD (i + 1) (0, 0)) - 1)).2 := by
 have e : l.drop (i + 1) = l.getD (i + 1) (0, 0) :: l.drop (i + 2) := by
  rw [List.drop_eq_getElem_cons h, List.getD_eq_getElem?_getD, List.getElem?_eq_getElem h]; rfl
 unfold gAt
 rw [e]
 rfl
theorem gof_bd {B T : Int} (hC : OkC B T) : ∀ {rs : List (Int × Int)}, OkS rs → ∀ {x y : Int} {s : Nat}, -1000000 ≤ x ∧ x ≤ 1000000 → -1000000 ≤ y ∧ y ≤ 1000000 → 0 ≤ gof B T rs x y s ∧ gof B T rs x y s ≤ 6000000 * rs.length
 | [], _, _, _, _, _, _ => by simp [gof]
 | r :: rs, hS, x, y, s, hx, hy => by
  have hr : OkG r := hS r (by simp)
  have hw := wid_ok hr
  unfold gof
  generalize hF : (fun c : Nat => stp B T s (x - 2 * y + (r.1 + c)) + gof B T rs y (r.1 + c) (sg s (x - 2 * y + (r.1 + c)))) = F
  have h1 := lst_spec F (wid r - 1)
  rw [h1.2.1]
  generalize (lst F (wid r - 1)).1 = c at h1
  have hc : (c : Int) ≤ 4 := by have := h1.1; omega
  have hcw : (c : Int) ≤ (wid r : Int) - 1 := by have := h1.1; omega
  unfold OkG at hr
  have h2 := gof_bd hC (rs := rs) (fun q hq => hS q (by simp [hq])) (x := y) (y := r.1 + c) (s := sg s (x - 2 * y + (r.1 + c))) hy (by omega)
  have h3 := stp_bd hC (d := x - 2 * y + (r.1 + c)) (by omega) s
  rw [← hF]
  simp only [List.length_cons]
  omega
theorem gAt_bd {B T : Int} (hC : OkC B T) {l : List (Int × Int)} (hg : OkS l) (h24 : l.length ≤ 24) {i a b s : Nat} (hi : i < l.length) (ha : a < wid (l.getD (i - 1) (0, 0))) (hb : b < wid (l.getD i (0, 0))) : 0 ≤ gAt B T l i a b s ∧ gAt B T l i a b s ≤ 144000000 := by
 have h1 := hg _ (getD_mem (i := i - 1) (by omega) (0, 0))
 have h2 := hg _ (getD_mem hi (0, 0))
 have w1 := wid_ok h1
 have w2 := wid_ok h2
 unfold OkG at h1 h2
 have := gof_bd hC (rs := l.drop (i + 1)) (fun q hq => hg q (List.mem_of_mem_drop hq)) (x := (l.getD (i - 1) (0, 0)).1 + a) (y := (l.getD i (0, 0)).1 + b) (s := s) (by omega) (by omega)
 rw [List.length_drop] at this
 unfold gAt
 omega
def RowOk (B T : Int) (l : List (Int × Int)) (g : Nat → Int) (i : Nat) : Prop := ∀ a b s, a < wid (l.getD (i - 1) (0, 0)) → b < wid (l.getD i (0, 0)) → s < 3 → g (i * 75 + (a * 15 + b * 3 + s)) = gAt B T l i a b s
theorem sg_lt {s : Nat} {d : Int} (h : s < 3) : sg s d < 3 := by have := sg_le (d := d) (show s ≤ 2 by omega); omega
theorem c_go11 (w : World) (q p : Addr) (r : Addr) (v : Value) (l : List (Int × Int)) (t B T : Int) (lv : Value) (g : Nat → Int) (i a b s c : Nat) (hc1 : Cap w q (.pointer (some p))) (hc2 : RdC w.heap.size w r [.int .i64 (i : Int), .int .i64 (a : Int), .int .i64 (b : Int), .int .i64 (s : Int)])
 (hD : DrR w.heap.size w p v l t B T lv) (hT : RdT 75 w.heap.size w lv l.length g) (hg : OkS l) (h24 : l.length ≤ 24) (hC : OkC B T) (h1 : 1 ≤ i) (hi : i + 1 < l.length) (ha : a < wid (l.getD (i - 1) (0, 0))) (hb : b < wid (l.getD i (0, 0))) (hs : s < 3) (hc : c < wid (l.getD (i + 1) (0, 0))) (hrow : RowOk B T l g (i + 1)) :
 Ret Tryz.prog 244 [.int .i64 (c : Int), .pointer (some q), .pointer (some r)].toArray w (.int .i64 (gOn B T l i a b s c)) := by
 refine Ret.of mixed tyTab Tryz.func244 rfl rfl ?_
 replace hc1 : Cap (fnCx mixed tyTab Tryz.f244.ntmps w).w0 q (.pointer (some p)) := hc1
 replace hc2 : RdC (fnCx mixed tyTab Tryz.f244.ntmps w).B (fnCx mixed tyTab Tryz.f244.ntmps w).w0 r [.int .i64 (i : Int), .int .i64 (a : Int), .int .i64 (b : Int), .int .i64 (s : Int)] := hc2
 have hD' : DrR (fnCx mixed tyTab Tryz.f244.ntmps w).B (fnCx mixed tyTab Tryz.f244.ntmps w).w0 p v l t B T lv := hD
 have hT' : RdT 75 (fnCx mixed tyTab Tryz.f244.ntmps w).B (fnCx mixed tyTab Tryz.f244.ntmps w).w0 lv l.length g := hT
 have w1 := wid_ok (hg _ (getD_mem (i := i - 1) (by omega) (0, 0)))
 have w2 := wid_ok (hg _ (getD_mem (i := i) (by omega) (0, 0)))
 have w3 := wid_ok (hg _ (getD_mem (i := i + 1) (by omega) (0, 0)))
 have hdb := dif_bd hg (i := i) (a := a) (b := b) (c := c) hi (by omega) (by omega) (by omega)
 have hsb := (stp_bd hC hdb s).2.2
 have hgb := gAt_bd hC hg h24 (i := i + 1) (a := b) (b := c) (s := sg s (dif l i a b c)) (by omega) hb hc
 have hrc := hrow b c (sg s (dif l i a b c)) hb hc (sg_lt hs)
 refine W.sreg (WO.p rfl rfl (WO.nil (W.sreg ?_)))
 refine' WO.load (v := _) rfl rfl ?hc rfl ?_
 case hc => (refine Cap.cell (v := .pointer (some p)) rfl hc1)
 refine' WO.loadA (vs := _) rfl rfl ?hc ?hl rfl ?_
 case hc => exact hc2.cells
 case hl => rfl
 refine WO.p rfl rfl (WO.callR rfl Tryz.call167 (fun L w hi' => c_on w p v l t B T lv i a b s c (hD'.later hi') hg hC h1 hi (by omega) (by omega) hs (by omega)) rfl (WO.p rfl rfl (WO.p rfl rfl (WO.p rfl rfl (WO.alloc rfl rfl rfl (fun b1 hb1 => (WO.storeA rfl rfl rfl rfl Pick.head rfl rfl (WO.p rfl rfl (WO.nil (W.sreg (WO.p rfl rfl ?_)))))))))))
 refine' WO.load (v := _) rfl rfl ?hc rfl ?_
 case hc => (refine Cap.cell (v := .pointer (some p)) rfl hc1)
 refine WO.loadA rfl rfl (Cells.own Pick.head) rfl rfl (WO.callR (r := .int .i64 (gAt B T l (i + 1) b c (sg s (dif l i a b c)))) rfl Tryz.call165 (fun L w hi' => by rw [← hrc]; exact c_at w p v l t B T lv g (i + 1) b c (sg s (dif l i a b c)) (hD'.later hi') (hT'.later hi') hi (by omega) (by omega) (sg_lt hs)) rfl (WO.ar rfl rfl rfl (by unfold in64; omega) rfl (WO.p rfl rfl (WO.nil (W.ret ?_)))))
 exact fin.ret (Res.one rfl (RV.tmp rfl)) rfl
theorem c_go1 (w : World) (p : Addr) (v : Value) (l : List (Int × Int)) (t B T : Int) (lv : Value) (g : Nat → Int) (i a b s : Nat)
 (hD : DrR w.heap.size w p v l t B T lv) (hT : RdT 75 w.heap.size w lv l.length g) (hg : OkS l) (h24 : l.length ≤ 24) (hC : OkC B T) (h1 : 1 ≤ i) (hi : i + 1 < l.length) (ha : a < wid (l.getD (i - 1) (0, 0))) (hb : b < wid (l.getD i (0, 0))) (hs : s < 3) (hrow : RowOk B T l g (i + 1)) :
 Ret Tryz.prog 166 [.pointer (some p), stV i a b s].toArray w (.tuple #[.int .i64 ((lst (gOn B T l i a b s) (wid (l.getD (i + 1) (0, 0)) - 1)).1 : Int), .int .i64 (gAt B T l i a b s)]) := by
 refine Ret.of mixed tyTab Tryz.func166 rfl rfl ?_
 have hD' : DrR (fnCx mixed tyTab Tryz.f166.ntmps w).B (fnCx mixed tyTab Tryz.f166.ntmps w).w0 p v l t B T lv := hD
 have hT' : RdT 75 (fnCx mixed tyTab Tryz.f166.ntmps w).B (fnCx mixed tyTab Tryz.f166.ntmps w).w0 lv l.length g := hT
 have w3 := wid_ok (hg _ (getD_mem (i := i + 1) (by omega) (0, 0)))
 rw [gAt_succ hi]
 refine W.sreg (WO.box1 rfl (by first | rfl | assumption) rfl (fun b1 hb1 => (WO.boxA rfl rfl (fun b2 hb2 => (WO.p rfl rfl (WO.p rfl rfl (WO.nil (W.sreg (WO.load rfl rfl (Cell.own (Pick.tail (Pick.head)) rfl) rfl (WO.field0 rfl rfl rfl (WO.load rfl rfl (Cell.own Pick.head rfl) rfl (WO.ar rfl rfl rfl (by unfold in64; omega) rfl (WO.callR rfl Tryz.call162 (fun L w hi' => c_wide w p v l t B T lv (i + 1) _ (hD'.later hi') rfl hi hg) rfl (WO.p rfl rfl ?_))))))))))))))
 refine WO.callR rfl Tryz.call163 (fun L w hi' => c_least w (wid (l.getD (i + 1) (0, 0))) 244 [.pointer (some ⟨b1, 0, none⟩), .pointer (some ⟨b2, 0, none⟩)] (gOn B T l i a b s) (by omega) (by omega) (fun u hu hk x hx => c_go11 u ⟨b1, 0, none⟩ p ⟨b2, 0, none⟩ v l t B T lv g i a b s x ((Cap.of (b := b1) (off := 0) (v := .pointer (some p)) (by repeat first | exact .head | apply Pick.tail) rfl hi').upTo hu hk) (((RdC.own (b := b2) (by repeat first | exact .head | apply Pick.tail) hi').agree hk).up hu) (((hD'.later hi').agree hk).up hu) (((hT'.later hi').agree hk).up hu) hg h24 hC h1 hi ha hb hs hx hrow) Tryz.call244) rfl (WO.p rfl rfl (WO.p rfl rfl (WO.p rfl rfl (WO.p rfl rfl ?_))))
 refine WO.nil (W.ret ?_)
 exact fin.ret (Res.two rfl (RV.tmp rfl) (RV.tmp rfl)) rfl
end Go.Proofs.YtnehaifgcegemaaGreat.Fa
namespace Go.Proofs.YtnehaifgcegemaaGreat.Fa
open Go Go.TH
attribute [local irreducible] W WO pt
set_option maxRecDepth 10000
set_option maxHeartbeats 1000000
theorem c_states (w : World) (p : Addr) (i : Nat) (zi : Int) (hz : zi = (i : Int)) : Ct Tryz.prog 243 [.pointer (some p), .int .i64 zi].toArray w fun v w' => ∃ Hq, (∃ b1 b2, v = .func (.func 331) #[] #[.pointer (some ⟨b1, 0, none⟩), .pointer (some ⟨b2, 0, none⟩)] ∧
 Hq = [pt b2 (.cells #[.int .i64 (i : Int)] 3 (0, 0)), pt b1 (.cells #[.pointer (some p)] 143 (0, 0))]) ∧ Inv w [] Hq w' := by
 subst hz
 refine Ct.of mixed tyTab Tryz.func243 rfl rfl (W.sreg (WO.box1 rfl (by first | rfl | assumption) rfl (fun b1 hb1 => (WO.box1 rfl (by first | rfl | assumption) rfl (fun b2 hb2 => (WO.p rfl rfl (WO.nil (W.sreg (WO.p rfl rfl (WO.p rfl rfl (WO.nil (W.ret ?_))))))))))))
 exact fin.ret (Res.one rfl (RV.tmp rfl)) ⟨b1, b2, rfl, rfl⟩
def w1 (l : List (Int × Int)) (i : Nat) : Nat := wid (l.getD (i - 1) (0, 0))
def w2 (l : List (Int × Int)) (i : Nat) : Nat := wid (l.getD i (0, 0))
def stL (l : List (Int × Int)) (i : Nat) : List (Nat × Nat × Nat) := (List.range (w1 l i * w2 l i * 3)).map fun q => (q / 3 / w2 l i, q / 3 % w2 l i, q % 3)
def stsV (l : List (Int × Int)) (i : Nat) : List Value := (stL l i).map fun x => stV i x.1 x.2.1 x.2.2
theorem stL_len (l : List (Int × Int)) (i : Nat) : (stL l i).length = w1 l i * w2 l i * 3 := by simp [stL]
theorem stsV_len (l : List (Int × Int)) (i : Nat) : (stsV l i).length = w1 l i * w2 l i * 3 := by simp [stsV, stL_len]
theorem ix_lt {a b s W1 W2 : Nat} (ha : a < W1) (hb : b < W2) (hs : s < 3) : (a * W2 + b) * 3 + s < W1 * W2 * 3 := by
 have := Nat.mul_le_mul_right W2 (show a + 1 ≤ W1 by omega)
 rw [Nat.add_mul, Nat.one_mul] at this
 omega
theorem stL_get {l : List (Int × Int)} {i a b s : Nat} (ha : a < w1 l i) (hb : b < w2 l i) (hs : s < 3) : (stL l i)[(a * w2 l i + b) * 3 + s]? = some (a, b, s) := by
 unfold stL
 rw [List.getElem?_map, List.getElem?_range (ix_lt ha hb hs)]
 have e1 : ((a * w2 l i + b) * 3 + s) / 3 = a * w2 l i + b := by omega
 have e2 : ((a * w2 l i + b) * 3 + s) % 3 = s := by omega
 have e3 : (a * w2 l i + b) / w2 l i = a := by rw [Nat.mul_comm, Nat.mul_add_div (by omega), Nat.div_eq_of_lt hb]; omega
 have e4 : (a * w2 l i + b) % w2 l i = b := by rw [Nat.mul_comm, Nat.mul_add_mod, Nat.mod_eq_of_lt hb]
 simp only [Option.map_some, e1, e2, e3, e4]
theorem stsV_get {l : List (Int × Int)} {i a b s : Nat} (ha : a < w1 l i) (hb : b < w2 l i) (hs : s < 3) : (stsV l i)[(a * w2 l i + b) * 3 + s]? = some (stV i a b s) := by
 unfold stsV; rw [List.getElem?_map, stL_get ha hb hs]; rfl
theorem stL_some {l : List (Int × Int)} {i q : Nat} {x : Nat × Nat × Nat} (h : (stL l i)[q]? = some x) : x.1 < w1 l i ∧ x.2.1 < w2 l i ∧ x.2.2 < 3 ∧ q = (x.1 * w2 l i + x.2.1) * 3 + x.2.2 := by
 have hq := (List.getElem?_eq_some_iff.1 h).1
 rw [stL_len] at hq
 unfold stL at h
 rw [List.getElem?_map, List.getElem?_range hq] at h
 obtain rfl : (q / 3 / w2 l i, q / 3 % w2 l i, q % 3) = x := by simpa using h
 have h0 : 0 < w2 l i := by
  rcases Nat.eq_zero_or_pos (w2 l i) with e | e
  ·rw [e] at hq; omega
  ·exact e
 have h1 : q / 3 < w1 l i * w2 l i := by omega
 refine ⟨?_, Nat.mod_lt _ h0, by simp only; omega, ?_⟩
 ·exact (Nat.div_lt_iff_lt_mul h0).2 h1
 ·have := Nat.div_add_mod (q / 3) (w2 l i)
  rw [Nat.mul_comm] at this
  simp only
  omega
theorem stsV_some {l : List (Int × Int)} {i q : Nat} {x : Value} (h : (stsV l i)[q]? = some x) : ∃ a b s, a < w1 l i ∧ b < w2 l i ∧ s < 3 ∧ q = (a * w2 l i + b) * 3 + s ∧ x = stV i a b s := by
 unfold stsV at h
 rw [List.getElem?_map] at h
 cases hq : (stL l i)[q]? with
 | none => simp [hq] at h
 | some y =>
  simp [hq] at h
  have := stL_some hq
  exact ⟨y.1, y.2.1, y.2.2, this.1, this.2.1, this.2.2.1, this.2.2.2, h.symm⟩
theorem c_states1 (B : Nat) (wr : World) (p : Addr) (v : Value) (l : List (Int × Int)) (t Bc T : Int) (lv : Value) (i : Nat) (hg : OkS l) (h24 : l.length ≤ 24) (h1 : 1 ≤ i) (hil : i < l.length)
 (lp : Nat) (Hc : Nat → List HP) (hy : ∀ k x, (stsV l i)[k]? = some x → YieldOK Tryz.prog B wr lp #[x] (Hc k) (Hc (k + 1))) (hS : ∀ k, DrS B wr (sat (Hc k)) p v l t Bc T lv) (b1 b2 : Nat) (w : World) (M' : List Nat) (hB : B ≤ w.heap.size) (hk : ∀ k, k < B → w.heap[k]? = wr.heap[k]?) (hM : ∀ b ∈ M', B ≤ b)
 (hi : Inv w M' ([pt b2 (.cells #[.int .i64 (i : Int)] 3 (0, 0)), pt b1 (.cells #[.pointer (some p)] 143 (0, 0))] ++ Hc 0) w) :
 Ct Tryz.prog 331 ([.func (.yield lp) #[] #[], .pointer (some ⟨b1, 0, none⟩), .pointer (some ⟨b2, 0, none⟩)] : List Value).toArray w fun _ w' => Inv w M' ([pt b2 (.cells #[.int .i64 (i : Int)] 3 (0, 0)), pt b1 (.cells #[.pointer (some p)] 143 (0, 0))] ++ Hc (stsV l i).length) w' := by
 refine Iter.of mixed tyTab hB hM Tryz.func331 rfl rfl hi ?_
 have hS' : ∀ k, DrS (itCx mixed tyTab Tryz.f331.ntmps w M' B hB hM).B (itCx mixed tyTab Tryz.f331.ntmps w M' B hB hM).w0 (sat (Hc k)) p v l t Bc T lv := fun k => (hS k).agree hk
 have q1 := wid_ok (hg _ (getD_mem (i := i - 1) (by omega) (0, 0)))
 have q2 := wid_ok (hg _ (getD_mem (i := i) (by omega) (0, 0)))
 have e1 : wid (l.getD (i - 1) (0, 0)) = w1 l i := rfl
 have e2 : wid (l.getD i (0, 0)) = w2 l i := rfl
 rw [e1] at q1
 rw [e2] at q2
 refine W.sreg (WO.load rfl rfl (Cell.own (Pick.tail (Pick.head)) rfl) rfl (WO.load rfl rfl (Cell.own Pick.head rfl) rfl (WO.ar rfl rfl rfl (by unfold in64; omega) rfl (WO.callR (r := .int .i64 (w1 l i : Int)) rfl Tryz.call162 (fun L w hi' => c_wide w p v l t Bc T lv (i - 1) _ ((hS' _).at (by repeat first | exact .head | apply Pick.tail) hi') (by omega) (by omega) hg) rfl (WO.p rfl rfl (WO.nil (W.block ?_)))))))
 rw [show Hc 0 = Hc (0 * w2 l i * 3) by rw [Nat.zero_mul, Nat.zero_mul]]
 refine W.loop (fun (a : Nat) => a ≤ w1 l i)
  (fun (a : Nat) => [(11, .int .i64 (a : Int)), (10, .int .i64 (w1 l i : Int)), (0, .func (.yield lp) #[] #[]), (1, .pointer (some ⟨b1, 0, none⟩)), (2, .pointer (some ⟨b2, 0, none⟩))])
  (fun (a : Nat) => [pt b1 (.cells #[.pointer (some p)] 143 (0, 0)), pt b2 (.cells #[.int .i64 (i : Int)] 3 (0, 0)), sat (Hc (a * w2 l i * 3))])
  (fun (a : Nat) => w1 l i - a) 0
  (by exact Nat.zero_le _) ⟨rfl, rfl, rfl, rfl, rfl, trivial⟩ (by repeat (first | exact Sub.nil | refine Sub.cons (by repeat first | exact .head | apply Pick.tail) ?_)) ?_
 rintro a ha'
 refine W.sreg (WO.p rfl rfl (WO.nil (W.seq ?_)))
 refine W.cond_bl rfl (fun c1 => ?_) (fun c1 => ?_)
 ·refine W.skip (W.seq (W.block (W.sreg (WO.p rfl rfl (WO.p rfl rfl (WO.nil (W.sreg (WO.load rfl rfl (Cell.own Pick.head rfl) rfl (WO.load rfl rfl (Cell.own (Pick.tail (Pick.head)) rfl) rfl (WO.callR (r := .int .i64 (w2 l i : Int)) rfl Tryz.call162 (fun L w hi' => c_wide w p v l t Bc T lv i _ ((hS' _).at (by repeat first | exact .head | apply Pick.tail) hi') rfl (by omega) hg) rfl (WO.p rfl rfl (WO.nil (W.block ?_)))))))))))))
  refine W.loop (fun (b : Nat) => b ≤ w2 l i)
   (fun (b : Nat) => [(11, .int .i64 (a : Int)), (10, .int .i64 (w1 l i : Int)), (17, .int .i64 (b : Int)), (16, .int .i64 (w2 l i : Int)), (4, .int .i64 (a : Int)), (0, .func (.yield lp) #[] #[]), (1, .pointer (some ⟨b1, 0, none⟩)), (2, .pointer (some ⟨b2, 0, none⟩))])
   (fun (b : Nat) => [pt b1 (.cells #[.pointer (some p)] 143 (0, 0)), pt b2 (.cells #[.int .i64 (i : Int)] 3 (0, 0)), sat (Hc ((a * w2 l i + b) * 3))])
   (fun (b : Nat) => w2 l i - b) 0
   (by exact Nat.zero_le _) ⟨rfl, rfl, rfl, rfl, rfl, rfl, rfl, rfl, trivial⟩ (by repeat (first | exact Sub.nil | refine Sub.cons (by repeat first | exact .head | apply Pick.tail) ?_)) ?_
  rintro b hb'
  refine W.sreg (WO.p rfl rfl (WO.nil (W.seq ?_)))
  refine W.cond_bl rfl (fun c2 => ?_) (fun c2 => ?_)
  ·refine W.skip (W.seq (W.block (W.sreg (WO.p rfl rfl (WO.p rfl rfl (WO.nil (W.sreg (WO.p rfl rfl (WO.nil (W.block ?_))))))))))
   refine W.loop (fun (s : Nat) => s ≤ 3)
    (fun (s : Nat) => [(11, .int .i64 (a : Int)), (10, .int .i64 (w1 l i : Int)), (17, .int .i64 (b : Int)), (16, .int .i64 (w2 l i : Int)), (4, .int .i64 (a : Int)), (5, .int .i64 (b : Int)), (20, .int .i64 (s : Int)), (0, .func (.yield lp) #[] #[]), (1, .pointer (some ⟨b1, 0, none⟩)), (2, .pointer (some ⟨b2, 0, none⟩))])
    (fun (s : Nat) => [pt b1 (.cells #[.pointer (some p)] 143 (0, 0)), pt b2 (.cells #[.int .i64 (i : Int)] 3 (0, 0)), sat (Hc ((a * w2 l i + b) * 3 + s))])
    (fun (s : Nat) => 3 - s) 0
    (by exact Nat.zero_le _) ⟨rfl, rfl, rfl, rfl, rfl, rfl, rfl, rfl, rfl, rfl, trivial⟩ (by repeat (first | exact Sub.nil | refine Sub.cons (by repeat first | exact .head | apply Pick.tail) ?_)) ?_
   rintro s hs'
   refine W.sreg (WO.p rfl rfl (WO.nil (W.seq ?_)))
   refine W.cond_bl rfl (fun c3 => ?_) (fun c3 => ?_)
   ·refine W.skip (W.seq (W.block (W.sreg (WO.p rfl rfl (WO.p rfl rfl (WO.nil (W.sreg (WO.p rfl rfl (WO.load rfl rfl (Cell.own (Pick.tail (Pick.head)) rfl) rfl (WO.p rfl rfl (WO.p rfl rfl (WO.p rfl rfl ?_))))))))))))
    refine' WO.build (cs := _) rfl rfl rfl ?hf rfl ?_
    case hf => rfl
    refine' WO.build (cs := _) rfl rfl rfl ?hf rfl ?_
    case hf => rfl
    refine WO.yield rfl rfl (by repeat first | exact .head | apply Pick.tail) ((hy _ _ (stsV_get (a := a) (b := b) (s := s) (by omega) (by omega) (by omega))).one.agree hk) rfl (WO.p rfl rfl (WO.nil (W.cond_f rfl (W.skip (W.region (WO.ar rfl rfl rfl (by unfold in64; omega) rfl (WO.p rfl rfl (WO.nil ?_))))))))
    refine' ⟨s + 1, ?hp, ?hmu, ⟨rfl, rfl, rfl, rfl, rfl, rfl, rfl, rfl, rfl, rfl, trivial⟩, ?hS⟩
    case hS => repeat (first | exact Sub.nil | refine Sub.cons (by repeat first | exact .head | apply Pick.tail) ?_)
    case hp => omega
    case hmu => omega
   ·refine W.exit (blk_same ?_)
    obtain rfl : s = 3 := by omega
    rw [show (a * w2 l i + b) * 3 + 3 = (a * w2 l i + (b + 1)) * 3 by omega]
    refine W.region (WO.ar rfl rfl rfl (by unfold in64; omega) rfl (WO.p rfl rfl (WO.nil ?_)))
    refine' ⟨b + 1, ?hp, ?hmu, ⟨rfl, rfl, rfl, rfl, rfl, rfl, rfl, rfl, trivial⟩, ?hS⟩
    case hS => repeat (first | exact Sub.nil | refine Sub.cons (by repeat first | exact .head | apply Pick.tail) ?_)
    case hp => omega
    case hmu => omega
  ·refine W.exit (blk_same ?_)
   obtain rfl : b = w2 l i := by omega
   rw [show (a * w2 l i + w2 l i) * 3 = (a + 1) * w2 l i * 3 by rw [Nat.add_mul a 1, Nat.one_mul]]
   refine W.region (WO.ar rfl rfl rfl (by unfold in64; omega) rfl (WO.p rfl rfl (WO.nil ?_)))
   refine' ⟨a + 1, ?hp, ?hmu, ⟨rfl, rfl, rfl, rfl, rfl, trivial⟩, ?hS⟩
   case hS => repeat (first | exact Sub.nil | refine Sub.cons (by repeat first | exact .head | apply Pick.tail) ?_)
   case hp => omega
   case hmu => omega
 ·refine W.exit (blk_same ?_)
  obtain rfl : a = w1 l i := by omega
  refine fin.normal (Res.none rfl) ?_
  rw [stsV_len]
  exact .cons (.tail .head) (.cons .head (.cons .head .nil))
end Go.Proofs.YtnehaifgcegemaaGreat.Fa
namespace Go.Proofs.YtnehaifgcegemaaGreat.Fa
open Go Go.TH
attribute [local irreducible] W WO pt
set_option maxRecDepth 10000
set_option maxHeartbeats 1000000
def RowsOk (B T : Int) (l : List (Int × Int)) (i : Nat) (g : Nat → Int) : Prop := ∀ k, i < k → k < l.length → RowOk B T l g k
def RowTo (B T : Int) (l : List (Int × Int)) (i q : Nat) (g : Nat → Int) : Prop := RowsOk B T l i g ∧ ∀ a b s, a < w1 l i → b < w2 l i → s < 3 → (a * w2 l i + b) * 3 + s < q → g (i * 75 + (a * 15 + b * 3 + s)) = gAt B T l i a b s
theorem RowTo.zero {B T : Int} {l : List (Int × Int)} {i : Nat} {g : Nat → Int} (h : RowsOk B T l i g) : RowTo B T l i 0 g := ⟨h, fun _ _ _ _ _ _ h => by omega⟩
theorem RowTo.all {B T : Int} {l : List (Int × Int)} {i : Nat} {g : Nat → Int} (h : RowTo B T l i (stsV l i).length g) : RowsOk B T l (i - 1) g := fun k h1 h2 => by
 rcases Nat.lt_or_ge i k with h3 | h3
 ·exact h.1 k h3 h2
 ·obtain rfl : k = i := by omega
  intro a b s ha hb hs
  exact h.2 a b s ha hb hs (by rw [stsV_len]; exact ix_lt ha hb hs)
theorem cell_ne {i a b s k a' b' s' : Nat} (ha : a < 5) (hb : b < 5) (hs : s < 3) (ha' : a' < 5) (hb' : b' < 5) (hs' : s' < 3) (h : k * 75 + (a' * 15 + b' * 3 + s') = i * 75 + (a * 15 + b * 3 + s)) : k = i ∧ a' = a ∧ b' = b ∧ s' = s := by omega
theorem RowTo.next {B T : Int} {l : List (Int × Int)} {i a b s : Nat} {g : Nat → Int} (hg : OkS l) (hi : i < l.length) (h : RowTo B T l i ((a * w2 l i + b) * 3 + s) g) (ha : a < w1 l i) (hb : b < w2 l i) (hs : s < 3) : RowTo B T l i ((a * w2 l i + b) * 3 + s + 1) (updF g (i * 75 + (a * 15 + b * 3 + s)) (gAt B T l i a b s)) := by
 have q1 := wid_ok (hg _ (getD_mem (i := i - 1) (by omega) (0, 0)))
 have q2 := wid_ok (hg _ (getD_mem (i := i) (by omega) (0, 0)))
 have e1 : w1 l i = wid (l.getD (i - 1) (0, 0)) := rfl
 have e2 : w2 l i = wid (l.getD i (0, 0)) := rfl
 refine ⟨fun k h1 h2 a' b' s' ha' hb' hs' => ?_, fun a' b' s' ha' hb' hs' hq => ?_⟩
 ·have p1 := wid_ok (hg _ (getD_mem (i := k - 1) (by omega) (0, 0)))
  have p2 := wid_ok (hg _ (getD_mem (i := k) (by omega) (0, 0)))
  rw [updF_other (fun e => by have := cell_ne (by omega) (by omega) hs (by omega) (by omega) hs' e; omega)]
  exact h.1 k h1 h2 a' b' s' ha' hb' hs'
 ·by_cases e : i * 75 + (a' * 15 + b' * 3 + s') = i * 75 + (a * 15 + b * 3 + s)
  ·obtain ⟨_, rfl, rfl, rfl⟩ := cell_ne (by omega) (by omega) hs (by omega) (by omega) hs' e
   rw [updF_same]
  ·rw [updF_other e]
   refine h.2 a' b' s' ha' hb' hs' ?_
   rcases Nat.lt_or_ge ((a' * w2 l i + b') * 3 + s') ((a * w2 l i + b) * 3 + s) with g | g
   ·exact g
   ·exfalso
    have e3 : (a' * w2 l i + b') * 3 + s' = (a * w2 l i + b) * 3 + s := by omega
    have x1 := stL_get ha' hb' hs'
    have x2 := stL_get ha hb hs
    rw [e3, x2] at x1
    have x3 : (a, b, s) = (a', b', s') := by simpa using x1
    injection x3 with y1 y2
    injection y2 with y2 y3
    subst y1 y2 y3
    exact e rfl
theorem RowsOk.zero {B T : Int} {l : List (Int × Int)} {g : Nat → Int} (hg : OkS l) (h : ∀ k, g k = 0) : RowsOk B T l (l.length - 2) g := fun k h1 h2 a b s ha hb hs => by
 rw [h, gAt_last (by omega)]
theorem c_fill (B : Nat) (w : World) (S : HP) (p : Addr) (v : Value) (l : List (Int × Int)) (t Bc T : Int) (lv : Value) (hB : B ≤ w.heap.size) (hS : DrS B w S p v l t Bc T lv) (hv : IsSl v l.length) (hg : OkS l) (h24 : l.length ≤ 24) (hn : 1 ≤ l.length) (hC : OkC Bc T) :
 CtH Tryz.prog 161 [.pointer (some p)] w [S, TabP 339 75 lv l.length (fun _ => 0)] B (fun r Hq => ∃ x : Unit, r = .tuple #[] ∧ Hq = [S, TabX 339 75 lv l.length (RowsOk Bc T l 0)]) := by
 refine CtH.ofI (X := Unit) (p := fun _ r => r = .tuple #[]) (Hx := fun _ => [S, TabX 339 75 lv l.length (RowsOk Bc T l 0)]) mixed tyTab hB Tryz.func161 rfl rfl (fun M hM => ?_)
 have hS' : DrS (itCx mixed tyTab Tryz.f161.ntmps w M B hB hM).B (itCx mixed tyTab Tryz.f161.ntmps w M B hB hM).w0 S p v l t Bc T lv := hS
 have hle := hv.le
 refine W.sreg (WO.box1 rfl (by first | rfl | assumption) rfl (fun b1 hb1 => (WO.nil (W.sreg (WO.load rfl rfl (Cell.own Pick.head rfl) rfl (WO.p rfl rfl (WO.field0 rfl rfl rfl (WO.field0 rfl rfl rfl ?_))))))))
 refine' WO.load (v := _) rfl rfl ?hc rfl ?_
 case hc => (first | (refine DrS.cell0 (S := S) (v := v) hS' ?_; exact (by repeat (first | exact Sub.nil | refine Sub.cons (by repeat first | exact .head | apply Pick.tail) ?_))))
 refine' WO.len (n := _) rfl rfl ?hs rfl ?_
 case hs => exact hv
 refine WO.ar rfl rfl rfl (by unfold in64; omega) rfl (WO.alloc rfl rfl rfl (fun b2 hb2 => (WO.store1 rfl rfl rfl (by first | rfl | assumption) Pick.head rfl (WO.nil (W.block (W.chg (TabX.shut (p := RowsOk Bc T l (l.length - 2)) (RowsOk.zero hg (fun _ => rfl)) (by repeat first | exact .head | apply Pick.tail)) ?_))))))
 rw [show RowsOk Bc T l (l.length - 2) = RowsOk Bc T l ((l.length : Int) - 2).toNat by rw [show ((l.length : Int) - 2).toNat = l.length - 2 by omega]]
 refine W.loop2 (fun (z : Int) (q : Nat) => -1 ≤ z ∧ z ≤ (l.length : Int) - 2)
  (fun (z : Int) (q : Nat) => [(2, .pointer (some ⟨q, 0, none⟩)), (1, .pointer (some ⟨b1, 0, none⟩))])
  (fun (z : Int) (q : Nat) => [pt q (.cells #[.int .i64 z] 3 (0, 0)), pt b1 (.cells #[.pointer (some p)] 143 (0, 0)), S, TabX 339 75 lv l.length (RowsOk Bc T l z.toNat)])
  (fun (z : Int) (q : Nat) => z.toNat) ((l.length : Int) - 2) _
  (by exact ⟨by omega, by omega⟩) ⟨rfl, rfl, trivial⟩ (by repeat (first | exact Sub.nil | refine Sub.cons (by repeat first | exact .head | apply Pick.tail) ?_)) ?_
 rintro z q ⟨hz1, hz2⟩
 refine W.seq (W.sreg (WO.load rfl rfl (Cell.own Pick.head rfl) rfl (WO.p rfl rfl (WO.nil ?_))))
 refine W.cond_bl rfl (fun c1 => ?_) (fun c1 => ?_)
 ·refine W.skip (W.seq (W.block ?_))
  obtain ⟨i, rfl⟩ := Int.eq_ofNat_of_zero_le (show 0 ≤ z by omega)
  refine W.sreg (WO.load rfl rfl (Cell.own (Pick.tail (Pick.head)) rfl) rfl (WO.load rfl rfl (Cell.own Pick.head rfl) rfl (WO.call rfl Tryz.call243 (fun L w hi => c_states w p i _ rfl) rfl ?_)))
  rintro fv _ ⟨e1, e2, rfl, rfl⟩
  refine WO.nil (W.block (W.chg (tabXm (fun g h => RowTo.zero h) (by repeat first | exact .head | apply Pick.tail)) ?_))
  refine W.rangeFuncG [pt e2 (.cells #[.int .i64 (i : Int)] 3 (0, 0)), pt e1 (.cells #[.pointer (some p)] 143 (0, 0))] (fun k => [S, TabX 339 75 lv l.length (RowTo Bc T l i k), pt q (.cells #[.int .i64 (i : Int)] 3 (0, 0)), pt b1 (.cells #[.pointer (some p)] 143 (0, 0))]) (stsV l i) rfl rfl rfl Tryz.call331 (by repeat (first | exact Sub.nil | refine Sub.cons (by repeat first | exact .head | apply Pick.tail) ?_)) ?_ ?_ ?_
  ·intro lp Hc hy hHc u1 M' hB' hk hM' hi
   exact c_states1 _ _ p v l t Bc T lv i hg h24 (by omega) (by omega) lp Hc hy (fun k => by obtain ⟨A, e⟩ := hHc k; rw [e]; exact DrS.sat hS') e1 e2 u1 M' hB' hk hM' hi
  ·intro lp u1 M' hB' hM' hk k x hx
   have q1 : w1 l i ≤ 5 := (wid_ok (hg _ (getD_mem (i := i - 1) (by omega) (0, 0)))).2.1
   have q2 : w2 l i ≤ 5 := (wid_ok (hg _ (getD_mem (i := i) (by omega) (0, 0)))).2.1
   obtain ⟨a, b, s, ha, hb, hs, rfl, rfl⟩ := stsV_some hx
   have hS2 : DrS (rdCx (itCx mixed tyTab Tryz.f161.ntmps w M B hB hM) lp u1 M' hB' hM').B (rdCx (itCx mixed tyTab Tryz.f161.ntmps w M B hB hM) lp u1 M' hB' hM').w0 S p v l t Bc T lv := hS'.agree hk
   refine W.region (WO.alloc rfl rfl rfl (fun b3 hb3 => (WO.storeA rfl rfl rfl rfl Pick.head rfl rfl (WO.nil (W.block (W.chgE (TabX.open (by repeat first | exact .head | apply Pick.tail)) (fun g hgr => (W.fact (TabP.sl (e := 339) (sz := 75) (n := l.length) (v := lv) (g := g) Pick.head) (fun hlv => (W.sreg (WO.load rfl rfl (Cell.own (Pick.tail (Pick.tail (Pick.tail (Pick.tail (Pick.head))))) rfl) rfl (WO.loadA rfl rfl (Cells.own (Pick.tail (Pick.head))) rfl rfl ?_))))))))))))
   refine WO.callR rfl Tryz.call166 (fun L w hi' => c_go1 w p v l t Bc T lv g i a b s (DrS.at (S := S) hS2 (by repeat first | exact .head | apply Pick.tail) hi') (RdT.of (by repeat first | exact .head | apply Pick.tail) (by omega) hi') hg h24 hC (by omega) (by omega) ha hb hs (hgr.1 (i + 1) (by omega) (by omega))) rfl (WO.p rfl rfl (WO.p rfl rfl (WO.p rfl rfl (WO.p rfl rfl (WO.p rfl rfl (WO.nil ?_))))))
   refine W.drawD 16 [.b 0 [], .r 1 [], .r 2 [], .b 3 [], .b 4 [], .r 5 [], .b 6 [], .r 7 [], .b 8 [], .r 9 [], .r 10 [], .b 11 [], .r 12 [], .r 13 [], .r 14 [], .r 15 []] [] (A0 := [_]) (H0 := [_, _, _, _]) (.cons .head (.cons .head (.cons .head (.cons .head (.cons .head .nil))))) (by kernel_rfl) ?_ ?_
   ·repeat constructor
   refine DT.b rfl rfl rfl (WO.load rfl rfl (Cell.own (Pick.tail (Pick.tail (Pick.tail (Pick.head)))) rfl) rfl (WO.nil ⟨rfl, rfl⟩)) (DT.r rfl rfl rfl (WO.p rfl rfl (WO.nil ⟨rfl, rfl⟩)) (DT.r rfl rfl rfl (WO.field rfl rfl rfl (WO.nil ⟨rfl, rfl⟩)) ?_))
   refine' DT.b rfl rfl rfl ?hq ?_
   case hq =>
    refine' WO.load (v := _) rfl rfl ?hc rfl ?_
    case hc => (first | (refine DrS.cellAt (S := S) (j := 4) (u := lv) hS2 ?_ rfl; exact (by repeat (first | exact Sub.nil | refine Sub.cons (by repeat first | exact .head | apply Pick.tail) ?_))))
    exact WO.nil ⟨rfl, rfl⟩
   refine DT.b rfl rfl rfl (WO.load rfl rfl (Cell.own (Pick.tail (Pick.tail (Pick.head))) rfl) rfl (WO.nil ⟨rfl, rfl⟩)) (DT.r rfl rfl rfl (WO.fieldL rfl rfl rfl (WO.nil ⟨rfl, rfl⟩)) (DT.b rfl rfl rfl (WO.load rfl rfl (Cell.own Pick.head rfl) rfl (WO.nil ⟨rfl, rfl⟩)) (DT.r rfl rfl rfl (WO.fieldL rfl rfl rfl (WO.nil ⟨rfl, rfl⟩)) (DT.b rfl rfl rfl (WO.load rfl rfl (Cell.own Pick.head rfl) rfl (WO.nil ⟨rfl, rfl⟩)) (DT.r rfl rfl rfl (WO.fieldL rfl rfl rfl (WO.nil ⟨rfl, rfl⟩)) (DT.r rfl rfl rfl (WO.field0 rfl rfl rfl (WO.nil ⟨rfl, rfl⟩)) (DT.b rfl rfl rfl (WO.load rfl rfl (Cell.own Pick.head rfl) rfl (WO.nil ⟨rfl, rfl⟩)) (DT.r rfl rfl rfl (WO.p rfl rfl (WO.nil ⟨rfl, rfl⟩)) ?_))))))))
   refine' DT.r rfl rfl rfl ?hq ?_
   case hq =>
    refine' WO.indexAddr (n := _) (i := _) rfl rfl rfl ?hs ?h1 rfl ?_
    case hs => exact hlv
    case h1 => (first | omega | (simp; omega))
    exact WO.nil ⟨rfl, rfl⟩
   refine DT.r rfl rfl rfl (WO.indexArr0 (i := a) rfl rfl rfl rfl (by omega) rfl (WO.nil ⟨rfl, rfl⟩)) (DT.r rfl rfl rfl (WO.indexArrP (i := b) (fo' := a * 15 + b * 3) rfl rfl rfl rfl (by omega) rfl rfl (WO.nil ⟨rfl, rfl⟩)) (DT.nil [_, _, _, _, _] rfl (WO.indexArrP (i := s) (fo' := a * 15 + b * 3 + s) rfl rfl rfl rfl (by omega) (by omega) rfl (WO.storeT (i := i) (j := a * 15 + b * 3 + s) rfl rfl rfl (by repeat first | exact .head | apply Pick.tail) (by omega) (by omega) (WO.chg (TabX.shut (p := RowTo Bc T l i ((a * w2 l i + b) * 3 + s + 1)) (hgr.next hg (by omega) ha hb hs) (by repeat first | exact .head | apply Pick.tail)) (WO.nil ?_))))))
   (repeat (first | exact Sub.nil | refine Sub.cons (by repeat first | exact .head | apply Pick.tail) ?_))
  refine W.seq (W.chg (tabXm (p := RowTo Bc T l i (stsV l i).length) (p' := RowsOk Bc T l ((i : Int) - 1).toNat) (fun g hx => by rw [show ((i : Int) - 1).toNat = i - 1 by omega]; exact hx.all) (pk := by repeat (first | exact Pick.head | apply Pick.tail))) (W.sreg (WO.load rfl rfl (Cell.own (Pick.tail (Pick.tail (Pick.tail (Pick.tail (Pick.head))))) rfl) rfl (WO.nil (W.region (WO.alloc rfl rfl rfl (fun b4 hb4 => (WO.store1 rfl rfl rfl (by first | rfl | assumption) Pick.head rfl (WO.nil (W.region (WO.load rfl rfl (Cell.own Pick.head rfl) rfl (WO.ar rfl rfl rfl (by unfold in64; omega) rfl (WO.store1 rfl rfl rfl (by first | rfl | assumption) Pick.head rfl (WO.nil ?_))))))))))))))
  refine' ⟨_, _, ?hp, ?hmu, ⟨rfl, rfl, trivial⟩, ?hS⟩
  case hS => repeat (first | exact Sub.nil | refine Sub.cons (by repeat first | exact .head | apply Pick.tail) ?_)
  case hp => exact ⟨by omega, by omega⟩
  case hmu => omega
 ·refine W.exit (blk_same ?_)
  rw [show z.toNat = 0 by omega]
  exact fin.normal (Res.none rfl) ⟨(), rfl, fun h hs => Sub.sat (by repeat (first | exact Sub.nil | refine Sub.cons (by repeat first | exact .head | apply Pick.tail) ?_)) hs⟩
end Go.Proofs.YtnehaifgcegemaaGreat.Fa
