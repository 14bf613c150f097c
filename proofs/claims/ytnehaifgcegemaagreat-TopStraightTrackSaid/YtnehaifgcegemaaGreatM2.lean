/-
  What is proved here: slices of one's own (append, make, store), and slices of such slices. Conditions: none; each rule states its own.
  What is proved here: own slices of encoded elements, and own slices of such slices. Conditions: none; each rule states its own.
  What is proved here: literals of structs, arrays and slices; tests of bools and structs; min, max and copy. Conditions: none; each rule states its own.
  What is proved here: a range over a function: the statement, and the call of yield. Conditions: none; each rule states its own.
  What is proved here: the steps of a drawn region, one by one. Conditions: none; each rule states its own.
  What is proved here: calls of function values. Conditions: none; each rule states its own.
  What is proved here: structs behind pointers, pieces as one piece, and functions that yield. Conditions: none; each rule states its own.
  What is proved here: scopes, labels, slices of numbers that are made, and copy. Conditions: none; each rule states its own.
  What is proved here: from a law's contract to what its row asks. Conditions: none; each rule states its own.
  What is proved here: what is read as data is read as lists. Conditions: none; each rule states its own.
  What is proved here: a table of the program's types (cells, fields, elements, zero values) agrees with the program. Conditions: none.
  What is proved here: how the arguments of the laws read. Conditions: none.
  What is proved here: more rules of a small program logic: slices of no elements, stores of structs into elements. Conditions: none; each rule states its own.
  What is proved here: more rules of a small program logic: a range over a function with two variables, maps of numbers, slices of arrays. Conditions: none; each rule states its own.
  What is proved here: more rules of a small program logic: fields of values, conversions. Conditions: none; each rule states its own.
  What is proved here: slices of slices; what is made and copied, of elements of several cells. Conditions: none; each rule states its own.
  What is proved here: calls that are handed pieces; a range over a function that hands a piece with each value, and may be left. Conditions: none; each rule states its own.
  What is proved here: what is appended may be nothing. Conditions: none; each rule states its own.
  What is proved here: the greatest common divisor. Conditions: none; each contract states its own.
  What is proved here: how fractions are compared. Conditions: none; each contract states its own.
  What is proved here: where a point is of a circle. Conditions: none; each contract states its own.
  What is proved here: the reference: which tracks and circles are valid, and whether a circle holds a track. Conditions: none; each contract states its own.
  What is proved here: which tracks and circles are valid. Conditions: none; each contract states its own.
-/
import Derived.Test.YtnehaifgcegemaaGreatM1
import Derived.Great.BuildSlice
import Derived.Laws.IdiomCopy
import Derived.RangeFuncRecord
import Derived.Laws.CopyRow
import Derived.Below
import Derived.ChangeSame
import Derived.ProofKit
import Derived.Deep.Slices
import Derived.Carry
import Derived.Test.YtnehaifgcegemaaGreatChecked
import Derived.KernelRfl
import Derived.Deep.Strs
import Derived.OpenShut
import Derived.DataElems
import Derived.MapKept
set_option linter.unusedVariables false
set_option linter.unusedSimpArgs false
namespace Go.TH
open Go
theorem Inv.mono {w0 : World} {M : List Nat} {L H : List HP} {A A' : HP} {w : World} (hA : ∀ h, A h → A' h) (h : Inv w0 M (L ++ A :: H) w) : Inv w0 M (L ++ A' :: H) w := by
 have h1 := h.perm List.perm_middle
 have h2 : Inv w0 M (A' :: (L ++ H)) w := ⟨h1.os, h1.tape, h1.output, h1.size, h1.keep, sat_mono hA h1.mine⟩
 exact h2.perm List.perm_middle.symm
theorem Inv.piece {w0 : World} {M : List Nat} {L H : List HP} {A : HP} {w : World} (h : Inv w0 M (L ++ A :: H) w) : ∃ h1, A h1 :=
 let ⟨h1, _, _, a, _⟩ := (h.perm List.perm_middle).mine; ⟨h1, a⟩
theorem Inv.pickL {w0 : World} {M : List Nat} {L H H' : List HP} {A : HP} {w : World} (h : Inv w0 M (L ++ H) w) (p : Pick A H H') : Inv w0 M (L ++ A :: H') w :=
 h.sub (Sub.app (.cons p (Sub.refl H')) L)
theorem Inv.dropL {w0 : World} {M : List Nat} {L H : List HP} {A : HP} {w : World} (h : Inv w0 M (L ++ A :: H) w) : Inv w0 M (L ++ H) w :=
 h.sub (Sub.app (Sub.drop A H) L)
def OwC (e sz : Nat) (v : Value) (n : Nat) (cs : List Value) : HP := fun h =>
 cs.length = n * sz ∧ ((v = .slice none 0 0 ∧ n = 0) ∨
  ∃ (g cap : Nat) (cur : List Value), v = .slice (some ⟨g, 0, none⟩) n cap ∧ n ≤ cap ∧ cap ≤ maxLen ∧ cur.length = cap * sz ∧ cur.take (n * sz) = cs ∧ pt g (.cells cur.toArray e (0, 0)) h)
theorem OwC.open {w0 : World} {M : List Nat} {L H : List HP} {w : World} {e sz n : Nat} {v : Value} {cs : List Value} (h : Inv w0 M (L ++ OwC e sz v n cs :: H) w) :
 cs.length = n * sz ∧ ((v = .slice none 0 0 ∧ n = 0 ∧ Inv w0 M (L ++ H) w) ∨
  ∃ (g cap : Nat) (cur : List Value), v = .slice (some ⟨g, 0, none⟩) n cap ∧ n ≤ cap ∧ cap ≤ maxLen ∧ cur.length = cap * sz ∧ cur.take (n * sz) = cs ∧ Inv w0 M (L ++ pt g (.cells cur.toArray e (0, 0)) :: H) w) := by
 have h1 := h.perm List.perm_middle
 obtain ⟨ha, hb, s, ⟨hl, hc⟩, hr⟩ := h1.mine
 refine ⟨hl, ?_⟩
 rcases hc with ⟨h2, h3⟩ | ⟨g, cap, cur, h2, h3, h4, h5, h6, h7⟩
 ·exact .inl ⟨h2, h3, h.dropL⟩
 ·refine .inr ⟨g, cap, cur, h2, h3, h4, h5, h6, ?_⟩
  have : Inv w0 M (pt g (.cells cur.toArray e (0, 0)) :: (L ++ H)) w := ⟨h1.os, h1.tape, h1.output, h1.size, h1.keep, ha, hb, s, h7, hr⟩
  exact this.perm List.perm_middle.symm
theorem OwC.shut {w0 : World} {M : List Nat} {L H : List HP} {w : World} {e sz n g cap : Nat} {cs cur : List Value} (hl : cs.length = n * sz) (hn : n ≤ cap) (hm : cap ≤ maxLen) (hc : cur.length = cap * sz) (ht : cur.take (n * sz) = cs)
 (h : Inv w0 M (L ++ pt g (.cells cur.toArray e (0, 0)) :: H) w) : Inv w0 M (L ++ OwC e sz (.slice (some ⟨g, 0, none⟩) n cap) n cs :: H) w :=
 h.mono fun h hp => ⟨hl, .inr ⟨g, cap, cur, rfl, hn, hm, hc, ht, hp⟩⟩
theorem OwC.isSl {w0 : World} {M : List Nat} {L H : List HP} {w : World} {e sz n : Nat} {v : Value} {cs : List Value} (h : Inv w0 M (L ++ OwC e sz v n cs :: H) w) : IsSl v n := by
 obtain ⟨_, h⟩ := OwC.open h
 rcases h with ⟨rfl, rfl, _⟩ | ⟨g, cap, cur, rfl, h1, h2, _⟩
 ·exact ⟨by omega, none, 0, rfl, fun h => by omega⟩
 ·simp only [maxLen] at h2
  exact ⟨by omega, _, _, rfl, fun _ => ⟨_, _, rfl⟩⟩
section
variable {P : Program} {C : Cx P} {E : Env} {H : List HP}
theorem WO.chg {ops : Array Oper} {l : List Oper} {K : KP} {H' : List HP} (hi : ∀ h, sat H h → sat H' h) (h : WO C ops l K E H') : WO C ops l K E H := by
 intro L ds a w hs
 refine h L ds a w ⟨hs.defers, hs.fr, ?_⟩
 have hv := hs.inv
 refine ⟨hv.os, hv.tape, hv.output, hv.size, hv.keep, ?_⟩
 obtain ⟨h1, h2, s, x, y⟩ := sat_app hv.mine
 exact sat_join s x (hi _ y)
theorem W.chg {c : Code} {Q : Post} {H' : List HP} (hi : ∀ h, sat H h → sat H' h) (h : W C c Q E H') : W C c Q E H := by
 intro L ds a w hs
 refine h L ds a w ⟨hs.defers, hs.fr, ?_⟩
 have hv := hs.inv
 refine ⟨hv.os, hv.tape, hv.output, hv.size, hv.keep, ?_⟩
 obtain ⟨h1, h2, s, x, y⟩ := sat_app hv.mine
 exact sat_join s x (hi _ y)
theorem WO.fact {ops : Array Oper} {l : List Oper} {K : KP} {p : Prop} (hp : ∀ (L : List HP) w, Inv C.w0 C.M (L ++ H) w → p) (h : p → WO C ops l K E H) : WO C ops l K E H :=
 fun L ds a w hs => h (hp _ w hs.inv) L ds a w hs
theorem W.fact {c : Code} {Q : Post} {p : Prop} (hp : ∀ (L : List HP) w, Inv C.w0 C.M (L ++ H) w → p) (h : p → W C c Q E H) : W C c Q E H :=
 fun L ds a w hs => h (hp _ w hs.inv) L ds a w hs
theorem OwC.sl {e sz n : Nat} {v : Value} {cs : List Value} {H' : List HP} (p : Pick (OwC e sz v n cs) H H') : ∀ (L : List HP) w, Inv C.w0 C.M (L ++ H) w → IsSl v n := fun _ _ hi => OwC.isSl (hi.pickL p)
theorem OwC.cellAt {e sz n i j : Nat} {v u : Value} {cs : List Value} {H' : List HP} (p : Pick (OwC e sz v n cs) H H') (hu : cs[i * sz + j]? = some u) : Cell C H (((base v).add (i * sz)).add j) u := by
 intro L w hi
 obtain ⟨hl, hc⟩ := OwC.open (hi.pickL p)
 have hlt := (List.getElem?_eq_some_iff.1 hu).1
 rcases hc with ⟨rfl, rfl, _⟩ | ⟨g, cap, cur, rfl, h1, h2, h3, h4, hi'⟩
 ·simp at hl; subst hl; simp at hlt
 ·have hlook := (hi'.look (b := g) (o := .cells cur.toArray e (0, 0)) ((Pick.head).app L)).1
  have ea : ((base (.slice (some ⟨g, 0, none⟩) n cap)).add (i * sz)).add j = ⟨g, i * sz + j, none⟩ := by simp [base, Addr.add_lit]
  rw [ea]
  subst h4
  rw [List.getElem?_take] at hu
  split at hu
  ·simp [World.cell?, hlook, hu]
  ·cases hu
theorem OwC.cell1 {e n i : Nat} {v : Value} {cs : List Value} {H' : List HP} (p : Pick (OwC e 1 v n cs) H H') (hl : i < cs.length) : Cell C H (elt v i 1) (cs.getD i undef) := by
 have := OwC.cellAt (C := C) (i := i) (j := 0) (u := cs.getD i undef) p (by simp [hl])
 rw [elt_eq]
 simpa [Addr.add] using this
theorem OwC.cells {e sz n : Nat} {v : Value} {cs : List Value} {H' : List HP} (p : Pick (OwC e sz v n cs) H H') : Cells C H (base v) cs := by
 intro j u hu
 have := OwC.cellAt (C := C) (i := 0) (j := j) (u := u) p (by simpa using hu)
 simpa [Addr.add] using this
section rules
variable {ops : Array Oper} {K : KP} {rest : List Oper} {d : Nat} {ty : TypeId} {pos : String} {af : Array Edge} {x y z : Operand} {T T' : TypeId}
theorem sl_info {t : TTab P} {e sz by' : Nat} {zv : Value} (hT : t.sl? T = some (e, sz, by')) (hz : t.z? e = some zv) : ∃ i, P.info? e = some i ∧ i.size = sz ∧ i.bytes = by' ∧ i.zero = some zv := by
 have h1 := (SlT.of hT).size
 have h2 := (SlT.of hT).bytes
 have h3 := (ZT.of hz).zero
 unfold szv at h1; unfold byv at h2; unfold TH.zv at h3
 cases hi : P.info? e with
 | none => simp [hi] at h1
 | some i => simp [hi] at h1 h2 h3; exact ⟨i, rfl, h1, h2, h3⟩
theorem WO.append {e sz by' n m : Nat} {v u zv : Value} {cs news : List Value} {H' : List HP} (hT : C.tt.sl? T = some (e, sz, by')) (hz : C.tt.z? e = some zv) (hzs : Nat.beq zv.cells.size sz = true)
 (hx : ev E x = some v) (hy : ev E y = some u) (p : Pick (OwC e sz v n cs) H H') (hS : IsSl u m) (hm : 0 < m) (hc : Cells C H (base u) news) (hl : news.length = m * sz) (h1 : ∀ u ∈ news, u.oneCell' = true)
 (hb : (n + m) * by' ≤ 140737488355328) (h63 : n + m ≤ 9223372036854775807) (hN : Nat.blt d C.N = true)
 (h : ∀ g c, WO C ops rest K ((d, .slice (some ⟨g, 0, none⟩) (n + m) c) :: E) (OwC e sz (.slice (some ⟨g, 0, none⟩) (n + m) c) (n + m) (cs ++ news) :: H')) : WO C ops (⟨some d, .call ⟨.builtin .append, #[x, y], #[T, T]⟩, ty, pos, af, none⟩ :: rest) K E H := by
 refine WO.step rfl rfl hN (XO.run (by simp) fun L a w hf hi => ?_)
 obtain ⟨i, hi1, hi2, hi3, hi4⟩ := sl_info hT hz
 subst hi2; subst hi3
 have hzs' := Nat.eq_of_beq_eq_true hzs
 have hmax : n + m ≤ maxLen := by simpa [maxLen] using h63
 obtain ⟨a0, c0, rfl, ha0⟩ := hS.is
 obtain ⟨b0, o0, rfl⟩ := ha0 hm
 have hnews : ∀ j v, news[j]? = some v → w.cell? ((⟨b0, o0, none⟩ : Addr).add j) = some v := fun j v hv => hc j v hv L w hi
 obtain ⟨hcl, hcase⟩ := OwC.open (hi.pickL p)
 have hrun : ∀ (v' : Value) (w' : World), (Builtin.append_ #[T, T] ty #[v, .slice (some ⟨b0, o0, none⟩) m c0]).run P w = .ok v' w' → (execOp a.eval ⟨some d, .call ⟨.builtin .append, #[x, y], #[T, T]⟩, ty, pos, af, none⟩).run P w = .ok (.value v') w' := by
  intro v' w' hr
  simp [execOp, resolve, hf.eval hx, hf.eval hy, invoke, builtin, hr]
 have hlen : (cs ++ news).length = (n + m) * i.size := by rw [List.length_append, hcl, hl, Nat.add_mul]
 have grown : ∀ (old : Nat), Inv C.w0 C.M (L ++ H') w → Inv C.w0 C.M (L ++ OwC e i.size (.slice (some ⟨w.heap.size, 0, none⟩) (n + m) (grownCap w (n + m) old e)) (n + m) (cs ++ news) :: H')
  (w.drew.alloc (.cells (cs.toArray ++ news.toArray ++ Builtin.zeroCells zv.cells (grownCap w (n + m) old e - (n + m))) e)) := by
  intro old hv
  have hge := grownCap_ge w (n + m) old e
  have hcm : grownCap w (n + m) old e ≤ maxLen := grownCap_le_maxLen w (n + m) old e hmax
  have h2 := (hv.drawn).alloc' (.cells (cs.toArray ++ news.toArray ++ Builtin.zeroCells zv.cells (grownCap w (n + m) old e - (n + m))) e)
  have e1 : cs.toArray ++ news.toArray ++ Builtin.zeroCells zv.cells (grownCap w (n + m) old e - (n + m)) = ((cs ++ news) ++ (Builtin.zeroCells zv.cells (grownCap w (n + m) old e - (n + m))).toList).toArray := by
   apply Array.ext'; simp
  refine OwC.shut (cur := (cs ++ news) ++ (Builtin.zeroCells zv.cells (grownCap w (n + m) old e - (n + m))).toList) hlen hge hcm ?_ ?_ ?_
  ·rw [List.length_append, hlen, Array.length_toList, size_zeroCells, hzs', ← Nat.add_mul]; congr 1; omega
  ·rw [← hlen]; exact List.take_left
  ·rw [← e1]; exact h2
 rcases hcase with ⟨rfl, rfl, hv⟩ | ⟨g, cap, cur, rfl, q1, q2, q3, q4, hv⟩
 ·have hcs : cs = [] := List.eq_nil_of_length_eq_zero (by simpa using hcl)
  subst hcs
  have hr := run_append_nil (P := P) w T ty e i zv (SlT.of hT).u hi1 hi4 ⟨b0, o0, none⟩ m c0 news hl hnews hm (by omega) (by have := hb; simp only [Nat.zero_add] at this; omega)
  have hg := grown 0 hv
  simp only [Nat.zero_add, List.nil_append, Array.empty_append] at hg ⊢
  exact ⟨_, _, _, .inl (hrun _ _ hr), by simpa using h _ _, hg⟩
 ·have hlook := (hv.look (b := g) (o := .cells cur.toArray e (0, 0)) ((Pick.head).app L)).1
  by_cases hroom : n + m ≤ cap
  ·have hfit : n * i.size + news.length ≤ cur.toArray.size := by rw [hl, List.size_toArray, q3, ← Nat.add_mul]; exact Nat.mul_le_mul_right _ hroom
   have hr := run_append_room (P := P) w T ty e i (SlT.of hT).u hi1 g n cap cur.toArray hlook ⟨b0, o0, none⟩ m c0 news hl hnews h1 hroom hfit
   refine ⟨_, _, _, .inl (hrun _ _ hr), h _ _, ?_⟩
   have h2 := hv.set (b := g) (o := .cells cur.toArray e (0, 0)) (o' := .cells (cur.toArray.toList.take (n * i.size) ++ news ++ cur.toArray.toList.drop (n * i.size + news.length)).toArray e (0, 0)) (H' := L ++ H') (w' := w.setRow g (cur.toArray.toList.take (n * i.size) ++ news ++ cur.toArray.toList.drop (n * i.size + news.length)).toArray) ((Pick.mem)) rfl rfl rfl (setRow_size w g _) (setRow_heap w g _ _ _ _ hlook) (fun k hk => setRow_other w g k _ hk)
   have h3 := h2.perm (List.perm_middle (l₁ := L) (l₂ := H')).symm
   refine OwC.shut hlen hroom q2 ?_ ?_ h3
   ·simp only [List.length_append, List.length_take, List.length_drop]
    rw [hl] at hfit ⊢
    simp only [List.size_toArray] at hfit
    omega
   ·rw [show cur.toArray.toList.take (n * i.size) = cs from q4, ← hlen]
    exact List.take_left
  ·have holds : ∀ j u, cs[j]? = some u → w.cell? ((⟨g, 0, none⟩ : Addr).add j) = some u := by
    intro j u hu
    have := OwC.cells (C := C) p j u hu L w hi
    simpa [base] using this
   have hr := run_append_grow (P := P) w T ty e i zv (SlT.of hT).u hi1 hi4 ⟨g, 0, none⟩ n cap cs hcl holds ⟨b0, o0, none⟩ m c0 news hl hnews (by omega) (by omega) (growslice_fits (by omega) hb)
   exact ⟨_, _, _, .inl (hrun _ _ hr), h _ _, grown cap hv.dropL⟩
end rules
end
end Go.TH
namespace Go.TH
open Go
structure EncOk {α : Type} (enc : α → List Value) (sz : Nat) : Prop where
 len : ∀ x, (enc x).length = sz
 one : ∀ x, ∀ u ∈ enc x, u.oneCell' = true
 pos : 0 < sz
theorem encI_ok : EncOk encI 1 := ⟨fun _ => rfl, fun x u hu => by simp [encI] at hu; subst hu; rfl, by omega⟩
theorem encP_ok : EncOk encP 2 := ⟨fun _ => rfl, fun x u hu => by simp [encP] at hu; rcases hu with rfl | rfl <;> rfl, by omega⟩
section
variable {α : Type} {enc : α → List Value} {sz : Nat}
theorem EncOk.flat_len (he : EncOk enc sz) : ∀ (xs : List α), (xs.flatMap enc).length = xs.length * sz
 | [] => by simp
 | x :: r => by simp only [List.flatMap_cons, List.length_append, he.len, he.flat_len r, List.length_cons, Nat.add_mul]; omega
theorem EncOk.flat_get (he : EncOk enc sz) : ∀ (xs : List α) (i j : Nat) (x : α), xs[i]? = some x → j < sz → (xs.flatMap enc)[i * sz + j]? = (enc x)[j]?
 | [], _, _, _, h, _ => by simp at h
 | y :: r, 0, j, x, h, hj => by
  simp at h; subst h
  simp only [List.flatMap_cons, Nat.zero_mul, Nat.zero_add]
  rw [List.getElem?_append_left (by rw [he.len]; exact hj)]
 | y :: r, i + 1, j, x, h, hj => by
  simp at h
  simp only [List.flatMap_cons]
  rw [List.getElem?_append_right (by rw [he.len, Nat.add_mul]; omega), he.len]
  have : (i + 1) * sz + j - sz = i * sz + j := by rw [Nat.add_mul]; omega
  rw [this]
  exact he.flat_get r i j x h hj
def OwE (enc : α → List Value) (e sz : Nat) (v : Value) (xs : List α) : HP := OwC e sz v xs.length (xs.flatMap enc)
def RowsE (enc : α → List Value) (e sz : Nat) : List Value → List (List α) → HP
 | [], [] => fun _ => True
 | r :: rv, xs :: xss => fun h => ∃ h1 h2, Split h h1 h2 ∧ OwE enc e sz r xs h1 ∧ RowsE enc e sz rv xss h2
 | _, _ => fun _ => False
def RowsBut (enc : α → List Value) (e sz : Nat) (i : Nat) (rv : List Value) (xss : List (List α)) : HP := fun h2 => ∀ h h1 xs, Split h h1 h2 → OwE enc e sz (rv.getD i undef) xs h1 → RowsE enc e sz rv (xss.set i xs) h
variable {e : Nat}
theorem RowsE.len : ∀ {rv : List Value} {xss : List (List α)} {h : Hp}, RowsE enc e sz rv xss h → rv.length = xss.length
 | [], [], _, _ => rfl
 | _ :: rv, _ :: xss, _, ⟨_, _, _, _, r⟩ => by simp [RowsE.len r]
 | [], _ :: _, _, h => h.elim
 | _ :: _, [], _, h => h.elim
theorem split_none (h : Hp) : Split h (fun _ => none) h := fun _ => .inl ⟨rfl, rfl⟩
theorem split_assoc {h a r b c : Hp} (s : Split h a r) (t : Split r b c) : ∃ r', Split h r' c ∧ Split r' a b := by
 refine ⟨fun k => (a k).orElse fun _ => b k, fun k => ?_, fun k => ?_⟩
 ·have h1 := s k; have h2 := t k
  cases ha : a k <;> cases hb : b k <;> cases hc : c k <;> simp_all
 ·have h1 := s k; have h2 := t k
  cases ha : a k <;> cases hb : b k <;> cases hc : c k <;> simp_all
theorem RowsE.snoc : ∀ {rv : List Value} {xss : List (List α)} {r : Value} {xs : List α} {h h1 h2 : Hp}, Split h h1 h2 → RowsE enc e sz rv xss h1 → OwE enc e sz r xs h2 → RowsE enc e sz (rv ++ [r]) (xss ++ [xs]) h
 | [], [], r, xs, h, h1, h2, s, _, o => by
  refine ⟨h2, fun k => if h2 k = none then h1 k else none, fun k => ?_, o, trivial⟩
  have := s k
  cases ha : h1 k <;> cases hb : h2 k <;> simp_all
 | r' :: rv, xs' :: xss, r, xs, h, h1, h2, s, ⟨a, b, t, oa, rb⟩, o => by
  have s' := s.comm
  obtain ⟨r1, u1, u2⟩ := s'.swap t
  exact ⟨a, r1, u1, oa, RowsE.snoc u2.comm rb o⟩
 | [], _ :: _, _, _, _, _, _, _, h, _ => h.elim
 | _ :: _, [], _, _, _, _, _, _, h, _ => h.elim
theorem RowsE.part : ∀ {rv : List Value} {xss : List (List α)} {i : Nat} {h : Hp}, i < xss.length → RowsE enc e sz rv xss h → ∃ h1 h2, Split h h1 h2 ∧ OwE enc e sz (rv.getD i undef) (xss.getD i []) h1 ∧ RowsBut enc e sz i rv xss h2
 | r :: rv, xs :: xss, 0, h, _, ⟨a, b, s, o, rb⟩ => ⟨a, b, s, by simpa using o, fun h' h1 ys t p => ⟨h1, b, t, by simpa using p, rb⟩⟩
 | r :: rv, xs :: xss, i + 1, h, hi, ⟨a, b, s, o, rb⟩ => by
  obtain ⟨h1, h2, t, p, q⟩ := RowsE.part (i := i) (by simpa using hi) rb
  obtain ⟨r', s', t'⟩ := s.swap t
  refine ⟨h1, r', s', by simpa using p, fun h' h1' ys u p' => ?_⟩
  obtain ⟨r2, u1, u2⟩ := u.swap t'
  exact ⟨a, r2, u1, o, q r2 h1' ys u2 (by simpa using p')⟩
 | [], [], i, h, hi, _ => by simp at hi
 | [], _ :: _, _, _, _, h => h.elim
 | _ :: _, [], _, _, _, h => h.elim
end
section
variable {P : Program} {C : Cx P} {E : Env} {H : List HP} {α : Type} {enc : α → List Value} {sz e : Nat}
theorem OwE.sl {v : Value} {xs : List α} {H' : List HP} (p : Pick (OwE enc e sz v xs) H H') : ∀ (L : List HP) w, Inv C.w0 C.M (L ++ H) w → IsSl v xs.length := OwC.sl p
theorem OwE.cellAt (he : EncOk enc sz) {v : Value} {xs : List α} {H' : List HP} (p : Pick (OwE enc e sz v xs) H H') {i : Nat} (hi : i < xs.length) (z : α) {j : Nat} {u : Value} (hu : lget (enc (xs.getD i z)) j = some u) : Cell C H (prt (elt v i sz) j) u := by
 rw [prt_eq, elt_eq]
 rw [lget_eq] at hu
 refine OwC.cellAt p ?_
 rw [he.flat_get xs i j _ (getD_some hi z) (by have := (List.getElem?_eq_some_iff.1 hu).1; rw [he.len] at this; exact this)]
 exact hu
theorem OwE.cell0 (he : EncOk enc sz) {v : Value} {xs : List α} {H' : List HP} (p : Pick (OwE enc e sz v xs) H H') {i : Nat} (hi : i < xs.length) (z : α) {u : Value} (hu : lget (enc (xs.getD i z)) 0 = some u) : Cell C H (elt v i sz) u := by
 have := OwE.cellAt (C := C) he p hi z hu
 rw [prt_eq] at this
 simpa [Addr.add] using this
theorem OwE.cells (he : EncOk enc sz) {v : Value} {xs : List α} {H' : List HP} (p : Pick (OwE enc e sz v xs) H H') {i : Nat} (hi : i < xs.length) (z : α) : Cells C H (elt v i sz) (enc (xs.getD i z)) := by
 intro j u hu
 have := OwE.cellAt (C := C) he p hi z (j := j) (u := u) (by rw [lget_eq]; exact hu)
 rwa [prt_eq] at this
theorem Pick.rowIn {rv : List Value} {xss : List (List α)} {H' : List HP} {i : Nat} (p : Pick (RowsE enc e sz rv xss) H H') (hi : i < xss.length) : ∀ h, TH.sat H h → TH.sat (OwE enc e sz (rv.getD i undef) (xss.getD i []) :: RowsBut enc e sz i rv xss :: H') h := by
 intro h hs
 obtain ⟨a, b, s, ha, hb⟩ := p.sat hs
 obtain ⟨a1, a2, t, q1, q2⟩ := RowsE.part hi ha
 obtain ⟨r', s', t'⟩ := s.comm.swap t
 exact ⟨a1, r', s', q1, a2, b, t'.comm, q2, hb⟩
theorem sat_app_imp {H H' : List HP} (hi : ∀ h, sat H h → sat H' h) (L : List HP) : ∀ h, sat (L ++ H) h → sat (L ++ H') h := by
 intro h hs
 obtain ⟨h1, h2, s, x, y⟩ := sat_app hs
 exact sat_join s x (hi _ y)
theorem Inv.chg {w0 : World} {M : List Nat} {L H H' : List HP} {w : World} (h : Inv w0 M (L ++ H) w) (hi : ∀ h, sat H h → sat H' h) : Inv w0 M (L ++ H') w :=
 ⟨h.os, h.tape, h.output, h.size, h.keep, sat_app_imp hi L _ h.mine⟩
theorem Cell.chg {H' : List HP} {p : Addr} {v : Value} (hc : Cell C H' p v) (hi : ∀ h, sat H h → sat H' h) : Cell C H p v := fun L w h => hc L w (h.chg hi)
theorem RowsE.rowsLen {rv : List Value} {xss : List (List α)} {H' : List HP} (p : Pick (RowsE enc e sz rv xss) H H') : ∀ (L : List HP) w, Inv C.w0 C.M (L ++ H) w → rv.length = xss.length := fun _ _ hi =>
 let ⟨_, h⟩ := (hi.pickL p).piece; RowsE.len h
theorem RowsE.cell0 (he : EncOk enc sz) {rv : List Value} {xss : List (List α)} {H' : List HP} {i k : Nat} (p : Pick (RowsE enc e sz rv xss) H H') (hi : i < xss.length) (hk : k < (xss.getD i []).length) (z : α) {u : Value} (hu : lget (enc ((xss.getD i []).getD k z)) 0 = some u) : Cell C H (elt (rv.getD i undef) k sz) u :=
 (OwE.cell0 (C := C) he .head hk z hu).chg (p.rowIn hi)
theorem RowsE.cellAt (he : EncOk enc sz) {rv : List Value} {xss : List (List α)} {H' : List HP} {i k j : Nat} (p : Pick (RowsE enc e sz rv xss) H H') (hi : i < xss.length) (hk : k < (xss.getD i []).length) (z : α) {u : Value} (hu : lget (enc ((xss.getD i []).getD k z)) j = some u) : Cell C H (prt (elt (rv.getD i undef) k sz) j) u :=
 (OwE.cellAt (C := C) he .head hk z hu).chg (p.rowIn hi)
theorem RdF.of_ow (he : EncOk enc sz) {v : Value} {xs : List α} {H' : List HP} {L : List HP} {w : World} (p : Pick (OwE enc e sz v xs) H H') (hi : Inv C.w0 C.M (L ++ H) w) : RdF enc sz w.heap.size w v xs := by
 refine ⟨OwE.sl p L w hi, fun hl => ?_, fun i x hx j u hu => ?_⟩
 ·have h00 : lget (enc (xs.getD 0 xs[0])) 0 = some ((enc (xs.getD 0 xs[0])).getD 0 undef) := by
   generalize xs.getD 0 xs[0] = q
   have h1 := he.len q
   have h2 := he.pos
   rw [lget_eq]
   cases hq : enc q with
   | nil => rw [hq] at h1; simp at h1; omega
   | cons a r => simp
  have h0 := OwE.cell0 (C := C) he p hl xs[0] h00
  have := World.block_lt_of_cell? w _ (h0 L w hi)
  rw [elt_eq, addr_add_block] at this
  exact this
 ·have hlt := (List.getElem?_eq_some_iff.1 hx).1
  have := OwE.cells (C := C) he p hlt x j u (by simpa [hx] using hu) L w hi
  rwa [elt_eq] at this
theorem RdR.of_ow (he : EncOk enc sz) {e' : Nat} {v : Value} {rv : List Value} {xss : List (List α)} {H1 H2 : List HP} {L : List HP} {w : World} {n : Nat} (p : Pick (OwC e' 1 v n rv) H H1) (q : Pick (RowsE enc e sz rv xss) H H2) (hi : Inv C.w0 C.M (L ++ H) w) : RdR enc sz w.heap.size w v rv xss := by
 have hlen := RowsE.rowsLen (C := C) q L w hi
 have hn : rv.length = n := by have := (OwC.open (hi.pickL p)).1; omega
 subst hn
 refine ⟨⟨OwC.sl p L w hi, fun hl => ?_, fun i x hx j u hu => ?_⟩, hlen, fun i hl => ?_⟩
 ·have := World.block_lt_of_cell? w _ (OwC.cell1 (C := C) p hl L w hi)
  rw [elt_eq, addr_add_block] at this
  exact this
 ·have hlt := (List.getElem?_eq_some_iff.1 hx).1
  obtain ⟨rfl, rfl⟩ : j = 0 ∧ u = x := by
   cases j with
   | zero => simp [encV] at hu; exact ⟨rfl, hu.symm⟩
   | succ j => simp [encV] at hu
  have := OwC.cell1 (C := C) p hlt L w hi
  rw [elt_eq] at this
  simpa [hx, Addr.add] using this
 ·exact RdF.of_ow (C := C) he (.head) (hi.chg (q.rowIn hl))
section rules
variable {ops : Array Oper} {K : KP} {rest : List Oper} {d : Nat} {ty : TypeId} {pos : String} {af : Array Edge} {x y z : Operand} {T T' : TypeId}
theorem WO.appendE (he : EncOk enc sz) {by' m : Nat} {v u zv : Value} {xs ys : List α} {H' : List HP} (hT : C.tt.sl? T = some (e, sz, by')) (hz : C.tt.z? e = some zv) (hzs : Nat.beq zv.cells.size sz = true)
 (hx : ev E x = some v) (hy : ev E y = some u) (p : Pick (OwE enc e sz v xs) H H') (hS : IsSl u m) (hm : 0 < m) (hl : ys.length = m) (hc : Cells C H (base u) (ys.flatMap enc))
 (hb : (xs.length + m) * by' ≤ 140737488355328) (h63 : xs.length + m ≤ 9223372036854775807) (hN : Nat.blt d C.N = true)
 (h : ∀ g c, WO C ops rest K ((d, .slice (some ⟨g, 0, none⟩) (xs.length + m) c) :: E) (OwE enc e sz (.slice (some ⟨g, 0, none⟩) (xs.length + m) c) (xs ++ ys) :: H')) : WO C ops (⟨some d, .call ⟨.builtin .append, #[x, y], #[T, T]⟩, ty, pos, af, none⟩ :: rest) K E H := by
 subst hl
 refine WO.append hT hz hzs hx hy p hS hm hc (he.flat_len ys) (fun u hu => ?_) hb h63 hN fun g c => ?_
 ·obtain ⟨x, _, hx⟩ := List.mem_flatMap.1 hu
  exact he.one x u hx
 ·have := h g c
  unfold OwE at this
  rw [List.flatMap_append, List.length_append] at this
  exact this
end rules
theorem owNil : ∀ h, sat H h → sat (OwE enc e sz (.slice none 0 0) [] :: H) h := fun h hs => ⟨fun _ => none, h, split_none h, ⟨by simp, .inl ⟨rfl, rfl⟩⟩, hs⟩
end
end Go.TH
namespace Go.TH
open Go
def vcl : Value → List Value
 | .agg vs => vs.toList
 | v => [v]
theorem vcl_eq (v : Value) : v.cells.toList = vcl v := by cases v <;> rfl
def fillL (place : Nat → Option (Nat × Nat)) (cells : List Value) : List (Nat × Value) → Option (List Value)
 | [] => some cells
 |(i, v) :: rest => match place i with
  | none => none
  | some (off, size) => bif Nat.beq (vcl v).length size && Nat.ble (off + (vcl v).length) cells.length then fillL place (wrl cells off (vcl v)) rest else none
theorem foldl_wrl : ∀ (vs : List Value) (cs : Array Value) (off k : Nat), (vs.zipIdx k).foldl (fun cs (x : Value × Nat) => cs.setIfInBounds (off + x.2) x.1) cs = (wrl cs.toList (off + k) vs).toArray
 | [], cs, off, k => by simp [wrl]
 | v :: r, cs, off, k => by
  simp only [List.zipIdx_cons, List.foldl_cons, wrl]
  rw [foldl_wrl r _ off (k + 1)]
  simp [Nat.add_assoc]
theorem fillL_eq (place : Nat → Option (Nat × Nat)) : ∀ (parts : List (Nat × Value)) (cells : List Value) (cs : List Value), fillL place cells parts = some cs → Instr.fill place cells.toArray parts = some cs.toArray
 | [], cells, cs, h => by simp [fillL] at h; subst h; rfl
 |(i, v) :: rest, cells, cs, h => by
  simp only [fillL] at h
  simp only [Instr.fill]
  cases hp : place i with
  | none => simp [hp] at h
  | some q =>
   obtain ⟨off, size⟩ := q
   simp only [hp] at h ⊢
   have hvl : v.cells.size = (vcl v).length := by rw [← vcl_eq]; simp
   cases hb : (Nat.beq (vcl v).length size && Nat.ble (off + (vcl v).length) cells.length) with
   | false => simp [hb] at h
   | true =>
    rw [hb] at h
    simp only [cond_true] at h
    simp only [Bool.and_eq_true] at hb
    have e1 := Nat.eq_of_beq_eq_true hb.1
    have e2 := Nat.ble_eq.mp hb.2
    rw [if_neg (by rw [hvl]; simp; omega)]
    have := fillL_eq place rest _ cs h
    rw [← this]
    congr 1
    rw [← Array.foldl_toList]
    have hz : v.cells.zipIdx.toList = (vcl v).zipIdx 0 := by rw [Array.toList_zipIdx, vcl_eq]
    rw [hz]
    have := foldl_wrl (vcl v) cells.toArray off 0
    simpa using this
section
variable {P : Program} {C : Cx P} {E : Env} {H : List HP}
def evp (E : Env) : List (Nat × Operand) → Option (List (Nat × Value))
 | [] => some []
 |(i, x) :: r => match ev E x, evp E r with
  | some v, some vs => some ((i, v) :: vs)
  | _, _ => none
theorem evp_map {N : Nat} {a : Act} (hf : Fr N E a) : ∀ {xs : List (Nat × Operand)} {vs : List (Nat × Value)}, evp E xs = some vs → xs.map (fun (i, x) => (i, a.eval x)) = vs
 | [], vs, h => by simp [evp] at h; simp [h]
 |(i, x) :: r, vs, h => by
  simp only [evp] at h
  cases hx : ev E x with
  | none => simp [hx] at h
  | some v =>
   cases hr : evp E r with
   | none => simp [hx, hr] at h
   | some us =>
    simp [hx, hr] at h
    subst h
    simp [hf.eval hx, evp_map hf hr]
def TTab.pl? (t : TTab P) (T : Nat) : Option (Nat → Option (Nat × Nat)) :=
 match (t.get T).kind with
 | .st fs => bif fs.all (fun f => t.some? f.2) then some fun i => (lget' fs i).map fun f => (f.1, (t.get f.2).n) else none
 | .ar _ _ sz => some fun i => some (i * sz, sz)
 | _ => none
where
 lget' : List (Nat × Nat) → Nat → Option (Nat × Nat)
 | [], _ => none
 | f :: _, 0 => some f
 | _ :: r, n + 1 => lget' r n
theorem pl_lget : ∀ (fs : List (Nat × Nat)) (i : Nat), TTab.pl?.lget' fs i = fs[i]?
 | [], _ => by simp [TTab.pl?.lget']
 | _ :: _, 0 => by simp [TTab.pl?.lget']
 | _ :: r, n + 1 => by simp [TTab.pl?.lget', pl_lget r n]
theorem some?_size {t : TTab P} {T : Nat} (h : t.some? T = true) : szv P T = some (t.get T).n := by
 refine tiChk_size (t.chk T) fun e => ?_
 simp [TTab.some?, e] at h
theorem built_of {t : TTab P} {T : Nat} {pl : Nat → Option (Nat × Nat)} {z : Value} {parts : List (Nat × Value)} {cs : List Value} (hp : t.pl? T = some pl) (hz : t.z? T = some z) (hf : fillL pl (vcl z) parts = some cs) : P.built T parts = some cs.toArray := by
 have hc := t.chk T
 have hk := tiChk_kind hc
 have hzv := (ZT.of hz).zero
 unfold zv at hzv
 unfold TTab.pl? at hp
 unfold Program.built
 cases hi : P.info? T with
 | none => simp [hi] at hzv
 | some i =>
  simp only [hi, Option.bind_some] at hzv
  have hz' : z.cells = (vcl z).toArray := by apply Array.ext'; simp [vcl_eq]
  cases hkd : (t.get T).kind <;> simp only [hkd] at hp hk <;> try (cases hp; done)
  case st fs =>
   cases hall : fs.all (fun f => t.some? f.2) with
   | false => simp [hall] at hp
   | true =>
    rw [hall] at hp
    simp only [cond_true, Option.some.injEq] at hp
    simp only [kindChk] at hk
    split at hk
    ·rename_i fs' hu
     simp only [Bool.and_eq_true, decide_eq_true_eq] at hk
     obtain ⟨hk1, _⟩ := hk
     rw [hu]
     have hm : fs'.toList.mapM (fun f => (P.info? f.type).map fun i => (f.offset, i.size)) = some (fs.map fun f => (f.1, (t.get f.2).n)) := by
      rw [← hk1] at hall ⊢
      clear hk1 hp hkd hu
      generalize fs'.toList = l at *
      induction l with
      | nil => rfl
      | cons f l ih =>
       simp only [List.map_cons, List.all_cons, Bool.and_eq_true] at hall
       have h1 := some?_size hall.1
       unfold szv at h1
       cases hq : P.info? f.type with
       | none => simp [hq] at h1
       | some q =>
        simp [hq] at h1
        simp only [List.mapM_cons, hq, Option.map_some, ih hall.2]
        simp [h1]
     simp only [hzv, hm]
     have e : (fun i => ((fs.map fun f => (f.1, (t.get f.2).n)).toArray[i]? : Option (Nat × Nat))) = pl := by
      rw [← hp]
      funext i
      rw [pl_lget]
      simp
     rw [e, hz']
     exact fillL_eq pl parts _ cs hf
    ·cases hk
  case ar len e' sz =>
   simp only [Option.some.injEq] at hp
   simp only [kindChk] at hk
   split at hk
   ·rename_i len' e'' hu
    simp only [Bool.and_eq_true] at hk
    rw [hu]
    have h2 := Nat.eq_of_beq_eq_true hk.1.2
    subst h2
    have h3 := oeq_eq hk.2
    unfold szv at h3
    cases hq : P.info? e'' with
    | none => simp [hq] at h3
    | some q =>
     simp [hq] at h3
     simp only [hzv, hq, h3]
     rw [hp, hz']
     exact fillL_eq pl parts _ cs hf
   ·cases hk
section rules
variable {ops : Array Oper} {K : KP} {rest : List Oper} {d : Nat} {ty : TypeId} {pos : String} {af : Array Edge} {x y z : Operand} {T T' : TypeId}
theorem WO.build {parts : List (Nat × Operand)} {vs : List (Nat × Value)} {pl : Nat → Option (Nat × Nat)} {zv : Value} {cs : List Value} (hp : C.tt.pl? T = some pl) (hz : C.tt.z? T = some zv) (he : evp E parts = some vs) (hf : fillL pl (vcl zv) vs = some cs) (hN : Nat.blt d C.N = true)
 (h : WO C ops rest K ((d, .agg cs.toArray) :: E) H) : WO C ops (⟨some d, .build T parts.toArray, ty, pos, af, none⟩ :: rest) K E H :=
 WO.pure _ (by simp) (fun L a w hfr hi => by
  have hb := built_of hp hz hf
  have e1 := evp_map hfr he
  have := run_build (P := P) w T vs.toArray cs.toArray (by simpa using hb)
  simp only [execOp, Sem.run_bind]
  have e2 : (parts.toArray.map fun (x : Nat × Operand) => (x.1, a.eval x.2)) = vs.toArray := by rw [← e1]; simp
  simp only [e2, this]; simp) hN h
theorem WO.buildSl {e sz by' len : Nat} {parts : List (Nat × Operand)} {vs : List (Nat × Value)} {zv : Value} {cs : List Value} (hT : C.tt.sl? T = some (e, sz, by')) (hz : C.tt.z? e = some zv) (hzs : Nat.beq (vcl zv).length sz = true) (he : evp E parts = some vs)
 (hf : fillL (fun i => some (i * sz, sz)) ((List.replicate len (vcl zv)).flatten) vs = some cs) (hsm : Nat.ble (len * sz) 16777216 = true) (hpos : Nat.blt 0 (len * sz) = true) (hlen : Nat.beq cs.length (len * sz) = true) (hN : Nat.blt d C.N = true)
 (h : ∀ b, WO C ops rest K ((d, .slice (some ⟨b, 0, none⟩) len len) :: E) (OwC e sz (.slice (some ⟨b, 0, none⟩) len len) len cs :: H)) : WO C ops (⟨some d, .buildSlice T len parts.toArray, ty, pos, af, none⟩ :: rest) K E H := by
 refine WO.step rfl rfl hN (XO.run (by simp) fun L a w hfr hi => ?_)
 obtain ⟨i, hi1, hi2, hi3, hi4⟩ := sl_info hT hz
 subst hi2
 have hzs' := Nat.eq_of_beq_eq_true hzs
 have hsm' := Nat.ble_eq.mp hsm
 have hpos' := Nat.blt_eq.mp hpos
 have hlen' := Nat.eq_of_beq_eq_true hlen
 have ez : ((Array.range (len * i.size)).map (zv.cells[· % zv.cells.size]!)) = ((List.replicate len (vcl zv)).flatten).toArray := by
  have hzc : zv.cells = (vcl zv).toArray := by apply Array.ext'; simp [vcl_eq]
  rw [hzc]
  generalize vcl zv = zs at hzs'
  apply Array.ext'
  rw [Array.toList_map, Array.toList_range]
  simp only [List.size_toArray]
  rw [hzs']
  clear hf hsm hpos hlen h hlen' hsm'
  have hp0 : 0 < i.size := Nat.pos_of_mul_pos_left hpos'
  clear hpos'
  induction len with
  | zero => simp
  | succ n ih =>
   rw [List.replicate_succ', List.flatten_append, ← ih, Nat.add_mul, Nat.one_mul, List.range_add, List.map_append]
   congr 1
   simp only [List.map_map, List.flatten_cons, List.flatten_nil, List.append_nil]
   apply List.ext_getElem
   ·simp [hzs']
   ·intro j h1 h2
    simp only [List.length_map, List.length_range] at h1
    have e1 : (n * i.size + j) % i.size = j := by rw [Nat.add_comm, Nat.add_mul_mod_self_right, Nat.mod_eq_of_lt h1]
    simp [e1, hzs', h1]
 have e1 := evp_map hfr he
 have e2 : (parts.toArray.map fun (x : Nat × Operand) => (x.1, a.eval x.2)) = vs.toArray := by rw [← e1]; simp
 have hr := run_buildSlice (P := P) w T e len vs.toArray cs.toArray i zv (SlT.of hT).u hi1 hi4 (by omega) (by omega) (by rw [ez]; exact fillL_eq _ vs _ cs hf)
 refine ⟨.slice (some ⟨w.heap.size, 0, none⟩) len len, w.alloc (.cells cs.toArray e), OwC e i.size (.slice (some ⟨w.heap.size, 0, none⟩) len len) len cs :: H, .inl ?_, h _, ?_⟩
 ·simp only [execOp, Sem.run_bind]
  simp only [e2, hr]; rfl
 ·have h2 := hi.alloc' (.cells cs.toArray e)
  refine OwC.shut hlen' (Nat.le_refl _) ?_ hlen' (by rw [← hlen', List.take_length]) h2
  have h0 : 0 < i.size := Nat.pos_of_mul_pos_left hpos'
  have : len ≤ len * i.size := Nat.le_mul_of_pos_right len h0
  simp only [maxLen]; omega
theorem WO.eqB {bop : BinOp} {a b r : Bool} (hx : ev E x = some (.bool a)) (hy : ev E y = some (.bool b)) (hT : P.underlying T = some .bool) (hr : (match bop with | .eql => some (a == b) | .neq => some (!(a == b)) | _ => none) = some r) (hN : Nat.blt d C.N = true)
 (h : WO C ops rest K ((d, .bool r) :: E) H) : WO C ops (⟨some d, .binOp bop T x y T', ty, pos, af, none⟩ :: rest) K E H :=
 WO.pure _ (by simp) (fun L c w hf _ => by
  cases bop <;> simp only [Option.some.injEq, reduceCtorEq] at hr <;> subst hr <;> simp only [execOp, hf.eval hx, hf.eval hy] <;> simp [eqGuard, run_eql_bool w T a b hT, run_neq_bool w T a b hT]) hN h
def EqT (P : Program) (bop : BinOp) (T : TypeId) (u v r : Value) : Prop := ∀ (x y : Operand) (w : World), (do eqGuard bop T x y u v; binOp bop T u v : Sem Value).run P w = .ok r w
theorem WO.eqT {bop : BinOp} {u v r : Value} (hx : ev E x = some u) (hy : ev E y = some v) (hq : EqT P bop T u v r) (hN : Nat.blt d C.N = true)
 (h : WO C ops rest K ((d, r) :: E) H) : WO C ops (⟨some d, .binOp bop T x y T', ty, pos, af, none⟩ :: rest) K E H :=
 WO.pure _ (by simp) (fun L c w hf _ => by
  have := hq x y w
  simp only [Sem.run_bind] at this
  simp only [execOp, hf.eval hx, hf.eval hy, Sem.run_bind, this]; simp) hN h
theorem WO.max2 {k k' : IntKind} {a b : Int} {ts : Array TypeId} (hx : ev E x = some (.int k a)) (hy : ev E y = some (.int k' b)) (hN : Nat.blt d C.N = true)
 (h : WO C ops rest K ((d, .int k (max a b)) :: E) H) : WO C ops (⟨some d, .call ⟨.builtin .max, #[x, y], ts⟩, ty, pos, af, none⟩ :: rest) K E H :=
 WO.pure _ (by simp) (fun L c w hf _ => by
  simp [execOp, resolve, hf.eval hx, hf.eval hy, invoke, builtin, run_max_int2]
  split <;> omega) hN h
end rules
end
end Go.TH
namespace Go.TH
open Go
section
variable {P : Program}
def YieldOK (P : Program) (B : Nat) (wr : World) (l : Nat) (args : Array Value) (Hp Hq : List HP) : Prop :=
 ∀ w M', B ≤ w.heap.size → (∀ k, k < B → w.heap[k]? = wr.heap[k]?) → (∀ b ∈ M', B ≤ b) → Inv w M' Hp w →
  ∃ f tmps assign body, (Instr.yield l args).run P w = .ok (.round l f tmps assign body) w ∧ RoundIn Fence.wide 0 P l f tmps assign body w (fun e w' => e = .returned (.bool true) ∧ Inv w M' Hq w')
theorem roundIn_round {ro : Option Nat} {n : Nat} {l : Nat} {f : FuncId} {tmps : Array Value} {assign body : Code} {w : World} {R : Ending → World → Prop} (h : RoundIn Fence.wide n P l f tmps assign body w R) : RoundIn { Fence.wide with round := ro } n P l f tmps assign body w R := h
variable {C : Cx P} {E : Env} {H : List HP}
theorem Inv.keepB {w : World} {H : List HP} (hi : Inv C.w0 C.M H w) : ∀ k, k < C.B → w.heap[k]? = C.w0.heap[k]? := fun k hk =>
 hi.keep k (Nat.lt_of_lt_of_le hk C.hB) (fun hm => by have := C.hM k hm; omega)
theorem uponIn_round_of {F : Fence} {n : Nat} {o : Oper} {a : Act} {K : Act → World → Prop} {Q : Exit → Act → World → Prop} {l : Nat} {f : FuncId} {tmps : Array Value} {assign body : Code} {w : World} {r : Option Nat} {R : Ending → World → Prop} (hF : F = { Fence.wide with round := r }) (hn : n = 0)
 (h : RoundIn Fence.wide 0 P l f tmps assign body w R) (hR : ∀ e w', R e w' → ∃ v, e = .returned v ∧ K (a.put o.dst v) w') : o.uponIn F n P a K Q (.ok (.round l f tmps assign body) w) := by
 subst hF; subst hn
 rw [Oper.uponIn_round]
 refine ⟨fun h => by simp [Fence.wide] at h, RoundIn.mono (roundIn_round (ro := r) h) ?_⟩
 intro e w' hr
 obtain ⟨v, rfl, hk⟩ := hR e w' hr
 exact hk
theorem XO.yield {X : Value → List HP → Prop} {dst : Option Tmp} {x : Operand} {xs : List Operand} {ats : Array TypeId} {ty : TypeId} {pos : String} {af : Array Edge} {l : Nat} {vs : List Value} {Hp Hr Hq : List HP}
 (hf : ev E x = some (.func (.yield l) #[] #[])) (hxs : evs E xs = some vs) (hH : Sub H (Hp ++ Hr)) (hy : YieldOK P C.B C.w0 l vs.toArray Hp Hq) (h : X (.bool true) (Hq ++ Hr)) : XO C ⟨dst, .call ⟨.value x, xs.toArray, ats⟩, ty, pos, af, none⟩ X E H := by
 intro L a w hfr hi
 refine ⟨fun _ _ => trivial, ?_⟩
 rw [Oper.semAt_eq _ _ _ (by simp)]
 have hi2 : Inv C.w0 C.M (Hp ++ (L ++ Hr)) w := by
  refine hi.sub ?_
  have s1 := hH.app L
  refine Sub.trans s1 ?_
  exact Sub.rot L Hp Hr
 obtain ⟨M', h1, h2, s, pa, pb, hM⟩ := handed hi2
 have hMB : ∀ b ∈ M', C.B ≤ b := fun b hb => by
  rcases (handed_own s hM b hb).1 with h | h
  ·exact Nat.le_trans C.hB h
  ·exact C.hM b h
 obtain ⟨f, tmps, assign, body, hr, hround⟩ := hy w M' (Nat.le_trans C.hB hi.size) hi.keepB hMB (handed_start s pa hM)
 have hev : (execOp a.eval ⟨dst, .call ⟨.value x, xs.toArray, ats⟩, ty, pos, af, none⟩).run P w = .ok (.round l f tmps assign body) w := by
  have := evs_map hfr hxs
  simp [execOp, resolve, hfr.eval hf, Deferred.ofValue, invoke, this, hr]
 rw [hev]
 refine uponIn_round_of (r := C.ro) rfl rfl hround ?_
 rintro e w' ⟨rfl, hi'⟩
 refine ⟨_, rfl, .bool true, Hq ++ Hr, h, rfl, ?_⟩
 have := handed_back (hi.sub .nil) s pb hM hi'
 exact this.sub (Sub.rot' L Hq Hr)
def rdCx (C : Cx P) (l : Nat) (w : World) (M : List Nat) (hB : C.B ≤ w.heap.size) (hM : ∀ b ∈ M, C.B ≤ b) : Cx P := ⟨some l, C.N, w, M, C.B, hB, hM, C.mixed, C.tt⟩
theorem putObj_inv {w0 : World} {M : List Nat} {L H : List HP} {w : World} {b : Nat} {o o' : Obj} (h : Inv w0 M (L ++ pt b o :: H) w) : Inv w0 M (L ++ pt b o' :: H) (w.putObj b o') := by
 have hl := (h.look (b := b) (o := o) ((Pick.head).app L)).1
 have hlt : b < w.heap.size := (Array.getElem?_eq_some_iff.1 hl).1
 have h2 := h.set (b := b) (o := o) (o' := o') (H' := L ++ H) (w' := w.putObj b o') Pick.mem rfl rfl rfl (by simp) (World.putObj_heap_same hlt) (fun k hk => World.putObj_heap_other hk)
 exact h2.perm (List.perm_middle (l₁ := L) (l₂ := H)).symm
end
end Go.TH
namespace Go.TH
open Go
section
variable {P : Program} {C : Cx P} {E : Env} {H : List HP} {l : List Oper} {m : Nat} {K : KP} {XT : List Nat} {E0 : Env} {H0 A : List HP} {p : List Nd} {pre : List SE} {k d : Nat} {X : List Nat} {o : Oper}
theorem DT.nil {dn : List Nd} (H' : List HP) (e : A ++ H0 = H') (h : WO C l.toArray (l.drop m) K (allE (delE XT E0) pre) H') : DT C l m K XT E0 H0 [] dn pre A := by subst e; exact h
theorem DT.r {dn : List Nd} {v : Value} (ho : l[k]? = some o) (hd : o.dst = some d) (hN : Nat.blt d C.N = true) (h : WO C l.toArray [o] (fun E' H' => E' = (d, v) :: selE (afs o) (delE X E0) pre ∧ H' = []) (selE (afs o) (delE X E0) pre) [])
 (r : DT C l m K XT E0 H0 p (.r k X :: dn) (⟨k, d, v⟩ :: pre) A) : DT C l m K XT E0 H0 (.r k X :: p) dn pre A := ⟨o, d, v, ho, hd, hN, h, r⟩
theorem DT.b {dn : List Nd} {v : Value} (ho : l[k]? = some o) (hd : o.dst = some d) (hN : Nat.blt d C.N = true) (h : WO C l.toArray [o] (fun E' H' => E' = (d, v) :: selE (afs o) (delE X E0) pre ∧ H' = H0) (selE (afs o) (delE X E0) pre) H0)
 (r : DT C l m K XT E0 H0 p (.b k X :: dn) (⟨k, d, v⟩ :: pre) A) : DT C l m K XT E0 H0 (.b k X :: p) dn pre A := ⟨o, d, v, ho, hd, hN, h, r⟩
theorem DT.g {dn : List Nd} {Q : HP} {R : List HP} {v : Value} (pk : Pick Q (A ++ H0) R) (ho : l[k]? = some o) (hd : o.dst = some d) (hN : Nat.blt d C.N = true) (h : WO C l.toArray [o] (fun E' H' => E' = (d, v) :: selE (afs o) (delE X E0) pre ∧ H' = [Q]) (selE (afs o) (delE X E0) pre) [Q])
 (r : DT C l m K XT E0 H0 p (.g k X Q :: dn) (⟨k, d, v⟩ :: pre) A) : DT C l m K XT E0 H0 (.g k X Q :: p) dn pre A := ⟨o, d, v, ho, hd, hN, ⟨R, pk⟩, h, r⟩
theorem DT.f {dn : List Nd} {v : Value} (H' : List HP) (e : A ++ H0 = H') (ho : l[k]? = some o) (hd : o.dst = some d) (hN : Nat.blt d C.N = true) (h : WO C l.toArray [o] (fun E' H1 => E' = (d, v) :: selE (afs o) (delE X E0) pre ∧ H1 = H') (selE (afs o) (delE X E0) pre) H')
 (r : DT C l m K XT E0 H0 p (.f k X :: dn) (⟨k, d, v⟩ :: pre) A) : DT C l m K XT E0 H0 (.f k X :: p) dn pre A := by subst e; exact ⟨o, d, v, ho, hd, hN, h, r⟩
theorem DT.c {dn : List Nd} (H' : List HP) (e : A ++ H0 = H') (ho : l[k]? = some o) (hd : o.dst = some d) (hN : Nat.blt d C.N = true)
 (h : WO C l.toArray [o] (fun E' H1 => ∃ v A', E' = (d, v) :: selE (afs o) (delE X E0) pre ∧ H1 = A' ++ H0 ∧ Keep l k (A' ++ H0) dn ∧ DT C l m K XT E0 H0 p (.c k X :: dn) (⟨k, d, v⟩ :: pre) A') (selE (afs o) (delE X E0) pre) H') : DT C l m K XT E0 H0 (.c k X :: p) dn pre A := by subst e; exact ⟨o, d, ho, hd, hN, h⟩
theorem DT.s {dn : List Nd} (H' : List HP) (e : A ++ H0 = H') (ho : l[k]? = some o) (hd : o.dst = none)
 (h : WO C l.toArray [o] (fun E' H1 => ∃ A', E' = selE (afs o) (delE X E0) pre ∧ H1 = A' ++ H0 ∧ Keep l k (A' ++ H0) dn ∧ DT C l m K XT E0 H0 p (.s k X :: dn) pre A') (selE (afs o) (delE X E0) pre) H') : DT C l m K XT E0 H0 (.s k X :: p) dn pre A := by subst e; exact ⟨o, ho, hd, h⟩
theorem DT.a {dn : List Nd} {z : Obj} (h : ∀ b, DT C l m K XT E0 H0 p (.a k d z :: dn) (⟨k, d, .pointer (some ⟨b, 0, none⟩)⟩ :: pre) (pt b z :: A)) : DT C l m K XT E0 H0 (.a k d z :: p) dn pre A := h
theorem DT.rB {dn : List Nd} {q : Prop} {_inst : Decidable q} (ho : l[k]? = some o) (hd : o.dst = some d) (hN : Nat.blt d C.N = true) (h : WO C l.toArray [o] (fun E' H' => E' = (d, .bool (bl q)) :: selE (afs o) (delE X E0) pre ∧ H' = []) (selE (afs o) (delE X E0) pre) [])
 (ht : q → DT C l m K XT E0 H0 p (.r k X :: dn) (⟨k, d, .bool true⟩ :: pre) A) (hf : ¬ q → DT C l m K XT E0 H0 p (.r k X :: dn) (⟨k, d, .bool false⟩ :: pre) A) : DT C l m K XT E0 H0 (.r k X :: p) dn pre A := by
 by_cases hp : q
 ·exact DT.r ho hd hN (by rw [bl_t.2 hp] at h; exact h) (ht hp)
 ·exact DT.r ho hd hN (by rw [bl_f.2 hp] at h; exact h) (hf hp)
theorem Keep.g {dn : List Nd} {j : Nat} {Q : HP} (h : ((cloT l).getD k []).elem j = true ∨ ∃ R, Pick Q H R) (r : Keep l k H dn) : Keep l k H (.g j X Q :: dn) := ⟨h, r⟩
theorem Keep.r {dn : List Nd} {j : Nat} (h : Keep l k H dn) : Keep l k H (.r j X :: dn) := h
theorem Keep.b {dn : List Nd} {j : Nat} (h : Keep l k H dn) : Keep l k H (.b j X :: dn) := h
theorem Keep.f {dn : List Nd} {j : Nat} (h : Keep l k H dn) : Keep l k H (.f j X :: dn) := h
theorem Keep.c {dn : List Nd} {j : Nat} (h : Keep l k H dn) : Keep l k H (.c j X :: dn) := h
theorem Keep.s {dn : List Nd} {j : Nat} (h : Keep l k H dn) : Keep l k H (.s j X :: dn) := h
theorem Keep.a {dn : List Nd} {j : Nat} {z : Obj} (h : Keep l k H dn) : Keep l k H (.a j d z :: dn) := h
theorem Keep.nil : Keep l k H [] := trivial
theorem ALok.cons {T : TypeId} {z : Value} {cs : Array Value} {ty : TypeId} {pos : String} {af : Array Edge} {x : Obj} (ho : l[k]? = some ⟨some d, .alloc T, ty, pos, af, none⟩) (hz : C.tt.z? T = some z) (hc : z.cells = cs) (hN : Nat.blt d C.N = true) (hx : x = .cells cs T (0, 0)) (r : ALok C l p) : ALok C l (.a k d x :: p) := by
 subst hx
 exact ⟨⟨_, ho, rfl, hN, WO.alloc hz hc hN fun b _ => WO.nil ⟨b, rfl, rfl⟩⟩, r⟩
theorem ALok.r (h : ALok C l p) : ALok C l (.r k X :: p) := h
theorem ALok.b (h : ALok C l p) : ALok C l (.b k X :: p) := h
theorem ALok.f (h : ALok C l p) : ALok C l (.f k X :: p) := h
theorem ALok.c (h : ALok C l p) : ALok C l (.c k X :: p) := h
theorem ALok.s (h : ALok C l p) : ALok C l (.s k X :: p) := h
theorem ALok.g {Q : HP} (h : ALok C l p) : ALok C l (.g k X Q :: p) := h
theorem ALok.nil : ALok C l [] := trivial
end
end Go.TH
namespace Go.TH
open Go
section
variable {P : Program} {C : Cx P} {E : Env} {H : List HP}
variable {ops : Array Oper} {K : KP} {rest : List Oper} {d : Nat} {ty : TypeId} {pos : String} {af : Array Edge} {x : Operand} {xs : List Operand} {ats : Array TypeId} {f : FuncId} {first captured vs : List Value}
theorem WO.callC {Post : Value → List HP → Prop} (hx : ev E x = some (.func (.func f) first.toArray captured.toArray)) (hxs : evs E xs = some vs) (hcall : ∀ (args : Array Value) (w : World), (callFunc f args).run P w = .ok (.enter f args) w)
 (hspec : ∀ (L : List HP) w, Inv C.w0 C.M (L ++ H) w → Ct P f (first ++ vs ++ captured).toArray w fun v w' => ∃ Hq, Post v Hq ∧ Inv w [] Hq w') (hN : Nat.blt d C.N = true)
 (h : ∀ v Hq, Post v Hq → WO C ops rest K ((d, v) :: E) (Hq ++ H)) : WO C ops (⟨some d, .call ⟨.value x, xs.toArray, ats⟩, ty, pos, af, none⟩ :: rest) K E H := by
 refine WO.step rfl rfl hN (XO.callF (Hp := []) (Hr := H) (Post := Post) (first := first.toArray) (captured := captured.toArray) hx hxs hcall (Sub.refl _) (fun L w M' hi _ _ => ?_) h)
 have hc := hspec L w hi
 have e : first.toArray ++ vs.toArray ++ captured.toArray = (first ++ vs ++ captured).toArray := by simp
 rw [e]
 refine hc.mono fun v w' ⟨Hq, hp, hi'⟩ => ⟨Hq, hp, ?_⟩
 exact ⟨hi'.os, hi'.tape, hi'.output, hi'.size, fun k hk _ => hi'.keep k hk (by simp), sat_sub Hq (fun k o ho => by
  unfold own at ho ⊢
  split at ho
  ·cases ho
  ·rename_i hn
   rw [if_neg (fun hh => hn ⟨hh.1, by simp⟩)]; exact ho) hi'.mine⟩
theorem WO.callCR {r : Value} (hx : ev E x = some (.func (.func f) first.toArray captured.toArray)) (hxs : evs E xs = some vs) (hcall : ∀ (args : Array Value) (w : World), (callFunc f args).run P w = .ok (.enter f args) w)
 (hspec : ∀ (L : List HP) w, Inv C.w0 C.M (L ++ H) w → Ret P f (first ++ vs ++ captured).toArray w r) (hN : Nat.blt d C.N = true)
 (h : WO C ops rest K ((d, r) :: E) H) : WO C ops (⟨some d, .call ⟨.value x, xs.toArray, ats⟩, ty, pos, af, none⟩ :: rest) K E H :=
 WO.callC hx hxs hcall hspec hN fun v Hq ⟨e1, e2⟩ => by subst e1; subst e2; exact h
structure Cap (w : World) (p : Addr) (v : Value) : Prop where
 lt : p.block < w.heap.size
 at_ : w.cell? p = some v
theorem Cap.of {b off : Nat} {cs : List Value} {t : TypeId} {fr : Nat × Nat} {H' L : List HP} {v : Value} {w : World} (p : Pick (pt b (.cells cs.toArray t fr)) H H') (hv : lget cs off = some v) (hi : Inv C.w0 C.M (L ++ H) w) : Cap w ⟨b, off, none⟩ v :=
 ⟨by have h1 := (hi.look (p.app L)).1; exact (Array.getElem?_eq_some_iff.1 h1).1, Cell.own (C := C) p hv L w hi⟩
theorem Cap.old {p : Addr} {v : Value} {L : List HP} {w : World} (hB : C.B = C.w0.heap.size) (h : Cap C.w0 p v) (hi : Inv C.w0 C.M (L ++ H) w) : Cap w p v :=
 ⟨by have h1 := h.lt; have h2 := hi.size; omega, Cell.old (C := C) (H := H) (by rw [hB]; exact h.lt) h.at_ L w hi⟩
theorem Cap.cell {p : Addr} {v : Value} (hB : C.B = C.w0.heap.size) (h : Cap C.w0 p v) : Cell C H p v := Cell.old (by rw [hB]; exact h.lt) h.at_
def RetE (P : Program) (f : FuncId) (args : Array Value) (w : World) (Q : Value → Prop) : Prop := Ct P f args w fun v w' => ∃ Hq, (Q v ∧ Hq = []) ∧ Inv w [] Hq w'
theorem RetE.of {f : FuncId} {fn : Func} {c : Code} {vs : List Value} {w : World} {Q : Value → Prop} (hm : P.follows .mixedOrders = true) (tt : TTab P)
 (hf : P.funcs[f]? = some fn) (hb : fn.body = some c) (ha : Nat.ble vs.length fn.ntmps = true)
 (h : W (fnCx hm tt fn.ntmps w) c (fin (fnCx hm tt fn.ntmps w) fn (fun v _ => Q v)) (enumE 0 vs) []) : RetE P f vs.toArray w Q :=
 (Ct.of hm tt hf hb ha h).mono fun v w' ⟨Hq, q, hi⟩ => ⟨[], ⟨q, rfl⟩, hi.sub .nil⟩
theorem WO.callE {Q : Value → Prop} (hxs : evs E xs = some vs) (hcall : ∀ (args : Array Value) (w : World), (callFunc f args).run P w = .ok (.enter f args) w)
 (hspec : ∀ (L : List HP) w, Inv C.w0 C.M (L ++ H) w → RetE P f vs.toArray w Q) (hN : Nat.blt d C.N = true)
 (h : ∀ v, Q v → WO C ops rest K ((d, v) :: E) H) : WO C ops (⟨some d, .call ⟨.value (.func f), xs.toArray, ats⟩, ty, pos, af, none⟩ :: rest) K E H :=
 WO.call hxs hcall hspec hN fun v Hq ⟨e1, e2⟩ => by subst e2; exact h v e1
end
end Go.TH
namespace Go.TH
open Go
section
variable {P : Program} {C : Cx P} {E : Env} {H : List HP}
structure RdC (B : Nat) (w : World) (p : Addr) (vs : List Value) : Prop where
 lt : p.block < B
 at_ : ∀ j v, vs[j]? = some v → w.cell? (p.add j) = some v
theorem RdC.cellAt {p : Addr} {vs : List Value} (h : RdC C.B C.w0 p vs) {j : Nat} {u : Value} (hu : lget vs j = some u) : Cell C H (prt p j) u := by
 rw [lget_eq] at hu
 rw [prt_eq]
 exact Cell.old (by rw [addr_add_block]; exact h.lt) (h.at_ j u hu)
theorem addr_add_zero (p : Addr) : p.add 0 = p := by simp [Addr.add]
theorem RdC.cell0 {p : Addr} {vs : List Value} (h : RdC C.B C.w0 p vs) {u : Value} (hu : lget vs 0 = some u) : Cell C H p u := by
 have := h.cellAt (H := H) hu
 rw [prt_eq, addr_add_zero] at this
 exact this
theorem RdC.cells {p : Addr} {vs : List Value} (h : RdC C.B C.w0 p vs) : Cells C H p vs := fun j v hv => Cell.old (by rw [addr_add_block]; exact h.lt) (h.at_ j v hv)
theorem RdC.part {B : Nat} {w : World} {p : Addr} {vs us : List Value} (h : RdC B w p vs) (hs : ∀ (j : Nat) (v : Value), us[j]? = some v → vs[j]? = some v) : RdC B w p us := ⟨h.lt, fun j v hv => h.at_ j v (hs j v hv)⟩
theorem RdC.later {p : Addr} {vs : List Value} {L : List HP} {w : World} (h : RdC C.B C.w0 p vs) (hi : Inv C.w0 C.M (L ++ H) w) : RdC w.heap.size w p vs :=
 ⟨Nat.lt_of_lt_of_le h.lt (Nat.le_trans C.hB hi.size), fun j v hv => (h.cells (H := H)) j v hv L w hi⟩
theorem RdC.own {b : Nat} {cs : List Value} {t : TypeId} {fr : Nat × Nat} {H' L : List HP} {w : World} (p : Pick (pt b (.cells cs.toArray t fr)) H H') (hi : Inv C.w0 C.M (L ++ H) w) : RdC w.heap.size w ⟨b, 0, none⟩ cs :=
 ⟨by have h1 := (hi.look (p.app L)).1; exact (Array.getElem?_eq_some_iff.1 h1).1, fun j v hv => (Cells.own (C := C) p) j v hv L w hi⟩
theorem cell_agree {B : Nat} {w w' : World} (hk : ∀ k, k < B → w'.heap[k]? = w.heap[k]?) {p : Addr} (hb : p.block < B) : w'.cell? p = w.cell? p := by
 unfold World.cell?
 rw [hk _ hb]
theorem RdC.agree {B : Nat} {w w' : World} {p : Addr} {vs : List Value} (h : RdC B w p vs) (hk : ∀ k, k < B → w'.heap[k]? = w.heap[k]?) : RdC B w' p vs :=
 ⟨h.lt, fun j v hv => by rw [cell_agree hk (by rw [addr_add_block]; exact h.lt)]; exact h.at_ j v hv⟩
theorem RdF.agree {α : Type} {enc : α → List Value} {sz B : Nat} {w w' : World} {v : Value} {xs : List α} (h : RdF enc sz B w v xs) (hk : ∀ k, k < B → w'.heap[k]? = w.heap[k]?) : RdF enc sz B w' v xs :=
 ⟨h.sl, h.blk, fun i x hx j u hu => by
  rw [cell_agree hk (by rw [addr_add_block, addr_add_block]; exact h.blk (by have := (List.getElem?_eq_some_iff.1 hx).1; omega))]; exact h.cell i x hx j u hu⟩
theorem RdR.agree {α : Type} {enc : α → List Value} {sz B : Nat} {w w' : World} {v : Value} {rv : List Value} {xss : List (List α)} (h : RdR enc sz B w v rv xss) (hk : ∀ k, k < B → w'.heap[k]? = w.heap[k]?) : RdR enc sz B w' v rv xss :=
 ⟨h.out.agree hk, h.len, fun i hl => (h.row' i hl).agree hk⟩
theorem RdC.up {B B' : Nat} {w : World} {p : Addr} {vs : List Value} (h : RdC B w p vs) (hB : B ≤ B') : RdC B' w p vs := ⟨Nat.lt_of_lt_of_le h.lt hB, h.at_⟩
theorem RdF.up {α : Type} {enc : α → List Value} {sz B B' : Nat} {w : World} {v : Value} {xs : List α} (h : RdF enc sz B w v xs) (hB : B ≤ B') : RdF enc sz B' w v xs := ⟨h.sl, fun hl => Nat.lt_of_lt_of_le (h.blk hl) hB, h.cell⟩
theorem RdR.up {α : Type} {enc : α → List Value} {sz B B' : Nat} {w : World} {v : Value} {rv : List Value} {xss : List (List α)} (h : RdR enc sz B w v rv xss) (hB : B ≤ B') : RdR enc sz B' w v rv xss := ⟨h.out.up hB, h.len, fun i hl => (h.row' i hl).up hB⟩
theorem sat_one {Hs H : List HP} : ∀ h, sat (Hs ++ H) h → sat (sat Hs :: H) h := fun h hs => by
 obtain ⟨h1, h2, s, x, y⟩ := sat_app hs
 exact ⟨h1, h2, s, x, y⟩
theorem sat_many {Hs H : List HP} : ∀ h, sat (sat Hs :: H) h → sat (Hs ++ H) h := fun _ ⟨_, _, s, x, y⟩ => sat_join s x y
theorem WO.indexArrL {ops : Array Oper} {K : KP} {rest : List Oper} {d : Nat} {ty : TypeId} {pos : String} {af : Array Edge} {x y : Operand} {T : TypeId} {len e sz b off o' : Nat} {k : IntKind} {i : Nat} (hT : C.tt.ar? T = some (len, e, sz)) (hx : ev E x = some (.pointer (some ⟨b, off, none⟩))) (hy : ev E y = some (.int k (i : Int))) (h1 : i < len) (ho : off + i * sz = o') (hN : Nat.blt d C.N = true)
 (h : WO C ops rest K ((d, .pointer (some ⟨b, o', none⟩)) :: E) H) : WO C ops (⟨some d, .indexAddr T x y, ty, pos, af, none⟩ :: rest) K E H := by
 subst ho
 refine WO.indexArr hT hx hy (by omega) (by omega) hN ?_
 have e : Addr.add ⟨b, off, none⟩ ((i : Int).toNat * sz) = ⟨b, off + i * sz, none⟩ := by
  rw [Int.toNat_natCast]; unfold Addr.add; split
  ·rename_i h0; simp [h0]
  ·rfl
 rw [e]; exact h
variable {ops : Array Oper} {K : KP} {rest : List Oper} {d : Nat} {ty : TypeId} {pos : String} {af : Array Edge} {x : Operand} {xs : List Operand} {ats : Array TypeId} {vs : List Value}
theorem YieldOK.one {B : Nat} {wr : World} {l : Nat} {args : Array Value} {Hp Hq : List HP} (h : YieldOK P B wr l args Hp Hq) : YieldOK P B wr l args [sat Hp] [sat Hq] := fun w M' h1 h2 h3 h4 => by
 have e : ∀ (Hx : List HP) (w : World), Inv w M' [sat Hx] w → Inv w M' Hx w := fun Hx w hi => by
  have := Inv.chg (L := []) hi (sat_many (Hs := Hx) (H := []))
  simpa using this
 obtain ⟨f, tmps, as9, body, hr, hd⟩ := h w M' h1 h2 h3 (e Hp w h4)
 refine ⟨f, tmps, as9, body, hr, RoundIn.mono hd ?_⟩
 rintro e w' ⟨rfl, hi⟩
 refine ⟨rfl, ?_⟩
 have := Inv.chg (L := []) (H := Hq ++ []) (by simpa using hi) (sat_one (Hs := Hq) (H := []))
 simpa using this
theorem YieldOK.agree {B : Nat} {wr w0 : World} {l : Nat} {args : Array Value} {Hp Hq : List HP} (h : YieldOK P B wr l args Hp Hq) (hk : ∀ k, k < B → w0.heap[k]? = wr.heap[k]?) : YieldOK P B w0 l args Hp Hq := fun w M' h1 h2 h3 h4 =>
 h w M' h1 (fun k hlt => by rw [h2 k hlt, hk k hlt]) h3 h4
theorem WO.yield {l : Nat} {A A' : HP} {H' : List HP} (hx : ev E x = some (.func (.yield l) #[] #[])) (hxs : evs E xs = some vs) (p : Pick A H H') (hy : YieldOK P C.B C.w0 l vs.toArray [A] [A']) (hN : Nat.blt d C.N = true)
 (h : WO C ops rest K ((d, .bool true) :: E) (A' :: H')) : WO C ops (⟨some d, .call ⟨.value x, xs.toArray, ats⟩, ty, pos, af, none⟩ :: rest) K E H :=
 WO.step rfl rfl hN (XO.yield (Hp := [A]) (Hr := H') (Hq := [A']) hx hxs (.cons p (Sub.refl _)) hy h)
def itCx (hm : P.follows .mixedOrders = true) (tt : TTab P) (N : Nat) (w : World) (M : List Nat) (B : Nat) (hB : B ≤ w.heap.size) (hM : ∀ b ∈ M, B ≤ b) : Cx P := ⟨none, N, w, M, B, hB, hM, hm, tt⟩
theorem Iter.of {f : FuncId} {fn : Func} {c : Code} {vs : List Value} {w : World} {M : List Nat} {B : Nat} {Hit : List HP} {A A' : List HP} (hm : P.follows .mixedOrders = true) (tt : TTab P) (hB : B ≤ w.heap.size) (hM : ∀ b ∈ M, B ≤ b)
 (hf : P.funcs[f]? = some fn) (hb : fn.body = some c) (ha : Nat.ble vs.length fn.ntmps = true) (hi : Inv w M (Hit ++ A) w)
 (h : W (itCx hm tt fn.ntmps w M B hB hM) c (fin (itCx hm tt fn.ntmps w M B hB hM) fn (fun _ H => Sub H (Hit ++ [sat A']))) (enumE 0 vs) (Hit ++ [sat A])) : Ct P f vs.toArray w fun _ w' => Inv w M (Hit ++ A') w' := by
 have h1 : Inv w M (Hit ++ [sat A]) w := Inv.chg (L := Hit) (H := A ++ []) (by simpa using hi) sat_one
 refine (Ct.of_W (M := M) (Hp := Hit ++ [sat A]) (itCx hm tt fn.ntmps w M B hB hM) rfl rfl rfl hf hb rfl (by simpa [itCx] using Nat.ble_eq.mp ha) (fun t v hv => by
  have := lk_enumE vs 0 t v hv
  simpa using this.2) h h1).mono ?_
 rintro v w' ⟨Hq, s, hi'⟩
 have h2 : Inv w M (Hit ++ (A' ++ [])) w' := Inv.chg (L := Hit) (hi'.sub s) sat_many
 simpa using h2
end
end Go.TH
namespace Go.TH
open Go
section
variable {P : Program} {C : Cx P} {E : Env} {H : List HP}
theorem stepR_scope {b : Frame} {a : Act} {k : List Item} {cs : List Frame} {w : World} {c : Code} : step P (lone (b.atR a (.code (.scope c) :: k)) cs w) = .next (lone (b.atR a (.code c :: .inScope c :: k)) cs w) :=
 step_lone_go (by simp [stepG, stepG.exec, Frame.atR])
theorem stepR_inScope {b : Frame} {a : Act} {k : List Item} {cs : List Frame} {w : World} {c : Code} : step P (lone (b.atR a (.inScope c :: k)) cs w) = .next (lone (b.atR a k) cs w) :=
 step_lone_go (by simp [stepG, stepG.exec, Frame.atR])
@[reducible] def sco (Q : Post) : Post
 | .goto _ => fun _ _ => False
 | e => Q e
theorem W.scope {c : Code} {Q : Post} (h : W C c (sco Q) E H) : W C (.scope c) Q E H := by
 intro L ds a w hs b k cs hro hb hr
 obtain ⟨e, a₁, w₁, ⟨ds', E', H', hq, hs'⟩, harr⟩ := h L ds a w hs b (.inScope c :: k) cs hro hb hr
 cases e with
 | normal => exact ⟨.normal, a₁, w₁, ⟨ds', E', H', hq, hs'⟩, .of_steps (.one (fenced_calm hb hr rfl) stepR_scope) (StepsIn.trans harr (.one (fenced_calm hb hr rfl) stepR_inScope))⟩
 | exit id => exact ⟨.exit id, a₁, w₁, ⟨ds', E', H', hq, hs'⟩, .of_steps (.one (fenced_calm hb hr rfl) stepR_scope) ⟨fun k' hk => harr.1 k' (by simp [exitTo, hk]), fun hr' hk => harr.2 hr' (by simp [exitTo, hk])⟩⟩
 | goto l => exact hq.elim
 | ret => exact ⟨_, a₁, w₁, ⟨ds', E', H', hq, hs'⟩, .of_steps (.one (fenced_calm hb hr rfl) stepR_scope) harr⟩
 | panic ch => exact ⟨_, a₁, w₁, ⟨ds', E', H', hq, hs'⟩, .of_steps (.one (fenced_calm hb hr rfl) stepR_scope) harr⟩
 | outgrown => exact ⟨_, a₁, w₁, ⟨ds', E', H', hq, hs'⟩, .of_steps (.one (fenced_calm hb hr rfl) stepR_scope) harr⟩
theorem W.label {l : Nat} {Q : Post} (h : Q .normal E H) : W C (.label l) Q E H := fun _ ds _ _ hs => wpIn_label ⟨ds, E, H, h, hs⟩
theorem W.chgE {X : Type} {c : Code} {Q : Post} {p : X → Prop} {H' : X → List HP} (hi : ∀ h, sat H h → ∃ x, p x ∧ sat (H' x) h) (h : ∀ x, p x → W C c Q E (H' x)) : W C c Q E H := by
 intro L ds a w hs
 have hv := hs.inv
 obtain ⟨h1, h2, s, x, y⟩ := sat_app hv.mine
 obtain ⟨u, hu, y'⟩ := hi _ y
 exact h u hu L ds a w ⟨hs.defers, hs.fr, hv.os, hv.tape, hv.output, hv.size, hv.keep, sat_join s x y'⟩
def PtrP (pv : Value) (e : Int) (cs : List Value) (t : TypeId) : HP := fun h => e = 0 → ∃ b, pv = .pointer (some ⟨b, 0, none⟩) ∧ pt b (.cells cs.toArray t (0, 0)) h
theorem PtrP.open {pv : Value} {e : Int} {cs : List Value} {t : TypeId} {H' : List HP} (p : Pick (PtrP pv e cs t) H H') (he : e = 0) : ∀ h, sat H h → ∃ b, pv = .pointer (some ⟨b, 0, none⟩) ∧ sat (pt b (.cells cs.toArray t (0, 0)) :: H') h := fun h hs => by
 obtain ⟨h1, h2, s, hp, hr⟩ := p.sat hs
 obtain ⟨b, e1, e2⟩ := hp he
 exact ⟨b, e1, h1, h2, s, e2, hr⟩
theorem PtrP.no {pv : Value} {e : Int} {cs : List Value} {t : TypeId} (he : e ≠ 0) : ∀ h, sat H h → sat (PtrP pv e cs t :: H) h := fun h hs => ⟨fun _ => none, h, split_none h, fun e0 => absurd e0 he, hs⟩
theorem PtrP.yes {b : Nat} {e : Int} {cs : List Value} {t : TypeId} {H' : List HP} (p : Pick (pt b (.cells cs.toArray t (0, 0))) H H') : ∀ h, sat H h → sat (PtrP (.pointer (some ⟨b, 0, none⟩)) e cs t :: H') h := fun h hs => by
 obtain ⟨h1, h2, s, hp, hr⟩ := p.sat hs
 exact ⟨h1, h2, s, fun _ => ⟨b, rfl, hp⟩, hr⟩
theorem W.keep {c : Code} {Q : Post} {H' : List HP} (s : Sub H H') (h : W C c Q E H') : W C c Q E H := W.chg (fun _ hs => s.sat hs) h
variable {ops : Array Oper} {K : KP} {rest : List Oper} {d : Nat} {ty : TypeId} {pos : String} {af : Array Edge} {x y : Operand} {T : TypeId}
theorem setRow_same {w : World} {g : Nat} {cur cur' : List Value} {t : TypeId} {fr : Nat × Nat} (h : w.heap[g]? = some (.cells cur.toArray t fr)) : (w.setRow g cur'.toArray).heap[g]? = some (.cells cur'.toArray t fr) := by
 obtain ⟨hlt, hv⟩ := Array.getElem?_eq_some_iff.1 h
 simp [World.setRow, hlt, Array.getElem_modify, hv]
theorem setRow_other {w : World} {g k : Nat} {cur' : List Value} (h : k ≠ g) : (w.setRow g cur'.toArray).heap[k]? = w.heap[k]? := by
 simp [World.setRow, Array.getElem?_modify, Ne.symm h]
end
end Go.TH
namespace Go.TH
open Go Go.RowKit Go.WideShapes Go.ChangeShapes
theorem Inv.below {w w' : World} {H : List HP} (h : Inv w [] H w') : Below w.heap.size w w' := ⟨h.os, h.tape, h.output, h.size, fun k hk => h.keep k hk (by simp)⟩
theorem Ret.calls {P : Program} {f : FuncId} {args : Array Value} {w : World} {r : Value} (h : Ret P f args w r) : Calls P f args w fun e w' => e = .returned r ∧ Below w.heap.size w w' :=
 callsIn_wide.1 (CallsIn.mono h fun e w' ⟨v, he, Hq, ⟨hv, _⟩, hi⟩ => ⟨by rw [he, hv], hi.below⟩)
theorem post_law {H : Type} {enc : TypeId × Value → H} {P : Program} {f : Func} {s : ChangeSpec} {apart fresh handsOn again : Bool} {W W' : World} {args : Array Value} {v : Value} {ds gs : List (DataW H)} {before pa pv : List MemPlace}
 (hW : DataW.Whole enc P f.params.toList s.vars apart W args.toList ds gs before)
 (hres : ∀ (b : Nat) (sp : Nat → Bool) (hd : Bool), DataW.TrodAll enc P W' b sp hd f.resultTypes.toList (v.resultList f.resultTypes.size) (s.fn H (ds ++ gs)).results [])
 (hargs : ∀ sp : Nat → Bool, (∀ p ∈ before, sp p.block = true) → DataW.TrodAll enc P W' 0 sp true f.params.toList args.toList (s.fn H (ds ++ gs)).args pa)
 (hvars : ∀ sp : Nat → Bool, (∀ p ∈ before, sp p.block = true) → DataW.TrodVars enc P W' sp s.vars (s.fn H (ds ++ gs)).vars pv)
 (hps : before = pa ++ pv) (hb : Below W.heap.size W W')
 (hok : ∀ (j : Nat) (t : TypeId) (r : Value), f.resultTypes[j]? = some t → (v.resultList f.resultTypes.size)[j]? = some r → Value.okWide P W' .any 0 t r) :
 s.post enc P f apart fresh handsOn again W args v W' := by
 subst hps
 have hin : ∀ p ∈ pa ++ pv, decide (p.block < W.heap.size) = true := fun p hp => decide_eq_true (hW.lt p hp)
 refine ⟨ds, gs, pa ++ pv, [], pa, pv, hW, hres _ _ _, hargs _ hin, hvars _ hin, World.keptBut_mono (fun p hp => ⟨hp, .inr (List.mem_append.1 hp)⟩) (hb.frame (· ∈ pa ++ pv)), fun _ => ?_⟩
 obtain ⟨_, _, _, _, _, hz, hn⟩ := hW
 refine ⟨hok, _, _, ([] ++ pa) ++ pv, ⟨[] ++ pa, pv, trodAll_append (hargs _ fun _ _ => rfl) (hres _ _ _), hvars _ fun _ _ => rfl, rfl, fun b off hp => ?_, fun ha => hn ha⟩, fun p hp _ => hp⟩
 have hp' : MemPlace.cell b off ∈ pa ++ pv := hp
 rw [hb.frozen (of_decide_eq_true (hin _ hp'))]
 exact hz b off hp'
end Go.TH
namespace Go.TH
open Go Go.RowKit Go.WideShapes Go.ChangeShapes
section
variable {H : Type} {enc : TypeId × Value → H} {P : Program} {w : World} {base : Nat} {spare : Nat → Bool} {held : Bool}
theorem mapM_get {α β : Type} {f : α → Option β} : ∀ {l : List α} {r : List β}, l.mapM f = some r → r.length = l.length ∧ ∀ (i : Nat) (x : α), l[i]? = some x → r[i]? = f x
 | [], r, h => by simp at h; subst h; exact ⟨rfl, fun i x hx => by simp at hx⟩
 | a :: l, r, h => by
  rw [List.mapM_cons] at h
  cases ha : f a with
  | none => simp [ha] at h
  | some b =>
   cases hl : l.mapM f with
   | none => simp [ha, hl] at h
   | some r' =>
    simp [ha, hl] at h
    subst h
    obtain ⟨h1, h2⟩ := mapM_get hl
    refine ⟨by simp [h1], fun i x hx => ?_⟩
    cases i with
    | zero => simp at hx; subst hx; simp [ha]
    | succ i => simp at hx ⊢; exact h2 i x hx
theorem cells_get {a : Addr} {n : Nat} {cs : List Value} (h : w.cells? base a n = some cs) : cs.length = n ∧ ∀ j, j < n → w.cell? (a.add j) = cs[j]? := by
 unfold World.cells? at h
 split at h
 ·obtain ⟨h1, h2⟩ := mapM_get h
  refine ⟨by simpa using h1, fun j hj => ?_⟩
  exact (h2 j j (by simp [hj])).symm
 ·cases h
theorem cell_in {p : Addr} {v : Value} (h : w.cell? p = some v) : p.block < w.heap.size ∧ p.spot = none := by
 unfold World.cell? at h
 cases hb : w.heap[p.block]? with
 | none => simp [hb] at h
 | some o =>
  refine ⟨(Array.getElem?_eq_some_iff.1 hb).1, ?_⟩
  rw [hb] at h
  cases o <;> simp at h
  cases hs : p.spot with
  | none => rfl
  | some x => simp [hs] at h
theorem choose_list {α : Type} {n : Nat} {p : Nat → α → Prop} (h : ∀ i, i < n → ∃ x, p i x) : ∃ l : List α, l.length = n ∧ ∀ (i : Nat) (x : α), l[i]? = some x → p i x := by
 induction n with
 | zero => exact ⟨[], rfl, fun i x hx => by simp at hx⟩
 | succ n ih =>
  obtain ⟨l, hl, hp⟩ := ih fun i hi => h i (by omega)
  obtain ⟨x, hx⟩ := h n (by omega)
  refine ⟨l ++ [x], by simp [hl], fun i y hy => ?_⟩
  rcases Nat.lt_or_ge i n with hi | hi
  ·rw [List.getElem?_append_left (by omega)] at hy; exact hp i y hy
  ·have hlt := (List.getElem?_eq_some_iff.1 hy).1
   simp [hl] at hlt
   obtain rfl : i = n := by omega
   rw [List.getElem?_append_right (by omega)] at hy
   simp [hl] at hy; subst hy; exact hx
theorem open_rd {α : Type} {en : α → List Value} {sz T e fuel : Nat} {cs : List Value} {x : DataW H × List MemPlace} {Q : α → Prop} (ht : P.underlying T = some (.slice e)) (hc : P.cellsOf e = sz) (hsz : 0 < sz)
 (hx : ∀ n c y, c.length = sz → DataW.trod enc P w base spare held n e c = some y → ∃ z : α, c = en z ∧ Q z) (h : DataW.trod enc P w base spare held fuel T cs = some x) :
 ∃ v xs, cs = [v] ∧ RdF en sz w.heap.size w v xs ∧ ∀ z ∈ xs, Q z := by
 rcases Deep.open_slice ht h with ⟨rfl, _⟩ | ⟨a, len, cap, m, n, D, Pl, rfl, hb, hl, hm, hme, _, hel⟩
 ·exact ⟨_, [], rfl, ⟨⟨by simp, none, 0, rfl, fun h => by simp at h⟩, fun h => by simp at h, fun i x h => by simp at h⟩, by simp⟩
 ·have hlm : len ≤ m := by rw [hme]; split <;> omega
  have hpt : ∀ i, i < len → ∃ z : α, (∀ (j : Nat) (u : Value), (en z)[j]? = some u → w.cell? ((a.add (i * sz)).add j) = some u) ∧ Q z ∧ (en z).length = sz := by
   intro i hi
   obtain ⟨c, h1, h2⟩ := hel i (by omega)
   rw [hc] at h1
   obtain ⟨h3, h4⟩ := cells_get h1
   obtain ⟨z, rfl, hz⟩ := hx n c _ h3 h2
   refine ⟨z, fun j u hu => ?_, hz, h3⟩
   have hj := (List.getElem?_eq_some_iff.1 hu).1
   rw [h4 j (by omega)]; exact hu
  obtain ⟨xs, hxl, hxp⟩ := choose_list hpt
  have h0 : 0 < len → a.block < w.heap.size ∧ a.spot = none := fun hp => by
   obtain ⟨z, h1, h2⟩ : ∃ z, xs[0]? = some z ∧ True := by
    obtain ⟨z, hz⟩ : ∃ z, xs[0]? = some z := ⟨xs[0]'(by omega), by simp⟩
    exact ⟨z, hz, trivial⟩
   obtain ⟨g1, _, g3⟩ := hxp 0 z h1
   have := cell_in (g1 0 ((en z)[0]'(by omega)) (by simp))
   simpa [Addr.add] using this
  simp only [maxLen] at hm
  refine ⟨_, xs, rfl, ⟨⟨by omega, some a, cap, by rw [hxl], fun hp => ?_⟩, fun hp => (h0 (by omega)).1, fun i z hz j u hu => (hxp i z hz).1 j u hu⟩, fun z hz => ?_⟩
  ·have := (h0 (by omega)).2
   exact ⟨a.block, a.off, by cases a; simp_all⟩
  ·obtain ⟨i, hi⟩ := List.mem_iff_getElem?.1 hz
   exact (hxp i z hi).2.1
theorem trod_stay {W W' : World} {t : TypeId} {v : Value} {d : DataW H} {ps : List MemPlace} (hl : laidOutB P = true) (hr : P.readableRec t = true) (hrow : t < P.types.size) (h : DataW.Trod enc P W 0 (fun _ => true) true t v d ps) (hb : Below W.heap.size W W') (hlt : ∀ x ∈ ps, x.block < W.heap.size) (sp : Nat → Bool) (hsp : ∀ x ∈ ps, sp x.block = true) : DataW.Trod enc P W' 0 sp true t v d ps :=
 WideElems.Trod_stays hl hr hrow h (fun x hx => hb.same (hlt x hx)) hsp
end
end Go.TH
namespace Go.Proofs.YtnehaifgcegemaaGreat
open Go Go.TH
abbrev zn : TI := ⟨.none, 0, none⟩
abbrev zo : TI := ⟨.one, 1, some (.nilFunc)⟩
abbrev zp : TI := ⟨.one, 1, some (.pointer none)⟩
def tyList : List TI := [zn,
 zo,
 ⟨.int .i64, 1, some (.int .i64 0)⟩,
 ⟨.int .i64, 1, some (.int .i64 0)⟩,
 ⟨.one, 1, some (.bool false)⟩,
 ⟨.int .u8, 1, some (.int .u8 0)⟩,
 ⟨.int .u8, 1, some (.int .u8 0)⟩,
 ⟨.st [(0, 2), (1, 3), (2, 4), (3, 6)], 4, some (.agg #[.int .i64 0, .int .i64 0, .bool false, .int .u8 0])⟩,
 ⟨.st [(0, 2), (1, 3), (2, 4), (3, 6)], 4, some (.agg #[.int .i64 0, .int .i64 0, .bool false, .int .u8 0])⟩,
 zn,
 zn,
 zn,
 ⟨.int .u64, 1, some (.int .u64 0)⟩,
 ⟨.st [(0, 9), (1, 12)], 2, none⟩,
 ⟨.st [(0, 9), (1, 12)], 2, none⟩,
 zp,
 zp,
 zp,
 ⟨.st [(0, 17)], 1, some (.agg #[.pointer none])⟩,
 ⟨.st [(0, 17)], 1, some (.agg #[.pointer none])⟩,
 ⟨.one, 1, some (.nilIface)⟩,
 ⟨.int .i32, 1, some (.int .i32 0)⟩,
 ⟨.sl 98 1 1, 1, some (.slice none 0 0)⟩,
 ⟨.sl 2 1 8, 1, some (.slice none 0 0)⟩,
 zo,
 ⟨.sl 31 3 24, 1, some (.slice none 0 0)⟩,
 ⟨.st [(0, 3), (1, 25)], 2, some (.agg #[.int .i64 0, .slice none 0 0])⟩,
 ⟨.st [(0, 3), (1, 25)], 2, some (.agg #[.int .i64 0, .slice none 0 0])⟩,
 ⟨.st [(0, 2), (1, 2)], 2, some (.agg #[.int .i64 0, .int .i64 0])⟩,
 ⟨.st [(0, 2), (1, 2)], 2, some (.agg #[.int .i64 0, .int .i64 0])⟩,
 ⟨.st [(0, 2), (1, 29)], 3, some (.agg #[.int .i64 0, .int .i64 0, .int .i64 0])⟩,
 ⟨.st [(0, 2), (1, 29)], 3, some (.agg #[.int .i64 0, .int .i64 0, .int .i64 0])⟩,
 zo,
 zo,
 zo,
 ⟨.st [(0, 2), (1, 2)], 2, some (.agg #[.int .i64 0, .int .i64 0])⟩,
 ⟨.st [(0, 2), (1, 2)], 2, some (.agg #[.int .i64 0, .int .i64 0])⟩,
 ⟨.int .i64, 1, some (.int .i64 0)⟩,
 zn,
 zo,
 zo,
 zn,
 zo,
 zo,
 ⟨.sl 64 4 32, 1, some (.slice none 0 0)⟩,
 ⟨.sl 49 2 16, 1, some (.slice none 0 0)⟩,
 zo,
 zo,
 ⟨.st [(0, 2), (1, 2)], 2, some (.agg #[.int .i64 0, .int .i64 0])⟩,
 ⟨.st [(0, 2), (1, 2)], 2, some (.agg #[.int .i64 0, .int .i64 0])⟩,
 ⟨.st [(0, 2), (1, 2), (2, 2)], 3, some (.agg #[.int .i64 0, .int .i64 0, .int .i64 0])⟩,
 ⟨.st [(0, 2), (1, 2), (2, 2)], 3, some (.agg #[.int .i64 0, .int .i64 0, .int .i64 0])⟩,
 zo,
 ⟨.st [(0, 2), (1, 2), (2, 2), (3, 36)], 5, some (.agg #[.int .i64 0, .int .i64 0, .int .i64 0, .int .i64 0, .int .i64 0])⟩,
 ⟨.st [(0, 2), (1, 2), (2, 2), (3, 36)], 5, some (.agg #[.int .i64 0, .int .i64 0, .int .i64 0, .int .i64 0, .int .i64 0])⟩,
 zn,
 zo,
 zo,
 zo,
 zo,
 zo,
 zo,
 zo,
 ⟨.st [(0, 2), (1, 2), (2, 29)], 4, some (.agg #[.int .i64 0, .int .i64 0, .int .i64 0, .int .i64 0])⟩,
 ⟨.st [(0, 2), (1, 2), (2, 29)], 4, some (.agg #[.int .i64 0, .int .i64 0, .int .i64 0, .int .i64 0])⟩,
 zn,
 zo,
 ⟨.st [(0, 36), (2, 36)], 4, some (.agg #[.int .i64 0, .int .i64 0, .int .i64 0, .int .i64 0])⟩,
 ⟨.st [(0, 36), (2, 36)], 4, some (.agg #[.int .i64 0, .int .i64 0, .int .i64 0, .int .i64 0])⟩,
 zn,
 zo,
 zn,
 zo,
 ⟨.sl 140 3 24, 1, some (.slice none 0 0)⟩,
 ⟨.st [(0, 73), (1, 2)], 2, some (.agg #[.slice none 0 0, .int .i64 0])⟩,
 ⟨.st [(0, 73), (1, 2)], 2, some (.agg #[.slice none 0 0, .int .i64 0])⟩,
 zn,
 zo,
 zo,
 ⟨.sl 36 2 16, 1, some (.slice none 0 0)⟩,
 ⟨.sl 29 2 16, 1, some (.slice none 0 0)⟩,
 ⟨.int .u32, 1, some (.int .u32 0)⟩,
 ⟨.st [(0, 80), (1, 2)], 2, some (.agg #[.slice none 0 0, .int .i64 0])⟩,
 ⟨.st [(0, 80), (1, 2)], 2, some (.agg #[.slice none 0 0, .int .i64 0])⟩,
 zo,
 zn,
 zo,
 zn,
 zo,
 zn,
 zo,
 zo,
 zo,
 zo,
 zo,
 ⟨.sl 3 1 8, 1, some (.slice none 0 0)⟩,
 zo,
 zo,
 ⟨.int .i8, 1, some (.int .i8 0)⟩,
 zp,
 zn,
 zo,
 zo,
 zo,
 zo,
 zo,
 zo,
 zo,
 zo,
 zn,
 zo,
 zo,
 zo,
 zo,
 zo,
 zo,
 ⟨.sl 152 2 16, 1, some (.slice none 0 0)⟩,
 ⟨.st [(0, 54), (5, 116)], 6, some (.agg #[.int .i64 0, .int .i64 0, .int .i64 0, .int .i64 0, .int .i64 0, .slice none 0 0])⟩,
 ⟨.st [(0, 54), (5, 116)], 6, some (.agg #[.int .i64 0, .int .i64 0, .int .i64 0, .int .i64 0, .int .i64 0, .slice none 0 0])⟩,
 zo,
 zo,
 zo,
 ⟨.one, 1, some (.map none)⟩,
 ⟨.ar 3 2 1, 3, some (.agg #[.int .i64 0, .int .i64 0, .int .i64 0])⟩,
 ⟨.ar 3 2 1, 3, some (.agg #[.int .i64 0, .int .i64 0, .int .i64 0])⟩,
 ⟨.st [(0, 122), (1, 124), (4, 2)], 5, some (.agg #[.map none, .int .i64 0, .int .i64 0, .int .i64 0, .int .i64 0])⟩,
 ⟨.st [(0, 122), (1, 124), (4, 2)], 5, some (.agg #[.map none, .int .i64 0, .int .i64 0, .int .i64 0, .int .i64 0])⟩,
 zn,
 zo,
 zo,
 zo,
 zo,
 zo,
 zn,
 zp,
 zo,
 zo,
 zo,
 zo,
 ⟨.st [(0, 3), (1, 4), (2, 2)], 3, some (.agg #[.int .i64 0, .bool false, .int .i64 0])⟩,
 ⟨.st [(0, 3), (1, 4), (2, 2)], 3, some (.agg #[.int .i64 0, .bool false, .int .i64 0])⟩,
 zo,
 zn,
 zp,
 zo,
 zo,
 zo,
 zo,
 zo,
 zn,
 zo,
 ⟨.ar 2 2 1, 2, some (.agg #[.int .i64 0, .int .i64 0])⟩,
 ⟨.ar 2 2 1, 2, some (.agg #[.int .i64 0, .int .i64 0])⟩,
 zo,
 zo,
 ⟨.sl 54 5 40, 1, some (.slice none 0 0)⟩,
 zo,
 ⟨.sl 281 4 32, 1, some (.slice none 0 0)⟩,
 ⟨.st [(0, 3), (1, 3), (2, 29), (4, 157)], 5, some (.agg #[.int .i64 0, .int .i64 0, .int .i64 0, .int .i64 0, .slice none 0 0])⟩,
 ⟨.st [(0, 3), (1, 3), (2, 29), (4, 157)], 5, some (.agg #[.int .i64 0, .int .i64 0, .int .i64 0, .int .i64 0, .slice none 0 0])⟩,
 zo,
 ⟨.st [(0, 23), (1, 23)], 2, some (.agg #[.slice none 0 0, .slice none 0 0])⟩,
 ⟨.st [(0, 23), (1, 23)], 2, some (.agg #[.slice none 0 0, .slice none 0 0])⟩,
 zn,
 zo,
 zn,
 zo,
 zo,
 zo,
 zn,
 zo,
 zo,
 zo,
 zo,
 zo,
 zn,
 zo,
 zo,
 ⟨.st [(0, 2), (1, 2), (2, 2), (3, 2), (4, 2), (5, 2), (6, 2)], 7, some (.agg #[.int .i64 0, .int .i64 0, .int .i64 0, .int .i64 0, .int .i64 0, .int .i64 0, .int .i64 0])⟩,
 ⟨.st [(0, 2), (1, 2), (2, 2), (3, 2), (4, 2), (5, 2), (6, 2)], 7, some (.agg #[.int .i64 0, .int .i64 0, .int .i64 0, .int .i64 0, .int .i64 0, .int .i64 0, .int .i64 0])⟩,
 zo,
 zo,
 zo,
 zo,
 ⟨.ar 5 2 1, 5, some (.agg #[.int .i64 0, .int .i64 0, .int .i64 0, .int .i64 0, .int .i64 0])⟩,
 ⟨.ar 5 2 1, 5, some (.agg #[.int .i64 0, .int .i64 0, .int .i64 0, .int .i64 0, .int .i64 0])⟩,
 ⟨.st [(0, 27), (2, 185), (7, 2)], 8, some (.agg #[.int .i64 0, .slice none 0 0, .int .i64 0, .int .i64 0, .int .i64 0, .int .i64 0, .int .i64 0, .int .i64 0])⟩,
 ⟨.st [(0, 27), (2, 185), (7, 2)], 8, some (.agg #[.int .i64 0, .slice none 0 0, .int .i64 0, .int .i64 0, .int .i64 0, .int .i64 0, .int .i64 0, .int .i64 0])⟩,
 zo,
 zo,
 ⟨.one, 1, some (.map none)⟩,
 zo,
 zo,
 zo,
 zo,
 zo,
 zo,
 ⟨.st [(0, 3)], 1, some (.agg #[.int .i64 0])⟩,
 ⟨.st [(0, 3)], 1, some (.agg #[.int .i64 0])⟩,
 zo,
 zn,
 zo,
 zo,
 zn,
 zo,
 zn,
 zo,
 zo,
 zo,
 zo,
 zo,
 zo,
 zo,
 zo,
 zo,
 zo,
 zo,
 zo,
 zo,
 ⟨.sl 224 10 80, 1, some (.slice none 0 0)⟩,
 ⟨.sl 124 3 24, 1, some (.slice none 0 0)⟩,
 ⟨.st [(0, 219), (1, 220)], 2, some (.agg #[.slice none 0 0, .slice none 0 0])⟩,
 ⟨.st [(0, 219), (1, 220)], 2, some (.agg #[.slice none 0 0, .slice none 0 0])⟩,
 ⟨.st [(0, 64), (4, 124), (7, 124)], 10, some (.agg #[.int .i64 0, .int .i64 0, .int .i64 0, .int .i64 0, .int .i64 0, .int .i64 0, .int .i64 0, .int .i64 0, .int .i64 0, .int .i64 0])⟩,
 ⟨.st [(0, 64), (4, 124), (7, 124)], 10, some (.agg #[.int .i64 0, .int .i64 0, .int .i64 0, .int .i64 0, .int .i64 0, .int .i64 0, .int .i64 0, .int .i64 0, .int .i64 0, .int .i64 0])⟩,
 zo,
 zo,
 zo,
 zo,
 zo,
 zo,
 zo,
 zo,
 ⟨.sl 339 75 600, 1, some (.slice none 0 0)⟩,
 ⟨.st [(0, 83), (2, 2), (3, 2), (4, 233)], 5, some (.agg #[.slice none 0 0, .int .i64 0, .int .i64 0, .int .i64 0, .slice none 0 0])⟩,
 ⟨.st [(0, 83), (2, 2), (3, 2), (4, 233)], 5, some (.agg #[.slice none 0 0, .int .i64 0, .int .i64 0, .int .i64 0, .slice none 0 0])⟩,
 zo,
 zo,
 zo,
 ⟨.st [(0, 3), (1, 3), (2, 3), (3, 198)], 4, some (.agg #[.int .i64 0, .int .i64 0, .int .i64 0, .int .i64 0])⟩,
 ⟨.st [(0, 3), (1, 3), (2, 3), (3, 198)], 4, some (.agg #[.int .i64 0, .int .i64 0, .int .i64 0, .int .i64 0])⟩,
 zo,
 zn,
 zo,
 zo,
 zo,
 ⟨.sl 118 6 64, 1, some (.slice none 0 0)⟩,
 zo,
 zo,
 zo,
 zo,
 zo,
 zo,
 zo,
 zo,
 zn,
 zo,
 ⟨.sl 367 3 40, 1, some (.slice none 0 0)⟩,
 zo,
 ⟨.sl 80 1 24, 1, some (.slice none 0 0)⟩,
 ⟨.st [(0, 23), (1, 23), (2, 259)], 3, some (.agg #[.slice none 0 0, .slice none 0 0, .slice none 0 0])⟩,
 ⟨.st [(0, 23), (1, 23), (2, 259)], 3, some (.agg #[.slice none 0 0, .slice none 0 0, .slice none 0 0])⟩,
 zo,
 ⟨.sl 23 1 24, 1, some (.slice none 0 0)⟩,
 zo,
 ⟨.st [(0, 2), (1, 2)], 2, some (.agg #[.int .i64 0, .int .i64 0])⟩,
 ⟨.st [(0, 2), (1, 2)], 2, some (.agg #[.int .i64 0, .int .i64 0])⟩,
 zo,
 ⟨.st [(0, 36), (2, 36)], 4, some (.agg #[.int .i64 0, .int .i64 0, .int .i64 0, .int .i64 0])⟩,
 zn,
 zo,
 zo,
 zo,
 ⟨.st [(0, 2), (1, 2)], 2, some (.agg #[.int .i64 0, .int .i64 0])⟩,
 ⟨.st [(0, 2), (1, 2)], 2, some (.agg #[.int .i64 0, .int .i64 0])⟩,
 zo,
 zn,
 zo,
 ⟨.sl 266 2 16, 1, some (.slice none 0 0)⟩,
 zo,
 ⟨.st [(0, 3), (1, 3), (2, 29)], 4, some (.agg #[.int .i64 0, .int .i64 0, .int .i64 0, .int .i64 0])⟩,
 ⟨.st [(0, 3), (1, 3), (2, 29)], 4, some (.agg #[.int .i64 0, .int .i64 0, .int .i64 0, .int .i64 0])⟩,
 zo,
 zp,
 zn,
 zp,
 zo,
 zo,
 zo,
 zn,
 zo,
 zo,
 zo,
 zo,
 ⟨.st [(0, 4), (1, 2)], 2, some (.agg #[.bool false, .int .i64 0])⟩,
 ⟨.st [(0, 4), (1, 2)], 2, some (.agg #[.bool false, .int .i64 0])⟩,
 ⟨.ar 13 295 2, 26, some (.agg #[.bool false, .int .i64 0, .bool false, .int .i64 0, .bool false, .int .i64 0, .bool false, .int .i64 0, .bool false, .int .i64 0, .bool false, .int .i64 0, .bool false, .int .i64 0, .bool false, .int .i64 0, .bool false, .int .i64 0, .bool false, .int .i64 0, .bool false, .int .i64 0, .bool false, .int .i64 0, .bool false, .int .i64 0])⟩,
 ⟨.ar 13 295 2, 26, some (.agg #[.bool false, .int .i64 0, .bool false, .int .i64 0, .bool false, .int .i64 0, .bool false, .int .i64 0, .bool false, .int .i64 0, .bool false, .int .i64 0, .bool false, .int .i64 0, .bool false, .int .i64 0, .bool false, .int .i64 0, .bool false, .int .i64 0, .bool false, .int .i64 0, .bool false, .int .i64 0, .bool false, .int .i64 0])⟩,
 ⟨.ar 13 297 26, 338, none⟩,
 ⟨.st [(0, 159), (5, 3), (6, 298)], 344, none⟩,
 ⟨.st [(0, 159), (5, 3), (6, 298)], 344, none⟩,
 zo,
 zo,
 zo,
 zo,
 zo,
 zo,
 zo,
 zo,
 zo,
 ⟨.st [(0, 3), (1, 2)], 2, some (.agg #[.int .i64 0, .int .i64 0])⟩,
 ⟨.st [(0, 3), (1, 2)], 2, some (.agg #[.int .i64 0, .int .i64 0])⟩,
 zo,
 zo,
 zo,
 zo,
 zo,
 ⟨.one, 1, some (.map none)⟩,
 zo,
 zo,
 zo,
 zo,
 ⟨.sl 126 5 40, 1, some (.slice none 0 0)⟩,
 zo,
 zo,
 zo,
 zo,
 zo,
 zo,
 zo,
 zo,
 zo,
 ⟨.int .u64, 1, some (.int .u64 0)⟩,
 zo,
 zo,
 zo,
 zo,
 ⟨.ar 5 123 3, 15, some (.agg #[.int .i64 0, .int .i64 0, .int .i64 0, .int .i64 0, .int .i64 0, .int .i64 0, .int .i64 0, .int .i64 0, .int .i64 0, .int .i64 0, .int .i64 0, .int .i64 0, .int .i64 0, .int .i64 0, .int .i64 0])⟩,
 ⟨.ar 5 337 15, 75, some (.agg #[.int .i64 0, .int .i64 0, .int .i64 0, .int .i64 0, .int .i64 0, .int .i64 0, .int .i64 0, .int .i64 0, .int .i64 0, .int .i64 0, .int .i64 0, .int .i64 0, .int .i64 0, .int .i64 0, .int .i64 0, .int .i64 0, .int .i64 0, .int .i64 0, .int .i64 0, .int .i64 0, .int .i64 0, .int .i64 0, .int .i64 0, .int .i64 0, .int .i64 0, .int .i64 0, .int .i64 0, .int .i64 0, .int .i64 0, .int .i64 0, .int .i64 0, .int .i64 0, .int .i64 0, .int .i64 0, .int .i64 0, .int .i64 0, .int .i64 0, .int .i64 0, .int .i64 0, .int .i64 0, .int .i64 0, .int .i64 0, .int .i64 0, .int .i64 0, .int .i64 0, .int .i64 0, .int .i64 0, .int .i64 0, .int .i64 0, .int .i64 0, .int .i64 0, .int .i64 0, .int .i64 0, .int .i64 0, .int .i64 0, .int .i64 0, .int .i64 0, .int .i64 0, .int .i64 0, .int .i64 0, .int .i64 0, .int .i64 0, .int .i64 0, .int .i64 0, .int .i64 0, .int .i64 0, .int .i64 0, .int .i64 0, .int .i64 0, .int .i64 0, .int .i64 0, .int .i64 0, .int .i64 0, .int .i64 0, .int .i64 0])⟩,
 ⟨.ar 5 337 15, 75, some (.agg #[.int .i64 0, .int .i64 0, .int .i64 0, .int .i64 0, .int .i64 0, .int .i64 0, .int .i64 0, .int .i64 0, .int .i64 0, .int .i64 0, .int .i64 0, .int .i64 0, .int .i64 0, .int .i64 0, .int .i64 0, .int .i64 0, .int .i64 0, .int .i64 0, .int .i64 0, .int .i64 0, .int .i64 0, .int .i64 0, .int .i64 0, .int .i64 0, .int .i64 0, .int .i64 0, .int .i64 0, .int .i64 0, .int .i64 0, .int .i64 0, .int .i64 0, .int .i64 0, .int .i64 0, .int .i64 0, .int .i64 0, .int .i64 0, .int .i64 0, .int .i64 0, .int .i64 0, .int .i64 0, .int .i64 0, .int .i64 0, .int .i64 0, .int .i64 0, .int .i64 0, .int .i64 0, .int .i64 0, .int .i64 0, .int .i64 0, .int .i64 0, .int .i64 0, .int .i64 0, .int .i64 0, .int .i64 0, .int .i64 0, .int .i64 0, .int .i64 0, .int .i64 0, .int .i64 0, .int .i64 0, .int .i64 0, .int .i64 0, .int .i64 0, .int .i64 0, .int .i64 0, .int .i64 0, .int .i64 0, .int .i64 0, .int .i64 0, .int .i64 0, .int .i64 0, .int .i64 0, .int .i64 0, .int .i64 0, .int .i64 0])⟩,
 zo,
 zo,
 zo,
 zo,
 zo]
theorem ty_ok : (tyList.zipIdx.all fun (ti, T) => tiChk Tryz.prog T ti) = true := by kernel_rfl
def tyTab : TTab Tryz.prog := ⟨tyList, ty_ok⟩
theorem mixed : Tryz.prog.follows .mixedOrders = true := by kernel_rfl
end Go.Proofs.YtnehaifgcegemaaGreat
namespace Go.Proofs.YtnehaifgcegemaaGreat
open Go Go.TH Go.ChangeShapes Go.WideShapes Go.ChangeAt Go.RowKit
set_option maxRecDepth 100000
section
variable {H : Type} {enc : TypeId × Value → H} {w : World}
theorem cells2 : Tryz.prog.cellsOf 2 = 1 := by kernel_rfl
theorem cells49 : Tryz.prog.cellsOf 49 = 2 := by kernel_rfl
theorem wf64 {z : Int} (h : (Lit.int .i64 z).wf = true) : in64 z := by
 simp [Lit.wf, IntKind.min, IntKind.max, IntKind.signed, IntKind.bits] at h
 unfold in64; omega
theorem rd_int {n : Nat} {c : List Value} {y : DataW H × List MemPlace} (h : DataW.trod enc Tryz.prog w 0 (fun _ => true) true n 2 c = some y) : ∃ z : Int, c = encI z ∧ in64 z := by
 obtain ⟨z, rfl, _, hw⟩ := DataW.trod_int Tryz.underlying2 h
 exact ⟨z, rfl, wf64 hw⟩
def InP (p : Int × Int) : Prop := in64 p.1 ∧ in64 p.2
theorem rd_two {n T : Nat} {f g : Field} (hT : Tryz.prog.underlying T = some (.struct #[f, g])) (hf : f.type = 2) (hg : g.type = 2) (hfo : f.offset = 0) (hgo : g.offset = 1) {c : List Value} {y : DataW H × List MemPlace} (hl : c.length = 2) (h : DataW.trod enc Tryz.prog w 0 (fun _ => true) true n T c = some y) : ∃ z : Int × Int, c = encP z ∧ InP z := by
 obtain ⟨y0, y1, m, _, _, h0, h1⟩ := trod_struct2 hT h
 rw [hf, cells2, hfo] at h0
 rw [hg, cells2, hgo] at h1
 match c, hl with
 | [a, b], _ =>
  simp at h0 h1
  obtain ⟨u, hu, i1⟩ := rd_int h0
  obtain ⟨v, hv, i2⟩ := rd_int h1
  simp [encI] at hu hv
  subst hu; subst hv
  exact ⟨(u, v), rfl, i1, i2⟩
theorem open_sl {α : Type} {en : α → List Value} {sz T e : Nat} {Q : α → Prop} {base : Nat} {v : Value} {d : DataW H} {ps : List MemPlace} (hT : Tryz.prog.underlying T = some (.slice e)) (hc : Tryz.prog.cellsOf e = sz) (hsz : 0 < sz)
 (hrd : ∀ n c y, c.length = sz → DataW.trod enc Tryz.prog w 0 (fun _ => true) true n e c = some y → ∃ z, c = en z ∧ Q z)
 (hv : Value.okWide Tryz.prog w .any base T v) (h : DataW.Trod enc Tryz.prog w 0 (fun _ => true) true T v d ps) :
 ∃ xs : List α, RdF en sz w.heap.size w v xs ∧ ∀ x ∈ xs, Q x := by
 obtain ⟨a0, len, cap, rfl⟩ := okWide_slice hT hv
 obtain ⟨fuel, hf⟩ := h
 obtain ⟨o, xs, ho, hr, hq⟩ := open_rd (en := en) (Q := Q) hT hc hsz hrd hf
 simp [Value.cells] at ho
 subst ho
 exact ⟨xs, hr, hq⟩
theorem open_pts {base : Nat} {v : Value} {d : DataW H} {ps : List MemPlace} (hv : Value.okWide Tryz.prog w .any base 45 v) (h : DataW.Trod enc Tryz.prog w 0 (fun _ => true) true 45 v d ps) : ∃ xs : List (Int × Int), RdF encP 2 w.heap.size w v xs ∧ ∀ p ∈ xs, InP p :=
 open_sl Tryz.underlying45 cells49 (by omega) (fun n c y hl hy => rd_two Tryz.underlying49 rfl rfl rfl rfl hl hy) hv h
end
end Go.Proofs.YtnehaifgcegemaaGreat
namespace Go.TH
open Go
section
variable {P : Program} {C : Cx P} {E : Env} {H : List HP}
section rules
variable {ops : Array Oper} {K : KP} {rest : List Oper} {d : Nat} {ty : TypeId} {pos : String} {af : Array Edge} {x y z : Operand} {T T' : TypeId}
end rules
theorem RdF.flat {α : Type} {enc : α → List Value} {sz : Nat} (he : EncOk enc sz) {v : Value} {xs : List α} (h : RdF enc sz C.B C.w0 v xs) : Cells C H (base v) (xs.flatMap enc) := by
 intro j u hu
 have hp := he.pos
 have hj : j < xs.length * sz := by rw [← he.flat_len]; exact (List.getElem?_eq_some_iff.1 hu).1
 have hi : j / sz < xs.length := Nat.div_lt_of_lt_mul (by rw [Nat.mul_comm]; exact hj)
 have hr : j % sz < sz := Nat.mod_lt _ hp
 have e : j / sz * sz + j % sz = j := by rw [Nat.mul_comm]; exact Nat.div_add_mod _ _
 have hx : xs[j / sz]? = some xs[j / sz] := by simp [hi]
 have hf := he.flat_get xs (j / sz) (j % sz) xs[j / sz] hx hr
 rw [e, hu] at hf
 have := h.cellNat (H := H) hx (j := j % sz) (u := u) hf.symm
 rwa [Addr.add_add, e] at this
end
end Go.TH
namespace Go.TH
open Go
section
variable {P : Program} {C : Cx P} {E : Env} {H : List HP}
section rules
variable {ops : Array Oper} {K : KP} {rest : List Oper} {d : Nat} {ty : TypeId} {pos : String} {af : Array Edge} {x y z : Operand} {T T' : TypeId}
theorem WO.makeMap (hN : Nat.blt d C.N = true)
 (h : ∀ b, WO C ops rest K ((d, .map (some b)) :: E) (pt b (.map #[] 0) :: H)) : WO C ops (⟨some d, .makeMap T none, ty, pos, af, none⟩ :: rest) K E H := by
 refine WO.step rfl rfl hN (XO.run (by simp) fun L a w hfr hi => ?_)
 refine ⟨.map (some w.heap.size), w.alloc (.map #[] 0), _, .inl ?_, h _, hi.alloc' _⟩
 have hr : (Instr.makeMap T none).run P w = .ok (.map (some w.heap.size)) (w.alloc (.map #[] 0)) := rfl
 simp [execOp, hr]
theorem WO.sliceArr {len e sz : Nat} {p : Addr} (hT : C.tt.ar? T = some (len, e, sz)) (hx : ev E x = some (.pointer (some p))) (hN : Nat.blt d C.N = true)
 (h : WO C ops rest K ((d, .slice (some p) len len) :: E) H) : WO C ops (⟨some d, .slice T x none none none, ty, pos, af, none⟩ :: rest) K E H :=
 WO.pure _ (by simp) (fun L a w hf hi => by
  simp [execOp, hf.eval hx, Instr.sliceAt, Instr.sureAddr, run_underlying (ArT.of hT).u, Instr.sliceBounds, run_sizeOf (ArT.of hT).size, Addr.add]) hN h
section copies
variable {ops : Array Oper} {K : KP} {rest : List Oper} {d : Nat} {ty : TypeId} {pos : String} {af : Array Edge} {x y : Operand} {T : TypeId}
end copies
end rules
theorem RdF.of_pt {α : Type} {enc : α → List Value} {b off n cap : Nat} {cs : List Value} {t : TypeId} {fr : Nat × Nat} {xs : List α} {H' L : List HP} {w : World} (he : ∀ a, ∃ u, enc a = [u]) (p : Pick (pt b (.cells cs.toArray t fr)) H H') (hi : Inv C.w0 C.M (L ++ H) w) (hn : xs.length = n) (hl : n ≤ 9223372036854775807)
 (h : ∀ (i : Nat) (x : α), xs[i]? = some x → ∃ u, enc x = [u] ∧ lget cs (off + i) = some u) : RdF enc 1 w.heap.size w (.slice (some ⟨b, off, none⟩) n cap) xs := by
 have hlk := (hi.look (p.app L)).1
 have hlt : b < w.heap.size := (Array.getElem?_eq_some_iff.1 hlk).1
 refine ⟨⟨by omega, some ⟨b, off, none⟩, cap, by rw [hn], fun _ => ⟨_, _, rfl⟩⟩, fun _ => hlt, fun i x hx j u hu => ?_⟩
 obtain ⟨v, hv, hc⟩ := h i x hx
 rw [hv] at hu
 match j with
 | 0 =>
  simp at hu
  subst hu
  rw [lget_eq] at hc
  have e : (((base (.slice (some ⟨b, off, none⟩) n cap)).add (i * 1)).add 0) = ⟨b, off + i, none⟩ := by
   rw [Nat.mul_one]
   show (Addr.add ⟨b, off, none⟩ i).add 0 = _
   unfold Addr.add; split <;> simp_all
  rw [e]
  simp [World.cell?, hlk, hc]
 | j + 1 => simp at hu
end
end Go.TH
namespace Go.TH
open Go
section
variable {P : Program} {C : Cx P} {E : Env} {H : List HP}
variable {ops : Array Oper} {K : KP} {rest : List Oper} {d : Nat} {ty : TypeId} {pos : String} {af : Array Edge} {x y z : Operand} {T T' : TypeId}
end
end Go.TH
namespace Go.TH
open Go
theorem addr_add_add (a : Addr) (m n : Nat) : (a.add m).add n = a.add (m + n) := by
 unfold Addr.add
 split <;> split <;> simp_all <;> (try omega)
section
variable {P : Program} {C : Cx P} {E : Env} {H : List HP}
variable {ops : Array Oper} {K : KP} {rest : List Oper} {d : Nat} {ty : TypeId} {pos : String} {af : Array Edge} {x y : Operand} {T : TypeId}
def bv : Option Value → Nat → Nat → Prop
 | none, dfl, n => n = dfl
 | some v, _, n => ∃ k, v = .int k (n : Int)
theorem run_bound {k : IntKind} {q y : Nat} {code : BoundsCode} {w : World} (hq : q ≤ y) : (Instr.sliceBound (.int k (q : Int)) y code).run P w = .ok q w := by
 have hq' : (q : Int) ≤ (y : Int) := by omega
 simp [Instr.sliceBound, asIntOf, hq', go_sem]
theorem run_bounds {n c lo hi mx : Nat} {L0 H0 M0 : Option Value} {w : World} (hl : bv L0 0 lo) (hh : bv H0 n hi) (hm : bv M0 c mx) (hmh : M0.isSome = true → H0.isSome = true) (h1 : lo ≤ hi) (h2 : hi ≤ mx) (h3 : mx ≤ c) :
 (Instr.sliceBounds true n c L0 H0 M0).run P w = .ok (lo, hi, mx) w := by
 cases L0 <;> cases H0 <;> cases M0 <;> simp only [bv] at hl hh hm <;> first
  |(have := hmh rfl; simp at this; done)
  | skip
 ·subst hl; subst hh; subst hm; simp [Instr.sliceBounds]
 ·obtain ⟨k, rfl⟩ := hh; subst hl; subst hm; simp [Instr.sliceBounds, run_bound h2]
 ·obtain ⟨k, rfl⟩ := hh; obtain ⟨k2, rfl⟩ := hm; subst hl; simp [Instr.sliceBounds, run_bound h2, run_bound h3]
 ·obtain ⟨k, rfl⟩ := hl; subst hh; subst hm; simp [Instr.sliceBounds, run_bound h1]
 ·obtain ⟨k, rfl⟩ := hl; obtain ⟨k2, rfl⟩ := hh; subst hm; simp [Instr.sliceBounds, run_bound h1, run_bound h2]
 ·obtain ⟨k, rfl⟩ := hl; obtain ⟨k2, rfl⟩ := hh; obtain ⟨k3, rfl⟩ := hm; simp [Instr.sliceBounds, run_bound h1, run_bound h2, run_bound h3]
def bnd (E : Env) : Option Operand → Nat → Nat → Prop
 | none, dfl, n => n = dfl
 | some x, _, n => ∃ k, ev E x = some (.int k (n : Int))
theorem bnd.no {n : Nat} : bnd E none n n := rfl
theorem bnd.at {x : Operand} {k : IntKind} {dfl n : Nat} (h : ev E x = some (.int k (n : Int))) : bnd E (some x) dfl n := ⟨k, h⟩
theorem bnd.bv {N : Nat} {ac : Act} (hf : Fr N E ac) {o : Option Operand} {dfl n : Nat} (h : bnd E o dfl n) : bv (o.map ac.eval) dfl n := by
 cases o with
 | none => exact h
 | some x => obtain ⟨k, hk⟩ := h; exact ⟨k, hf.eval hk⟩
def ofs (a : Option Addr) (o : Nat) : Option Addr := a.map (·.add o)
theorem WO.slSl {x : Operand} {a : Option Addr} {n c lo hi mx e sz by' : Nat} {L0 H0 M0 : Option Operand} (hT : C.tt.sl? T = some (e, sz, by')) (hx : ev E x = some (.slice a n c))
 (hl : bnd E L0 0 lo) (hh : bnd E H0 n hi) (hm : bnd E M0 c mx) (hmh : M0.isSome = true → H0.isSome = true) (h1 : lo ≤ hi) (h2 : hi ≤ mx) (h3 : mx ≤ c) (hN : Nat.blt d C.N = true)
 (h : WO C ops rest K ((d, .slice (if mx = lo then a else ofs a (lo * sz)) (hi - lo) (mx - lo)) :: E) H) : WO C ops (⟨some d, .slice T x L0 H0 M0, ty, pos, af, none⟩ :: rest) K E H :=
 WO.pure _ (by simp) (fun L ac w hf hi' => by
  have hST := SlT.of hT
  have hsz : (sizeOf e).run P w = .ok sz w := run_sizeOf (by simpa [szv] using hST.size)
  have hb := run_bounds (P := P) (w := w) (hl.bv hf) (hh.bv hf) (hm.bv hf) (by simpa using hmh) h1 h2 h3
  simp [execOp, hf.eval hx, Instr.sliceAt, Instr.slice, run_underlying hST.u, hsz, ofs, hb]) hN h
theorem RdF.sub {α : Type} {enc : α → List Value} {sz B : Nat} {w : World} {a : Option Addr} {n c lo hi mx : Nat} {xs : List α} (h : RdF enc sz B w (.slice a n c) xs) (h1 : lo ≤ hi) (h2 : hi ≤ mx) (h3 : hi ≤ n) :
 RdF enc sz B w (.slice (if mx = lo then a else ofs a (lo * sz)) (hi - lo) (mx - lo)) ((xs.drop lo).take (hi - lo)) := by
 obtain ⟨hle, a', c', he, hb⟩ := h.sl
 have e1 : a' = a := by injection he with e1 e2 e3; exact e1.symm
 have e2 : n = xs.length := by injection he
 subst e1; subst e2
 have hlen : ((xs.drop lo).take (hi - lo)).length = hi - lo := by rw [List.length_take, List.length_drop]; omega
 rcases Nat.lt_or_ge lo hi with g | g
 ·obtain ⟨b, o, rfl⟩ := hb (by omega)
  rw [if_neg (by omega)]
  refine ⟨⟨by omega, _, _, by rw [hlen], fun _ => ?_⟩, fun _ => ?_, fun i x hx j u hu => ?_⟩
  ·exact ⟨b, o + lo * sz, by simp [ofs, Addr.add]⟩
  ·have := h.blk (by omega)
   simpa [base, ofs, addr_add_block] using this
  ·have hi2 : i < hi - lo := by
    have := (List.getElem?_eq_some_iff.1 hx).1; omega
   rw [List.getElem?_take_of_lt hi2, List.getElem?_drop] at hx
   have := h.cell _ x hx j u hu
   have e : (base (.slice (ofs (some ⟨b, o, none⟩) (lo * sz)) (hi - lo) (mx - lo))).add (i * sz) = (base (.slice (some ⟨b, o, none⟩) xs.length c)).add ((lo + i) * sz) := by
    show (Addr.add (Addr.add ⟨b, o, none⟩ (lo * sz)) (i * sz)) = Addr.add ⟨b, o, none⟩ ((lo + i) * sz)
    rw [addr_add_add, Nat.add_mul]
   rw [e]; exact this
 ·have e0 : hi - lo = 0 := by omega
  rw [e0]
  refine ⟨⟨by simp, _, _, rfl, fun h => by simp at h⟩, fun h => by simp at h, fun i x hx => by simp at hx⟩
theorem flat_rep {α : Type} (n : Nat) (z : List α) (i : Nat) (hz : 0 < z.length) (h : i < n * z.length) : ((List.replicate n z).flatten)[i]? = z[i % z.length]? := by
 induction n generalizing i with
 | zero => omega
 | succ n ih =>
  rw [List.replicate_succ, List.flatten_cons]
  rcases Nat.lt_or_ge i z.length with g | g
  ·rw [List.getElem?_append_left g, Nat.mod_eq_of_lt g]
  ·rw [List.getElem?_append_right g, ih (i - z.length) (by rw [Nat.add_mul] at h; omega), Nat.mod_eq_sub_mod g]
theorem made_eq (z : List Value) (n : Nat) (hz : 0 < z.length) : madeCells z.toArray (n * z.length) = ((List.replicate n z).flatten).toArray := by
 have hl : ((List.replicate n z).flatten).length = n * z.length := by simp [List.length_flatten]
 apply Array.ext
 ·rw [size_madeCells]; simp [hl]
 ·intro j h1 h2
  rw [size_madeCells] at h1
  have := flat_rep n z j hz h1
  have hm : j % z.length < z.length := Nat.mod_lt _ hz
  rw [List.getElem?_eq_getElem (by omega), List.getElem?_eq_getElem hm] at this
  injection this with this
  simp only [madeCells, Array.getElem_map, Array.getElem_range, List.size_toArray, List.getElem_toArray]
  rw [this]
  simp [hm]
theorem WO.makeOwN {e sz by' : Nat} {n : Nat} {zv : Value} {zs : List Value} {k k' : IntKind} (hT : C.tt.sl? T = some (e, sz, by')) (hz : C.tt.z? e = some zv) (hc : zv.cells = zs.toArray) (hl : zs.length = sz) (hp : 0 < sz) (hx : ev E x = some (.int k (n : Int))) (hy : ev E y = some (.int k' (n : Int)))
 (hb : by' * n ≤ 281474976710656) (h63 : n ≤ 9223372036854775807) (hN : Nat.blt d C.N = true)
 (h : ∀ b, WO C ops rest K ((d, .slice (some ⟨b, 0, none⟩) n n) :: E) (OwC e sz (.slice (some ⟨b, 0, none⟩) n n) n ((List.replicate n zs).flatten) :: H)) : WO C ops (⟨some d, .makeSlice T x y, ty, pos, af, none⟩ :: rest) K E H := by
 refine WO.step rfl rfl hN (XO.run (by simp) fun L a w hf hi => ?_)
 obtain ⟨i, hi1, hi2, hi3, hi4⟩ := sl_info hT hz
 have hb' : (i.bytes : Int) * (n : Int) ≤ 281474976710656 := by
  have : ((by' * n : Nat) : Int) ≤ 281474976710656 := by omega
  rw [hi3]; rwa [Int.natCast_mul] at this
 have hr := run_make (P := P) w T e i zv (SlT.of hT).u hi1 hi4 k k' n n (by omega) (Int.le_refl _) hb' (by omega)
 simp only [Int.toNat_natCast] at hr
 have em : madeCells zv.cells (n * i.size) = ((List.replicate n zs).flatten).toArray := by
  rw [hi2, hc, ← hl]; exact made_eq zs n (by omega)
 refine ⟨.slice (some ⟨w.heap.size, 0, none⟩) n n, w.alloc (.cells (madeCells zv.cells (n * i.size)) e), OwC e sz (.slice (some ⟨w.heap.size, 0, none⟩) n n) n ((List.replicate n zs).flatten) :: H, .inl ?_, h _, ?_⟩
 ·simp only [execOp, hf.eval hx, hf.eval hy, Sem.run_bind, hr]; rfl
 ·have h2 := hi.alloc' (.cells (madeCells zv.cells (n * i.size)) e)
  rw [em] at h2 ⊢
  refine OwC.shut (by simp [List.length_flatten, hl]) (Nat.le_refl _) (by simpa [maxLen] using h63) (by simp [List.length_flatten, hl]) ?_ h2
  exact List.take_of_length_le (by simp [List.length_flatten, hl])
theorem WO.makeEN {α : Type} {enc : α → List Value} {e sz by' : Nat} {n : Nat} {z : α} {zv : Value} {k k' : IntKind} (he : EncOk enc sz) (hT : C.tt.sl? T = some (e, sz, by')) (hz : C.tt.z? e = some zv) (hc : zv.cells = (enc z).toArray) (hx : ev E x = some (.int k (n : Int))) (hy : ev E y = some (.int k' (n : Int)))
 (hb : by' * n ≤ 281474976710656) (h63 : n ≤ 9223372036854775807) (hN : Nat.blt d C.N = true)
 (h : ∀ b, WO C ops rest K ((d, .slice (some ⟨b, 0, none⟩) n n) :: E) (OwE enc e sz (.slice (some ⟨b, 0, none⟩) n n) (List.replicate n z) :: H)) : WO C ops (⟨some d, .makeSlice T x y, ty, pos, af, none⟩ :: rest) K E H := by
 refine WO.makeOwN hT hz hc (he.len z) he.pos hx hy hb h63 hN fun b => ?_
 have := h b
 unfold OwE at this
 rw [List.length_replicate, show (List.replicate n z).flatMap enc = (List.replicate n (enc z)).flatten by rw [List.flatMap_def, List.map_replicate]] at this
 exact this
theorem run_copy_rowN {P : Program} (w : World) (dT sT ty elem : TypeId) (g o dLen dCap : Nat) (a : Addr) (sLen sCap sz : Nat) (cur : Array Value) (t : TypeId) (cs : List Value)
 (hu : P.underlying dT = some (.slice elem)) (hs : (P.info? elem).map (·.size) = some sz)
 (hg : w.heap[g]? = some (.cells cur t (0, 0))) (hn : cs.length = Nat.min sLen dLen * sz)
 (hsrc : ∀ j v, cs[j]? = some v → w.cell? (a.add j) = some v) (hfit : o + cs.length ≤ cur.size) (h1 : ∀ v ∈ cs, v.oneCell' = true) :
 (Builtin.copy_ #[dT, sT] ty #[.slice (some ⟨g, o, none⟩) dLen dCap, .slice (some a) sLen sCap]).run P w =
   .ok (goInt (Nat.min sLen dLen)) (w.setRow g (cur.toList.take o ++ cs ++ cur.toList.drop (o + cs.length)).toArray) := by
 have hl := run_loadCells_list (P := P) w a cs hsrc
 have hst := run_storeCells_at P g o t cs 0 cur w hg (by simpa using hfit) h1
 cases hq : P.info? elem with
 | none => simp [hq] at hs
 | some i =>
  have hi : i.size = sz := by simpa [hq] using hs
  simp [Builtin.copy_, run_underlying hu, Builtin.lenOf, Builtin.firstCells, sizeOf, typeInfo, hq, hi, ← hn, hl, hst]
theorem WO.copyOwN {e sz by' n m : Nat} {v u : Value} {cs ws : List Value} {H' : List HP} (hT : C.tt.sl? T = some (e, sz, by')) (hx : ev E x = some v) (hy : ev E y = some u) (p : Pick (OwC e sz v n cs) H H') (hS : IsSl u m) (hnm : n ≤ m) (hn : 0 < n)
 (hc : Cells C H (base u) ws) (hl : ws.length = n * sz) (h1 : ∀ c ∈ ws, c.oneCell' = true) (hN : Nat.blt d C.N = true)
 (h : WO C ops rest K ((d, .int .i64 (n : Int)) :: E) (OwC e sz v n ws :: H')) : WO C ops (⟨some d, .call ⟨.builtin .copy, #[x, y], #[T, T]⟩, ty, pos, af, none⟩ :: rest) K E H := by
 refine WO.step rfl rfl hN (XO.run (by simp) fun L a w hf hi => ?_)
 obtain ⟨hcl, hcase⟩ := OwC.open (hi.pickL p)
 rcases hcase with ⟨_, rfl, _⟩ | ⟨g, cap, cur, rfl, q1, q2, q3, q4, hv⟩
 ·omega
 obtain ⟨_, ao, c, rfl, hao⟩ := hS
 obtain ⟨gg, oo, rfl⟩ := hao (by omega)
 have hST := SlT.of hT
 have hlook := (hv.look (b := g) (o := .cells cur.toArray e (0, 0)) ((Pick.head).app L)).1
 have hmin : Nat.min m n = n := Nat.min_eq_right hnm
 have hle : n * sz ≤ cap * sz := Nat.mul_le_mul_right _ q1
 have hrun := run_copy_rowN (P := P) w T T ty e g 0 n cap ⟨gg, oo, none⟩ m c sz cur.toArray e ws hST.u hST.size hlook (by rw [hmin, hl])
  (fun j v' hj => by have := hc j v' hj L w hi; simpa [base] using this) (by simp [q3, hl]; omega) h1
 have hcur : ((cur.toArray.toList.take 0 ++ ws ++ cur.toArray.toList.drop (0 + ws.length)).toArray) = (ws ++ cur.drop (n * sz)).toArray := by simp [hl]
 rw [hcur, hmin] at hrun
 refine ⟨_, w.setRow g (ws ++ cur.drop (n * sz)).toArray, OwC e sz (.slice (some ⟨g, 0, none⟩) n cap) n ws :: H', .inl ?_, h, ?_⟩
 ·simp only [execOp, resolve, hf.eval hx, hf.eval hy]
  simp [hf.eval hx, hf.eval hy, Deferred.ofValue, invoke, builtin, hrun, goInt]
 ·have h2 := Inv.set (b := g) (o := .cells cur.toArray e (0, 0)) (o' := .cells (ws ++ cur.drop (n * sz)).toArray e (0, 0)) (w' := w.setRow g (ws ++ cur.drop (n * sz)).toArray) hv (Pick.mem) rfl rfl rfl (by simp [World.setRow]) (setRow_same hlook) (fun k hk => setRow_other hk)
  have h3 := h2.perm (List.perm_middle (l₁ := L) (l₂ := H')).symm
  exact OwC.shut (by simpa using hl) q1 q2 (by simp [q3, hl]; omega) (by simp [← hl]) h3
theorem WO.copyEN {α : Type} {enc : α → List Value} {e sz by' m : Nat} {v u : Value} {xs ys : List α} {H' : List HP} (he : EncOk enc sz) (hT : C.tt.sl? T = some (e, sz, by')) (hx : ev E x = some v) (hy : ev E y = some u) (p : Pick (OwE enc e sz v xs) H H') (hS : IsSl u m) (hnm : xs.length ≤ m) (hn : 0 < xs.length)
 (hl : ys.length = xs.length) (hc : Cells C H (base u) (ys.flatMap enc)) (hN : Nat.blt d C.N = true)
 (h : WO C ops rest K ((d, .int .i64 (xs.length : Int)) :: E) (OwE enc e sz v ys :: H')) : WO C ops (⟨some d, .call ⟨.builtin .copy, #[x, y], #[T, T]⟩, ty, pos, af, none⟩ :: rest) K E H := by
 refine WO.copyOwN hT hx hy p hS hnm hn hc (by rw [he.flat_len, hl]) (fun c hc' => ?_) hN ?_
 ·obtain ⟨x, _, hx'⟩ := List.mem_flatMap.1 hc'
  exact he.one x c hx'
 ·unfold OwE at h; rw [hl] at h; exact h
theorem run_partN {ft fo n : Nat} {vs us : List Value} {w : World} (hO : AT P ft n) (hv : (vs.drop fo).take n = us) : (part ft vs.toArray fo).run P w = .ok (.agg us.toArray) w := by
 simp only [part, Sem.run_bind, run_isAgg hO.agg, Result.andThen_ok, if_true, run_sizeOf hO.size]
 subst hv
 simp
theorem WO.fieldN {f fo ft n : Nat} {vs us : List Value} (hx : ev E x = some (.agg vs.toArray)) (hT : C.tt.fd? T f = some (fo, ft)) (hO : C.tt.ag? ft = some n) (hv : (vs.drop fo).take n = us) (hN : Nat.blt d C.N = true)
 (h : WO C ops rest K ((d, .agg us.toArray) :: E) H) : WO C ops (⟨some d, .field T x f, ty, pos, af, none⟩ :: rest) K E H :=
 WO.pure (.agg us.toArray) (by simp) (fun L a w hf hi => by
  have h1 := (FT.of hT).at_
  unfold fieldOf at h1
  cases hu : P.underlying T with
  | none => rw [hu] at h1; cases h1
  | some ds =>
   rw [hu] at h1
   cases ds <;> simp only [] at h1 <;> try (cases h1; done)
   rename_i fs
   cases hfs : fs[f]? with
   | none => rw [hfs] at h1; cases h1
   | some fl =>
    rw [hfs] at h1
    simp at h1
    obtain ⟨h2, h3⟩ := h1
    have hr : (Instr.field T (.agg vs.toArray) f).run P w = .ok (.agg us.toArray) w := by
     simp only [Instr.field, Sem.run_bind, run_underlying hu, Result.andThen_ok]
     simp only [hfs, asAgg, Sem.run_bind, Sem.run_pure, Result.andThen_ok]
     rw [h2, h3]
     exact run_partN (AT.of hO) hv
    simp [execOp, hf.eval hx, hr]) hN h
end
end Go.TH
namespace Go.TH
open Go
section
variable {P : Program}
def CtH (P : Program) (f : FuncId) (vs : List Value) (w : World) (Hp : List HP) (B : Nat) (Post : Value → List HP → Prop) : Prop :=
 ∀ M, (∀ b ∈ M, B ≤ b) → Inv w M Hp w → Ct P f vs.toArray w fun v w' => ∃ Hq, Post v Hq ∧ Inv w M Hq w'
theorem CtH.of {f : FuncId} {fn : Func} {c : Code} {vs : List Value} {w : World} {B : Nat} {Hp : List HP} {Pst : Value → List HP → Prop} (hm : P.follows .mixedOrders = true) (tt : TTab P) (hB : B ≤ w.heap.size)
 (hf : P.funcs[f]? = some fn) (hb : fn.body = some c) (ha : Nat.ble vs.length fn.ntmps = true)
 (h : ∀ M (hM : ∀ b ∈ M, B ≤ b), W (itCx hm tt fn.ntmps w M B hB hM) c (fin (itCx hm tt fn.ntmps w M B hB hM) fn Pst) (enumE 0 vs) Hp) : CtH P f vs w Hp B Pst := fun M hM hi =>
 Ct.of_W (M := M) (Hp := Hp) (itCx hm tt fn.ntmps w M B hB hM) rfl rfl rfl hf hb rfl (by simpa [itCx] using Nat.ble_eq.mp ha) (fun t v hv => by
  have := lk_enumE vs 0 t v hv
  simpa using this.2) (h M hM) hi
theorem CtH.mono {f : FuncId} {vs : List Value} {w : World} {Hp Hp' : List HP} {B : Nat} {Post Post' : Value → List HP → Prop} (h : CtH P f vs w Hp B Post) (hp : ∀ h, sat Hp' h → sat Hp h) (hq : ∀ v Hq, Post v Hq → ∃ Hq', Post' v Hq' ∧ ∀ h, sat Hq h → sat Hq' h) : CtH P f vs w Hp' B Post' := fun M hM hi =>
 (h M hM (Inv.chg (L := []) hi hp)).mono fun _ _ ⟨Hq, p, hi'⟩ => by
   obtain ⟨Hq', p', hh⟩ := hq _ Hq p
   exact ⟨Hq', p', Inv.chg (L := []) hi' hh⟩
variable {C : Cx P} {E : Env} {H : List HP}
variable {ops : Array Oper} {K : KP} {rest : List Oper} {d : Nat} {ty : TypeId} {pos : String} {af : Array Edge} {x : Operand} {xs : List Operand} {ats : Array TypeId} {vs : List Value} {f : FuncId}
def YieldB (P : Program) (B : Nat) (wr : World) (l : Nat) (args : Array Value) (go : Bool) (Hp Hq : List HP) : Prop :=
 ∀ w M', B ≤ w.heap.size → (∀ k, k < B → w.heap[k]? = wr.heap[k]?) → (∀ b ∈ M', B ≤ b) → Inv w M' Hp w →
  ∃ f tmps assign body, (Instr.yield l args).run P w = .ok (.round l f tmps assign body) w ∧ RoundIn Fence.wide 0 P l f tmps assign body w (fun e w' => e = .returned (.bool go) ∧ Inv w M' Hq w')
theorem XO.yieldB {X : Value → List HP → Prop} {dst : Option Tmp} {l : Nat} {go : Bool} {Hp Hr Hq : List HP}
 (hf : ev E x = some (.func (.yield l) #[] #[])) (hxs : evs E xs = some vs) (hH : Sub H (Hp ++ Hr)) (hy : YieldB P C.B C.w0 l vs.toArray go Hp Hq) (h : X (.bool go) (Hq ++ Hr)) : XO C ⟨dst, .call ⟨.value x, xs.toArray, ats⟩, ty, pos, af, none⟩ X E H := by
 intro L a w hfr hi
 refine ⟨fun _ _ => trivial, ?_⟩
 rw [Oper.semAt_eq _ _ _ (by simp)]
 have hi2 : Inv C.w0 C.M (Hp ++ (L ++ Hr)) w := (hi.sub ((hH.app L).trans (Sub.rot L Hp Hr)))
 obtain ⟨M', h1, h2, s, pa, pb, hM⟩ := handed hi2
 have hMB : ∀ b ∈ M', C.B ≤ b := fun b hb => by
  rcases (handed_own s hM b hb).1 with h | h
  ·exact Nat.le_trans C.hB h
  ·exact C.hM b h
 obtain ⟨f, tmps, assign, body, hr, hround⟩ := hy w M' (Nat.le_trans C.hB hi.size) hi.keepB hMB (handed_start s pa hM)
 have hev : (execOp a.eval ⟨dst, .call ⟨.value x, xs.toArray, ats⟩, ty, pos, af, none⟩).run P w = .ok (.round l f tmps assign body) w := by
  have := evs_map hfr hxs
  simp [execOp, resolve, hfr.eval hf, Deferred.ofValue, invoke, this, hr]
 rw [hev]
 refine uponIn_round_of (r := C.ro) rfl rfl hround ?_
 rintro e w' ⟨rfl, hi'⟩
 refine ⟨_, rfl, .bool go, Hq ++ Hr, h, rfl, ?_⟩
 have := handed_back (hi.sub .nil) s pb hM hi'
 exact this.sub (Sub.rot' L Hq Hr)
theorem YieldB.one {B : Nat} {wr : World} {l : Nat} {args : Array Value} {go : Bool} {A : HP} {Hp Hq : List HP} (h : YieldB P B wr l args go (A :: Hp) Hq) : YieldB P B wr l args go [A, sat Hp] [sat Hq] := fun w M' h1 h2 h3 h4 => by
 have e : Inv w M' (A :: Hp) w := by
  have := Inv.chg (L := [A]) h4 (sat_many (Hs := Hp) (H := []))
  simpa using this
 obtain ⟨f, tmps, as9, body, hr, hd⟩ := h w M' h1 h2 h3 e
 refine ⟨f, tmps, as9, body, hr, RoundIn.mono hd ?_⟩
 rintro e w' ⟨rfl, hi⟩
 refine ⟨rfl, ?_⟩
 have := Inv.chg (L := []) (H := Hq ++ []) (by simpa using hi) (sat_one (Hs := Hq) (H := []))
 simpa using this
theorem YieldB.agree {B : Nat} {wr w0 : World} {l : Nat} {args : Array Value} {go : Bool} {Hp Hq : List HP} (h : YieldB P B wr l args go Hp Hq) (hk : ∀ k, k < B → w0.heap[k]? = wr.heap[k]?) : YieldB P B w0 l args go Hp Hq := fun w M' h1 h2 h3 h4 =>
 h w M' h1 (fun k hlt => by rw [h2 k hlt, hk k hlt]) h3 h4
theorem WO.yieldB {l : Nat} {go : Bool} {A1 A2 A' : HP} {H1 H' : List HP} (hx : ev E x = some (.func (.yield l) #[] #[])) (hxs : evs E xs = some vs) (p : Pick A1 H H1) (q : Pick A2 H1 H') (hy : YieldB P C.B C.w0 l vs.toArray go [A1, A2] [A']) (hN : Nat.blt d C.N = true)
 (h : WO C ops rest K ((d, .bool go) :: E) (A' :: H')) : WO C ops (⟨some d, .call ⟨.value x, xs.toArray, ats⟩, ty, pos, af, none⟩ :: rest) K E H :=
 WO.step rfl rfl hN (XO.yieldB (Hp := [A1, A2]) (Hr := H') (Hq := [A']) hx hxs (.cons p (.cons q (Sub.refl _))) hy h)
inductive Jmp where
 | ret
 | exit (id : Nat)
def Jmp.ex : Jmp → Exit
 | .ret => .ret
 | .exit id => .exit id
def Jmp.code : Jmp → Code
 | .ret => .ret
 | .exit id => .exit id
theorem Jmp.round {F : Fence} {l : Nat} {R : Ending → World → Prop} (j : Jmp) {a : Act} {w : World} (h : ∃ v w', (Instr.endRound l (some j.code)).run P w = .ok v w' ∧ R (.returned v) w') : roundPost P l R j.ex a w := by
 cases j <;> exact h
theorem Jmp.run {F : Fence} {n : Nat} {Q : Exit → Act → World → Prop} (j : Jmp) {a : Act} {w : World} (h : Q j.ex a w) : (j.code).wpIn F n P Q a w := by
 cases j
 ·exact wpIn_ret h
 ·exact wpIn_exit h
def endR (go : Bool) (j : Jmp) (H' : List HP) : Post := fun e _ H3 => e = (if go then .normal else j.ex) ∧ ∀ h, sat H3 h → sat H' h
theorem endR.go {go : Bool} {j : Jmp} {H' H3 : List HP} {E3 : Env} (h : go = true) (s : ∀ h, sat H3 h → sat H' h) : endR go j H' .normal E3 H3 := ⟨by rw [h]; rfl, s⟩
end
section
variable {P : Program} {C : Cx P} {E : Env} {H : List HP}
theorem W.rangeFuncB {α : Type} {g : Operand} {p : Tmp} {assign body : Code} {Q : Post} {f : FuncId} {captured : List Value} (j : Jmp) (Hit : List HP) (HI : Nat → List HP) (xs : List α) (G : α → Value → HP) (last : Nat) (hro : C.ro = none) (hN : Nat.blt p C.N = true)
 (hg : ev E g = some (.func (.func f) #[] captured.toArray)) (hcall : ∀ (args : Array Value) (w : World), (callFunc f args).run P w = .ok (.enter f args) w)
 (hH : Sub H (Hit ++ HI 0))
 (hiter : ∀ (l : Nat) (Hc : Nat → List HP), (∀ k x v, xs[k]? = some x → k ≤ last → YieldB P C.B C.w0 l #[v] (bl (k < last)) (G x v :: Hc k) (Hc (k + 1))) →
   ∀ w M', C.B ≤ w.heap.size → (∀ k, k < C.B → w.heap[k]? = C.w0.heap[k]?) → (∀ b ∈ M', C.B ≤ b) → Inv w M' (Hit ++ Hc 0) w → Ct P f (#[.func (.yield l) #[] #[]] ++ captured.toArray) w fun _ w' => Inv w M' (Hit ++ Hc (min xs.length (last + 1))) w')
 (hround : ∀ (l : Nat) (w : World) (M : List Nat) (hB : C.B ≤ w.heap.size) (hM : ∀ b ∈ M, C.B ≤ b), (∀ k, k < C.B → w.heap[k]? = C.w0.heap[k]?) → ∀ k x v, xs[k]? = some x → k ≤ last →
   W (rdCx C l w M hB hM) assign (thn (fun E2 H2 => W (rdCx C l w M hB hM) body (endR (bl (k < last)) j (HI (k + 1))) E2 H2) (fun _ _ _ => False)) ((p, v) :: E) (G x v :: HI k))
 (h1 : xs.length ≤ last → Q .normal E (Hit ++ HI xs.length)) (h2 : last < xs.length → W C j.code Q E (Hit ++ HI (last + 1))) : W C (.rangeFunc g #[p] assign body) Q E H := by
 intro L ds a w hs
 have hF : C.F = Fence.wide := by unfold Cx.F; rw [hro]; rfl
 rw [hF]
 refine wpIn_rangeFunc ?_
 intro fn hfn
 obtain ⟨rec, hrec⟩ : ∃ rec : LoopState → Option Code → Loop, rec = fun st pe => { state := st, pending := pe, fn, tmps := a.tmps, params := #[p], assign, body, defers := w.heap.size } := ⟨_, rfl⟩
 obtain ⟨W1, hW1⟩ : ∃ W1, (w.alloc (.deferred (some []))).alloc (.loop (rec .ready none)) = W1 := ⟨_, rfl⟩
 let D := w.heap.size
 let l := w.heap.size + 1
 obtain ⟨rk, hrk⟩ : ∃ rk : Nat → Loop, rk = fun k => if k ≤ last then rec .ready none else rec .done (some j.code) := ⟨_, rfl⟩
 have rk0 : rk 0 = rec .ready none := by rw [hrk]; simp
 have hinv1 : Inv C.w0 C.M ((((D :: ds).map ptd) ++ L) ++ ((Hit ++ (pt l (.loop (rk 0)) :: HI 0)))) W1 := by
  rw [rk0]
  have i1 := hs.inv.sub (Sub.app hH _)
  have i2 := i1.alloc (.deferred (some []))
  have i3 := i2.alloc (.loop (rec .ready none))
  rw [hW1] at i3
  have e : (w.alloc (.deferred (some []))).heap.size = l := by simp [l]
  rw [e] at i3
  refine i3.perm ?_
  have q1 : (pt l (.loop (rec .ready none)) :: ptd D :: ((ds.map ptd ++ L) ++ (Hit ++ HI 0))).Perm (pt l (.loop (rec .ready none)) :: ((((D :: ds).map ptd) ++ L ++ Hit) ++ HI 0)) := by
   simp [List.append_assoc]
  refine q1.trans ?_
  have q2 := (List.perm_middle (a := pt l (.loop (rec .ready none))) (l₁ := ((D :: ds).map ptd) ++ L ++ Hit) (l₂ := HI 0)).symm
  simpa [List.append_assoc] using q2
 refine ⟨l, [{ target := .collected D, args := #[] }], W1, { target := .fn (.func f) captured.toArray, args := #[.func (.yield l) #[] #[]] }, W1, f, #[.func (.yield l) #[] #[]] ++ captured.toArray, W1, ?_, ?_, ?_, ?_, fun h => by simp [Fence.wide] at h, ?_⟩
 ·rw [← hW1, hrec]; exact run_enterLoop_outer _ _ _ _ _
 ·simp only [resolve, hs.fr.eval hg]
  simp [go_sem, Deferred.ofValue, Act.eval]
 ·intro f' hf'; trivial
 ·simp [invoke, hcall]
 ·
  let Hc : Nat → List HP := fun k => pt l (.loop (rk k)) :: HI k
  have hi2 : Inv C.w0 C.M ((Hit ++ Hc 0) ++ (((D :: ds).map ptd) ++ L)) W1 := hinv1.perm List.perm_append_comm
  obtain ⟨M', h1', h2', s, pa, pb, hM⟩ := handed hi2
  have hMB : ∀ b ∈ M', C.B ≤ b := fun b hb => by
   rcases (handed_own s hM b hb).1 with h | h
   ·exact Nat.le_trans C.hB h
   ·exact C.hM b h
  have hy : ∀ k x v, xs[k]? = some x → k ≤ last → YieldB P C.B C.w0 l #[v] (bl (k < last)) (G x v :: Hc k) (Hc (k + 1)) := by
   intro k x v hx hkl wy My hyB hyk hyM hyi0
   have rkk : rk k = rec .ready none := by rw [hrk]; simp [hkl]
   have hyi : Inv wy My (pt l (.loop (rec .ready none)) :: G x v :: HI k) wy := by
    have := hyi0.perm (List.Perm.swap (pt l (.loop (rk k))) (G x v) (HI k))
    rw [rkk] at this; exact this
   have hl : wy.heap[l]? = some (.loop (rec .ready none)) := (hyi.look .head).1
   have hy := run_yield (P := P) (args := #[v]) hl (by rw [hrec]; rfl)
   refine ⟨_, _, _, _, hy, roundIn_of_wpIn trivial ?_⟩
   have hrd := hround l wy My hyB hyM hyk k x v hx hkl
   have hst : St (rdCx C l wy My hyB hyM) [pt l (.loop (rec .ready none))] [] ((p, v) :: E) (G x v :: HI k) { tmps := (#[p].zip #[v]).foldl (fun tmps (t, a) => tmps.setIfInBounds t a) a.tmps, defers := [] } wy := by
    refine ⟨rfl, ?_, hyi⟩
    have := hs.fr.put (v := v) hN
    exact ⟨by have := this.size; simpa [Act.put, rdCx] using this, fun t u hu => by have := this.get t u hu; simpa [Act.put] using this⟩
   have hw := hrd _ _ _ _ hst
   have hFr : (rdCx C l wy My hyB hyM).F = Fence.wide.inRound l := rfl
   rw [hFr] at hw
   rw [hrec]
   rw [hrec] at hw hl
   refine wpIn_mono hw ?_
   rintro e a2 w2 ⟨ds2, E2, H2, q, st2⟩
   cases e <;> first | exact q.elim | skip
   have i2 : Inv wy My (ds2.map ptd ++ pt l (.loop (rec .ready none)) :: H2) w2 := by have := st2.inv; rw [hrec]; simpa [List.append_assoc, rdCx] using this
   have hl2 := (i2.look (b := l) (o := .loop (rec .ready none)) ((Pick.head).app (ds2.map ptd))).1
   have i3 := putObj_inv (o' := .loop (rec .busy none)) i2
   have hb2 := run_beginRound (P := P) hl2 (by rw [hrec])
   have e3 : ({ rec .ready none with state := .busy } : Loop) = rec .busy none := by rw [hrec]
   rw [e3] at hb2
   refine ⟨_, hb2, ?_⟩
   have hw3 := q [pt l (.loop (rec .busy none))] ds2 a2 _ ⟨st2.defers, st2.fr, by simpa [List.append_assoc, rdCx] using i3⟩
   rw [hFr] at hw3
   refine wpIn_mono hw3 ?_
   rintro e4 a4 w4 ⟨ds4, E4, H4, ⟨q4, q5⟩, st4⟩
   have i4 : Inv wy My (ds4.map ptd ++ pt l (.loop (rec .busy none)) :: H4) w4 := by simpa [List.append_assoc, rdCx] using st4.inv
   have hl4 := (i4.look (b := l) (o := .loop (rec .busy none)) ((Pick.head).app (ds4.map ptd))).1
   have fin : ∀ (st : LoopState) (pe : Option Code), rk (k + 1) = rec st pe → Inv wy My (Hc (k + 1)) (w4.putObj l (.loop (rec st pe))) := fun st pe he => by
    have i5 := putObj_inv (o' := .loop (rec st pe)) i4
    have s1 : Sub (ds4.map ptd ++ pt l (.loop (rec st pe)) :: H4) (pt l (.loop (rec st pe)) :: H4) := by
     induction ds4.map ptd with
     | nil => exact Sub.refl _
     | cons A r ih => exact Sub.tail ih
    show Inv wy My (pt l (.loop (rk (k + 1))) :: HI (k + 1)) _
    rw [he]
    exact Inv.chg (L := [pt l (.loop (rec st pe))]) (i5.sub s1) q5
   rcases Decidable.em (k < last) with hk | hk
   ·rw [bl_t.2 hk, if_pos rfl] at q4
    subst q4
    have hb4 := run_endRound (P := P) none hl4
    have e5 : ({ rec .busy none with state := if (none : Option Code).isNone then .ready else .done, pending := none } : Loop) = rec .ready none := by rw [hrec]; rfl
    rw [e5] at hb4
    exact ⟨_, _, hb4, by rw [bl_t.2 hk]; rfl, fin _ _ (by rw [hrk]; simp [show k + 1 ≤ last from hk])⟩
   ·rw [bl_f.2 hk, if_neg (by simp)] at q4
    subst q4
    have hb4 := run_endRound (P := P) (some j.code) hl4
    have e5 : ({ rec .busy none with state := if (some j.code : Option Code).isNone then .ready else .done, pending := some j.code } : Loop) = rec .done (some j.code) := by rw [hrec]; rfl
    rw [e5] at hb4
    exact Jmp.round (F := Fence.wide) j ⟨_, _, hb4, by rw [bl_f.2 hk]; rfl, fin _ _ (by rw [hrk]; simp [show ¬ k + 1 ≤ last from hk])⟩
  have hct := hiter l Hc hy W1 M' (Nat.le_trans C.hB (by have := hinv1.size; exact this)) hinv1.keepB hMB (handed_start s pa hM)
  refine CallsIn.mono hct ?_
  rintro e w' ⟨v, rfl, hi'⟩
  have hb := handed_back (hi2.sub .nil) s pb hM hi'
  have hb2 : Inv C.w0 C.M ((((D :: ds).map ptd) ++ L ++ Hit) ++ pt l (.loop (rk (min xs.length (last + 1)))) :: HI (min xs.length (last + 1))) w' := by
   refine hb.perm ?_
   have := List.perm_append_comm (l₁ := Hit ++ Hc (min xs.length (last + 1))) (l₂ := ((D :: ds).map ptd) ++ L)
   simpa [Hc, List.append_assoc] using this
  have hl := (hb2.look (b := l) (o := .loop (rk (min xs.length (last + 1)))) ((Pick.head).app _)).1
  have stE : ∀ k, (w'.putObj l (.loop { rk (min xs.length (last + 1)) with state := .exhausted })) = k → Inv C.w0 C.M ((((D :: ds).map ptd) ++ L ++ Hit) ++ HI (min xs.length (last + 1))) k := fun k e => by
   subst e
   exact (putObj_inv (o' := .loop { rk (min xs.length (last + 1)) with state := .exhausted }) hb2).dropL
  have dfr : [{ target := .collected D, args := #[] }] ++ a.defers = (D :: ds).map mark := by
   rw [hs.defers]; rfl
  rcases Nat.lt_or_ge last xs.length with g | g
  ·have em : min xs.length (last + 1) = last + 1 := by omega
   rw [em] at hl stE
   have er : rk (last + 1) = rec .done (some j.code) := by rw [hrk]; exact if_neg (by omega)
   rw [er] at hl stE
   have := run_endLoop (P := P) hl (by rw [hrec]; simp)
   have e6 : (rec .done (some j.code)).pending = some j.code := by rw [hrec]
   rw [e6] at this
   refine ⟨some j.code, _, this, ?_⟩
   have hw := h2 g L (D :: ds) { a with defers := [{ target := .collected D, args := #[] }] ++ a.defers } _ ⟨dfr, ⟨hs.fr.size, hs.fr.get⟩, by have := stE _ rfl; simp only [e6] at this; simpa [List.append_assoc] using this⟩
   rw [hF] at hw
   exact hw
  ·have em : min xs.length (last + 1) = xs.length := by omega
   rw [em] at hl stE
   have er : rk xs.length = rec .ready none := by rw [hrk]; exact if_pos g
   rw [er] at hl stE
   have := run_endLoop (P := P) hl (by rw [hrec]; simp)
   have e6 : (rec .ready none).pending = none := by rw [hrec]
   rw [e6] at this
   refine ⟨none, _, this, ?_⟩
   exact ⟨D :: ds, E, Hit ++ HI xs.length, h1 g, ⟨dfr, ⟨hs.fr.size, hs.fr.get⟩, by have := stE _ rfl; simp only [e6] at this; simpa [List.append_assoc] using this⟩⟩
end
end Go.TH
namespace Go.TH
open Go
section
variable {P : Program} {C : Cx P} {E : Env} {H : List HP}
variable {ops : Array Oper} {K : KP} {rest : List Oper} {d : Nat} {ty : TypeId} {pos : String} {af : Array Edge} {x y z : Operand} {T : TypeId}
end
section
variable {P : Program} {α : Type} {enc : α → List Value} {e sz : Nat}
theorem RowsE.up : ∀ {rv : List Value} {xss : List (List α)} {h h1 h2 : Hp}, Split h h1 h2 → RowsE enc e sz rv xss h1 → RowsE enc e sz rv xss h
 | [], [], _, _, _, _, _ => trivial
 | _ :: _, _ :: _, _, _, _, s, ⟨_, _, t, x, r⟩ => by
  obtain ⟨r', t1, t2⟩ := split_assoc s.comm t.comm
  exact ⟨_, r', t1.comm, x, RowsE.up t2.comm r⟩
 | [], _ :: _, _, _, _, _, a => a.elim
 | _ :: _, [], _, _, _, _, a => a.elim
theorem RowsE.app : ∀ {rv rv' : List Value} {xss xss' : List (List α)} {h h1 h2 : Hp}, Split h h1 h2 → RowsE enc e sz rv xss h1 → RowsE enc e sz rv' xss' h2 → RowsE enc e sz (rv ++ rv') (xss ++ xss') h := by
 intro rv rv' xss xss' h h1 h2 s a b
 induction rv' generalizing rv xss xss' h h1 h2 with
 | nil =>
  have := RowsE.len b
  cases xss' with
  | nil =>
   rw [List.append_nil, List.append_nil]
   exact RowsE.up s a
  | cons _ _ => simp at this
 | cons r rv' ih =>
  cases xss' with
  | nil => have := RowsE.len b; simp at this
  | cons xs xss' =>
   obtain ⟨k1, k2, s2, hx, hr⟩ := b
   obtain ⟨r', t1, t2⟩ := split_assoc s s2
   have := RowsE.snoc t2 a hx
   have := ih t1 this hr
   simpa using this
end
end Go.TH
namespace Go.Proofs.YtnehaifgcegemaaGreat.Tu
open Go Go.TH
attribute [local irreducible] W WO pt
set_option maxRecDepth 10000
def gcd2 (a b : Int) : Int := (Nat.gcd a.toNat b.toNat : Nat)
theorem gcd2_zero {a : Int} (h : 0 ≤ a) : gcd2 a 0 = a := by simp [gcd2]; omega
theorem gcd2_step {a b : Int} (ha : 0 ≤ a) (hb : 0 < b) : gcd2 b (a.tmod b) = gcd2 a b := by
 unfold gcd2
 obtain ⟨n, rfl⟩ := Int.eq_ofNat_of_zero_le ha
 obtain ⟨m, rfl⟩ := Int.eq_ofNat_of_zero_le (Int.le_of_lt hb)
 rw [Int.tmod_eq_emod_of_nonneg (by omega), ← Int.natCast_emod]
 simp only [Int.toNat_natCast]
 rw [Nat.gcd_comm m (n % m), ← Nat.gcd_rec, Nat.gcd_comm]
theorem tmod_lt {a b : Int} (ha : 0 ≤ a) (hb : 0 < b) : 0 ≤ a.tmod b ∧ a.tmod b < b := ⟨Int.tmod_nonneg b ha, Int.tmod_lt_of_pos a hb⟩
theorem gcd2_pos {a b : Int} (ha : 0 ≤ a) (hb : 0 < b) : 0 < gcd2 a b := by
 unfold gcd2
 have : 0 < Nat.gcd a.toNat b.toNat := Nat.gcd_pos_of_pos_right _ (by omega)
 omega
theorem tdiv_in {a b : Int} (ha : 0 ≤ a) (hb : 0 < b) (h : in64 a) : in64 (a.tdiv b) := by
 unfold in64 at *
 have h1 : 0 ≤ a.tdiv b := Int.tdiv_nonneg ha (by omega)
 have h2 : a.tdiv b ≤ a := by
  rw [Int.tdiv_eq_ediv_of_nonneg ha]
  exact Int.ediv_le_self _ ha
 omega
theorem gcd2_0 {a : Int} (h : 0 ≤ a) : gcd2 0 a = a := by unfold gcd2; rw [show (0 : Int).toNat = 0 from rfl, Nat.gcd_zero_left]; omega
theorem gcd2_nn (a b : Int) : 0 ≤ gcd2 a b := by unfold gcd2; omega
def ab (n : Int) : Int := max n (-n)
theorem ab_nn (n : Int) : 0 ≤ ab n := by unfold ab; omega
theorem tdiv_ab {a b : Int} (hb : 0 < b) : ab (a.tdiv b) ≤ ab a := by
 unfold ab
 have h1 : a.tdiv b ≤ max a (-a) := by
  rcases Int.le_total 0 a with h | h
  ·have := Int.tdiv_le_self b h; omega
  ·have h2 : a.tdiv b = -((-a).tdiv b) := by rw [Int.neg_tdiv, Int.neg_neg]
   have := Int.tdiv_nonneg (a := -a) (b := b) (by omega) (by omega)
   omega
 have h2 : -(a.tdiv b) ≤ max a (-a) := by
  rcases Int.le_total 0 a with h | h
  ·have := Int.tdiv_nonneg (a := a) (b := b) h (by omega); omega
  ·have h2 : a.tdiv b = -((-a).tdiv b) := by rw [Int.neg_tdiv, Int.neg_neg]
   have := Int.tdiv_le_self (a := -a) b (by omega)
   omega
 omega
theorem ref_gcd (w : World) (a b : Int) (ha : 0 ≤ a) (hb : 0 ≤ b) :
 Ret Tryz.prog 252 [.int .i64 a, .int .i64 b].toArray w (.int .i64 (gcd2 a b)) := by
 refine Ret.of mixed tyTab Tryz.func252 rfl rfl (W.sreg (WO.p rfl rfl (WO.nil (W.seq (W.block ?_)))))
 refine W.loop2 (fun (x : Int) (y : Int) => 0 ≤ x ∧ 0 ≤ y ∧ gcd2 x y = gcd2 a b)
  (fun (x : Int) (y : Int) => [(0, .int .i64 x), (1, .int .i64 y)])
  (fun (x : Int) (y : Int) => [])
  (fun (x : Int) (y : Int) => y.toNat) a b
  (by exact ⟨ha, hb, rfl⟩) ⟨rfl, rfl, trivial⟩ (by repeat (first | exact Sub.nil | refine Sub.cons (by repeat first | exact .head | apply Pick.tail) ?_)) ?_
 rintro x y ⟨hx, hy, hg⟩
 refine W.seq (W.sreg (WO.p rfl rfl (WO.p rfl rfl (WO.nil ?_))))
 refine W.cond_bl rfl (fun c1 => ?_) (fun c1 => ?_)
 ·refine W.skip (W.block ?_)
  refine W.drawD 5 [.r 0 [], .r 1 [], .r 2 [0], .r 3 [0], .r 4 [0]] [0] (A0 := []) (Sub.refl _) (by kernel_rfl) ?_ ?_
  ·repeat constructor
  refine DT.r rfl rfl rfl (WO.p rfl rfl (WO.nil ⟨rfl, rfl⟩)) (DT.r rfl rfl rfl (WO.p rfl rfl (WO.nil ⟨rfl, rfl⟩)) (DT.r rfl rfl rfl (WO.p rfl rfl (WO.nil ⟨rfl, rfl⟩)) (DT.r rfl rfl rfl (WO.rem rfl rfl (by first | omega | assumption) rfl (WO.nil ⟨rfl, rfl⟩)) (DT.r rfl rfl rfl (WO.p rfl rfl (WO.nil ⟨rfl, rfl⟩)) (DT.nil [] rfl (WO.p rfl rfl (WO.nil ?_)))))))
  refine' ⟨_, _, ?hp, ?hmu, ⟨rfl, rfl, trivial⟩, ?hS⟩
  case hS => repeat (first | exact Sub.nil | refine Sub.cons (by repeat first | exact .head | apply Pick.tail) ?_)
  case hp => exact ⟨hy, (tmod_lt hx (by omega)).1, by rw [gcd2_step hx (by omega)]; exact hg⟩
  case hmu => have := tmod_lt hx (show 0 < y by omega); omega
 ·refine W.exit (blk_same (W.sreg (WO.p rfl rfl (WO.p rfl rfl (WO.nil (W.ret (fin.ret (Res.one rfl (RV.tmp rfl)) ?_)))))))
  obtain rfl : y = 0 := by omega
  rw [← hg, gcd2_zero hx]
theorem ref_amount (w : World) (n : Int) (h : in64 (-n)) : Ret Tryz.prog 253 [.int .i64 n].toArray w (.int .i64 (ab n)) := by
 refine Ret.of mixed tyTab Tryz.func253 rfl rfl (W.sreg (WO.p rfl rfl (WO.nil (W.sreg (WO.p rfl rfl (WO.p rfl rfl (WO.neg rfl (by (first | (unfold in64; omega) | assumption)) rfl (WO.max2 rfl rfl rfl (WO.p rfl rfl (WO.nil (W.ret ?_)))))))))))
 exact fin.ret (Res.one rfl (RV.tmp rfl)) rfl
end Go.Proofs.YtnehaifgcegemaaGreat.Tu
namespace Go.Proofs.YtnehaifgcegemaaGreat.Tu
open Go Go.TH
attribute [local irreducible] W WO pt
set_option maxRecDepth 10000
set_option maxHeartbeats 1000000
def sgn (x y : Int) : Int := if x < y then -1 else if y < x then 1 else 0
def cmp (a b c d : Int) : Int := sgn (a * d) (c * b)
theorem sgn_neg (x y : Int) : sgn y x = -(sgn x y) := by unfold sgn; split <;> (try split) <;> (try split) <;> omega
theorem div_lt {a b c d : Int} (ha : 0 ≤ a) (hb : 0 < b) (hc : 0 ≤ c) (hd : 0 < d) (h : a.tdiv b < c.tdiv d) : a * d < c * b := by
 rw [Int.tdiv_eq_ediv_of_nonneg ha, Int.tdiv_eq_ediv_of_nonneg hc] at h
 have a1 := Int.mul_ediv_add_emod a b
 have a2 := Int.emod_lt_of_pos a hb
 have c1 := Int.mul_ediv_add_emod c d
 have c2 := Int.emod_nonneg c (show d ≠ 0 by omega)
 have h1 : a + 1 ≤ (c / d) * b := by
  have := Int.mul_le_mul_of_nonneg_right (show a / b + 1 ≤ c / d by omega) (show 0 ≤ b by omega)
  rw [Int.add_mul, Int.mul_comm (a / b) b] at this
  omega
 have h2 := Int.mul_le_mul_of_nonneg_right h1 (show 0 ≤ d by omega)
 have h3 : (c / d) * d ≤ c := by rw [Int.mul_comm]; omega
 have h4 := Int.mul_le_mul_of_nonneg_right h3 (show 0 ≤ b by omega)
 rw [Int.add_mul] at h2
 have e : (c / d) * b * d = (c / d) * d * b := by grind
 omega
theorem cmp_lt {a b c d : Int} (ha : 0 ≤ a) (hb : 0 < b) (hc : 0 ≤ c) (hd : 0 < d) (h : a.tdiv b < c.tdiv d) : cmp a b c d = -1 := by
 unfold cmp sgn; rw [if_pos (div_lt ha hb hc hd h)]
theorem cmp_gt {a b c d : Int} (ha : 0 ≤ a) (hb : 0 < b) (hc : 0 ≤ c) (hd : 0 < d) (h : c.tdiv d < a.tdiv b) : cmp a b c d = 1 := by
 have := div_lt hc hd ha hb h
 unfold cmp sgn; rw [if_neg (by omega), if_pos this]
theorem cmp_mod {a b c d : Int} (h : a.tdiv b = c.tdiv d) : cmp a b c d = cmp (a.tmod b) b (c.tmod d) d := by
 have a1 := Int.mul_tdiv_add_tmod a b
 have c1 := Int.mul_tdiv_add_tmod c d
 unfold cmp
 generalize a.tmod b = x at *
 generalize c.tmod d = y at *
 rw [h] at a1
 generalize c.tdiv d = q at *
 have e1 : a * d = b * q * d + x * d := by rw [← a1]; grind
 have e2 : c * b = b * q * d + y * b := by rw [← c1]; grind
 rw [e1, e2]
 unfold sgn
 split <;> split <;> (try split) <;> (try split) <;> omega
theorem cmp_00 {b d : Int} : cmp 0 b 0 d = 0 := by unfold cmp sgn; simp
theorem cmp_0l {b c d : Int} (hb : 0 < b) (hc : 0 < c) : cmp 0 b c d = -1 := by
 have := Int.mul_pos hc hb
 unfold cmp sgn; rw [if_pos (by omega)]
theorem cmp_0r {a b d : Int} (ha : 0 < a) (hd : 0 < d) : cmp a b 0 d = 1 := by
 have := Int.mul_pos ha hd
 unfold cmp sgn; rw [if_neg (by omega), if_pos (by omega)]
theorem cmp_turn (a b c d : Int) : cmp d c b a = cmp a b c d := by
 unfold cmp; rw [Int.mul_comm d a, Int.mul_comm b c]
theorem cmp_flip (a b c d : Int) : cmp b a d c = -(cmp a b c d) := by
 unfold cmp; rw [← sgn_neg, Int.mul_comm b c, Int.mul_comm d a]
theorem ref_Compare (w : World) (a b c d : Int) (ha : 0 ≤ a) (hb : 0 < b) (hc : 0 ≤ c) (hd : 0 < d) (ia : in64 a) (ib : in64 b) (ic : in64 c) (id' : in64 d) : Ret Tryz.prog 84 [.int .i64 a, .int .i64 b, .int .i64 c, .int .i64 d].toArray w (.int .i64 (cmp a b c d)) := by
 refine Ret.of mixed tyTab Tryz.func84 rfl rfl (W.sreg (WO.p rfl rfl (WO.nil (W.sreg (WO.p rfl rfl (WO.nil (W.block ?_)))))))
 refine W.loop5 (fun (p : Int) (q : Int) (r : Int) (s : Int) (g : Int) => 0 ≤ p ∧ 0 < q ∧ 0 ≤ r ∧ 0 < s ∧ (g = 1 ∨ g = -1) ∧ g * cmp p q r s = cmp a b c d ∧ in64 p ∧ in64 q ∧ in64 r ∧ in64 s)
  (fun (p : Int) (q : Int) (r : Int) (s : Int) (g : Int) => [(9, .int .i64 g), (0, .int .i64 p), (1, .int .i64 q), (2, .int .i64 r), (3, .int .i64 s)])
  (fun (p : Int) (q : Int) (r : Int) (s : Int) (g : Int) => [])
  (fun (p : Int) (q : Int) (r : Int) (s : Int) (g : Int) => q.toNat) a b c d 1
  (by exact ⟨ha, hb, hc, hd, .inl rfl, Int.one_mul _, ia, ib, ic, id'⟩) ⟨rfl, rfl, rfl, rfl, rfl, trivial⟩ (by repeat (first | exact Sub.nil | refine Sub.cons (by repeat first | exact .head | apply Pick.tail) ?_)) ?_
 rintro p q r s g ⟨h1, h2, h3, h4, h5, h6, i1, i2, i3, i4⟩
 refine W.block (W.seq (W.seq ?_))
 refine W.drawD 6 [.r 0 [], .r 1 [], .r 2 [], .r 3 [], .r 4 [], .r 5 []] [] (A0 := []) (Sub.refl _) (by kernel_rfl) ?_ ?_
 ·repeat constructor
 refine DT.r rfl rfl rfl (WO.p rfl rfl (WO.nil ⟨rfl, rfl⟩)) (DT.r rfl rfl rfl (WO.p rfl rfl (WO.nil ⟨rfl, rfl⟩)) (DT.r rfl rfl rfl (WO.quo rfl rfl (by first | omega | assumption) (by (first | (unfold in64; omega) | exact tdiv_in h1 h2 i1 | exact tdiv_in h3 h4 i3 | (unfold in64; omega))) rfl (WO.nil ⟨rfl, rfl⟩)) (DT.r rfl rfl rfl (WO.p rfl rfl (WO.nil ⟨rfl, rfl⟩)) (DT.r rfl rfl rfl (WO.p rfl rfl (WO.nil ⟨rfl, rfl⟩)) (DT.r rfl rfl rfl (WO.quo rfl rfl (by first | omega | assumption) (by (first | (unfold in64; omega) | exact tdiv_in h1 h2 i1 | exact tdiv_in h3 h4 i3 | (unfold in64; omega))) rfl (WO.nil ⟨rfl, rfl⟩)) (DT.nil [] rfl (WO.p rfl rfl (WO.nil ?_))))))))
 refine W.cond_bl rfl (fun c1 => ?_) (fun c1 => ?_)
 ·refine W.seq (W.seq ?_)
  refine W.drawD 6 [.r 0 [], .r 1 [], .r 2 [], .r 3 [], .r 4 [], .r 5 []] [] (A0 := []) (Sub.refl _) (by kernel_rfl) ?_ ?_
  ·repeat constructor
  refine DT.r rfl rfl rfl (WO.p rfl rfl (WO.nil ⟨rfl, rfl⟩)) (DT.r rfl rfl rfl (WO.p rfl rfl (WO.nil ⟨rfl, rfl⟩)) (DT.r rfl rfl rfl (WO.quo rfl rfl (by first | omega | assumption) (by (first | (unfold in64; omega) | exact tdiv_in h1 h2 i1 | exact tdiv_in h3 h4 i3 | (unfold in64; omega))) rfl (WO.nil ⟨rfl, rfl⟩)) (DT.r rfl rfl rfl (WO.p rfl rfl (WO.nil ⟨rfl, rfl⟩)) (DT.r rfl rfl rfl (WO.p rfl rfl (WO.nil ⟨rfl, rfl⟩)) (DT.r rfl rfl rfl (WO.quo rfl rfl (by first | omega | assumption) (by (first | (unfold in64; omega) | exact tdiv_in h1 h2 i1 | exact tdiv_in h3 h4 i3 | (unfold in64; omega))) rfl (WO.nil ⟨rfl, rfl⟩)) (DT.nil [] rfl (WO.p rfl rfl (WO.nil ?_))))))))
  refine W.cond_bl rfl (fun c2 => ?_) (fun c2 => ?_)
  ·refine W.sreg (WO.p rfl rfl (WO.neg rfl (by (first | (unfold in64; omega) | exact tdiv_in h1 h2 i1 | exact tdiv_in h3 h4 i3 | (unfold in64; omega))) rfl (WO.p rfl rfl (WO.nil (W.ret (fin.ret (Res.one rfl (RV.tmp rfl)) (congrArg (Value.int .i64) ?_)))))))
   first | (rw [← h6, cmp_lt h1 h2 h3 h4 (by omega)]; omega) | (rw [← h6, cmp_gt h1 h2 h3 h4 (by omega)]; omega) | (rw [← h6, cmp_mod (by omega), show p.tmod q = 0 by omega, show r.tmod s = 0 by omega, cmp_00]; omega) | (rw [← h6, cmp_mod (by omega), show p.tmod q = 0 by omega, cmp_0l h2 (by omega)]; omega) | (rw [← h6, cmp_mod (by omega), show r.tmod s = 0 by omega, cmp_0r (by omega) h4]; omega)
  ·refine W.skip (W.sreg (WO.p rfl rfl (WO.p rfl rfl (WO.nil (W.ret (fin.ret (Res.one rfl (RV.tmp rfl)) (congrArg (Value.int .i64) ?_)))))))
   first | (rw [← h6, cmp_lt h1 h2 h3 h4 (by omega)]; omega) | (rw [← h6, cmp_gt h1 h2 h3 h4 (by omega)]; omega) | (rw [← h6, cmp_mod (by omega), show p.tmod q = 0 by omega, show r.tmod s = 0 by omega, cmp_00]; omega) | (rw [← h6, cmp_mod (by omega), show p.tmod q = 0 by omega, cmp_0l h2 (by omega)]; omega) | (rw [← h6, cmp_mod (by omega), show r.tmod s = 0 by omega, cmp_0r (by omega) h4]; omega)
 ·refine W.skip (W.seq ?_)
  have m1 := tmod_lt h1 h2
  have m2 := tmod_lt h3 h4
  refine W.drawD 7 [.r 0 [], .r 1 [], .r 2 [], .r 3 [0], .r 4 [0], .r 5 [0], .r 6 [0]] [0] (A0 := []) (Sub.refl _) (by kernel_rfl) ?_ ?_
  ·repeat constructor
  refine DT.r rfl rfl rfl (WO.p rfl rfl (WO.nil ⟨rfl, rfl⟩)) (DT.r rfl rfl rfl (WO.p rfl rfl (WO.nil ⟨rfl, rfl⟩)) (DT.r rfl rfl rfl (WO.rem rfl rfl (by first | omega | assumption) rfl (WO.nil ⟨rfl, rfl⟩)) (DT.r rfl rfl rfl (WO.p rfl rfl (WO.nil ⟨rfl, rfl⟩)) (DT.r rfl rfl rfl (WO.p rfl rfl (WO.nil ⟨rfl, rfl⟩)) (DT.r rfl rfl rfl (WO.rem rfl rfl (by first | omega | assumption) rfl (WO.nil ⟨rfl, rfl⟩)) (DT.r rfl rfl rfl (WO.p rfl rfl (WO.nil ⟨rfl, rfl⟩)) (DT.nil [] rfl (WO.p rfl rfl (WO.nil (W.seq (W.sreg (WO.p rfl rfl (WO.p rfl rfl (WO.p rfl rfl ?_))))))))))))))
  refine WO.guard_bl rfl rfl (fun c3 => ?_) (fun c3 => ?_)
  ·refine WO.no rfl rfl (WO.no rfl rfl (WO.p rfl rfl (WO.nil (W.cond_t rfl (W.seq (W.sreg (WO.p rfl rfl (WO.p rfl rfl (WO.p rfl rfl (WO.nil ?_))))))))))
   refine W.cond_bl rfl (fun c4 => ?_) (fun c4 => ?_)
   ·refine W.sreg (WO.p rfl rfl (WO.nil (W.ret (fin.ret (Res.one rfl (RV.tmp rfl)) (congrArg (Value.int .i64) ?_)))))
    first | (rw [← h6, cmp_lt h1 h2 h3 h4 (by omega)]; omega) | (rw [← h6, cmp_gt h1 h2 h3 h4 (by omega)]; omega) | (rw [← h6, cmp_mod (by omega), show p.tmod q = 0 by omega, show r.tmod s = 0 by omega, cmp_00]; omega) | (rw [← h6, cmp_mod (by omega), show p.tmod q = 0 by omega, cmp_0l h2 (by omega)]; omega) | (rw [← h6, cmp_mod (by omega), show r.tmod s = 0 by omega, cmp_0r (by omega) h4]; omega)
   ·refine W.skip (W.seq (W.sreg (WO.p rfl rfl (WO.p rfl rfl (WO.nil ?_)))))
    refine W.cond_bl rfl (fun c5 => ?_) (fun c5 => ?_)
    ·refine W.sreg (WO.p rfl rfl (WO.neg rfl (by (first | (unfold in64; omega) | exact tdiv_in h1 h2 i1 | exact tdiv_in h3 h4 i3 | (unfold in64; omega))) rfl (WO.p rfl rfl (WO.nil (W.ret (fin.ret (Res.one rfl (RV.tmp rfl)) (congrArg (Value.int .i64) ?_)))))))
     first | (rw [← h6, cmp_lt h1 h2 h3 h4 (by omega)]; omega) | (rw [← h6, cmp_gt h1 h2 h3 h4 (by omega)]; omega) | (rw [← h6, cmp_mod (by omega), show p.tmod q = 0 by omega, show r.tmod s = 0 by omega, cmp_00]; omega) | (rw [← h6, cmp_mod (by omega), show p.tmod q = 0 by omega, cmp_0l h2 (by omega)]; omega) | (rw [← h6, cmp_mod (by omega), show r.tmod s = 0 by omega, cmp_0r (by omega) h4]; omega)
    ·exfalso; omega
  ·refine WO.pg rfl rfl rfl (WO.pg rfl rfl rfl (WO.p rfl rfl (WO.nil ?_)))
   refine W.cond_bl rfl (fun c6 => ?_) (fun c6 => ?_)
   ·refine W.seq (W.sreg (WO.p rfl rfl (WO.p rfl rfl (WO.p rfl rfl (WO.nil ?_)))))
    refine W.cond_bl rfl (fun c7 => ?_) (fun c7 => ?_)
    ·exfalso; omega
    ·refine W.skip (W.seq (W.sreg (WO.p rfl rfl (WO.p rfl rfl (WO.nil ?_)))))
     refine W.cond_bl rfl (fun c8 => ?_) (fun c8 => ?_)
     ·exfalso; omega
     ·refine W.skip (W.sreg (WO.p rfl rfl (WO.p rfl rfl (WO.nil (W.ret (fin.ret (Res.one rfl (RV.tmp rfl)) (congrArg (Value.int .i64) ?_)))))))
      first | (rw [← h6, cmp_lt h1 h2 h3 h4 (by omega)]; omega) | (rw [← h6, cmp_gt h1 h2 h3 h4 (by omega)]; omega) | (rw [← h6, cmp_mod (by omega), show p.tmod q = 0 by omega, show r.tmod s = 0 by omega, cmp_00]; omega) | (rw [← h6, cmp_mod (by omega), show p.tmod q = 0 by omega, cmp_0l h2 (by omega)]; omega) | (rw [← h6, cmp_mod (by omega), show r.tmod s = 0 by omega, cmp_0r (by omega) h4]; omega)
   ·refine W.skip (W.sreg (WO.p rfl rfl (WO.p rfl rfl (WO.p rfl rfl (WO.p rfl rfl (WO.p rfl rfl (WO.p rfl rfl (WO.p rfl rfl (WO.p rfl rfl (WO.nil (W.region (WO.p rfl rfl (WO.neg rfl (by (first | (unfold in64; omega) | exact tdiv_in h1 h2 i1 | exact tdiv_in h3 h4 i3 | (unfold in64; omega))) rfl (WO.p rfl rfl (WO.nil ?_)))))))))))))))
    refine' ⟨_, _, _, _, _, ?hp, ?hmu, ⟨rfl, rfl, rfl, rfl, rfl, trivial⟩, ?hS⟩
    case hS => repeat (first | exact Sub.nil | refine Sub.cons (by repeat first | exact .head | apply Pick.tail) ?_)
    case hp => exact ⟨by omega, by omega, by omega, by omega, by omega, by rw [cmp_flip, ← h6, cmp_mod (a := p) (b := q) (c := r) (d := s) (by omega)]; grind, i2, by unfold in64 at *; omega, i4, by unfold in64 at *; omega⟩
    case hmu => omega
theorem c_compare_step (n : Nat) (ih : ∀ (w : World) (a b c d : Int), 0 ≤ a → 0 < b → 0 ≤ c → 0 < d → in64 a → in64 b → in64 c → in64 d → b + d ≤ n → Ret Tryz.prog 251 [.int .i64 a, .int .i64 b, .int .i64 c, .int .i64 d].toArray w (.int .i64 (cmp a b c d)))
 (w : World) (a b c d : Int) (ha : 0 ≤ a) (hb : 0 < b) (hc : 0 ≤ c) (hd : 0 < d) (ia : in64 a) (ib : in64 b) (ic : in64 c) (id' : in64 d) (hn : b + d ≤ n + 1) : Ret Tryz.prog 251 [.int .i64 a, .int .i64 b, .int .i64 c, .int .i64 d].toArray w (.int .i64 (cmp a b c d)) := by
 refine Ret.of mixed tyTab Tryz.func251 rfl rfl (W.sreg (WO.p rfl rfl (WO.nil (W.seq (W.seq ?_)))))
 refine W.drawD 7 [.r 0 [], .r 1 [], .r 2 [], .r 3 [], .r 4 [], .r 5 [], .r 6 []] [] (A0 := []) (Sub.refl _) (by kernel_rfl) ?_ ?_
 ·repeat constructor
 refine DT.r rfl rfl rfl (WO.p rfl rfl (WO.nil ⟨rfl, rfl⟩)) (DT.r rfl rfl rfl (WO.p rfl rfl (WO.nil ⟨rfl, rfl⟩)) (DT.r rfl rfl rfl (WO.quo rfl rfl (by first | omega | assumption) (by (first | (unfold in64; omega) | exact tdiv_in ha hb ia | exact tdiv_in hc hd ic)) rfl (WO.nil ⟨rfl, rfl⟩)) (DT.r rfl rfl rfl (WO.p rfl rfl (WO.nil ⟨rfl, rfl⟩)) (DT.r rfl rfl rfl (WO.p rfl rfl (WO.nil ⟨rfl, rfl⟩)) (DT.r rfl rfl rfl (WO.quo rfl rfl (by first | omega | assumption) (by (first | (unfold in64; omega) | exact tdiv_in ha hb ia | exact tdiv_in hc hd ic)) rfl (WO.nil ⟨rfl, rfl⟩)) (DT.r rfl rfl rfl (WO.p rfl rfl (WO.nil ⟨rfl, rfl⟩)) (DT.nil [] rfl (WO.p rfl rfl (WO.nil (W.block ?_))))))))))
 refine W.sreg (WO.p rfl rfl (WO.p rfl rfl (WO.p rfl rfl (WO.p rfl rfl (WO.nil ?_)))))
 refine W.cond_bl rfl (fun c1 => ?_) (fun c1 => ?_)
 ·refine W.sreg (WO.p rfl rfl (WO.nil (W.ret (fin.ret (Res.one rfl (RV.tmp rfl)) (congrArg (Value.int .i64) ?_)))))
  first | exact (cmp_lt ha hb hc hd (by omega)).symm | exact (cmp_gt ha hb hc hd (by omega)).symm | (rw [cmp_mod (by omega), show a.tmod b = 0 by omega, show c.tmod d = 0 by omega, cmp_00]) | (rw [cmp_mod (by omega), show a.tmod b = 0 by omega, cmp_0l hb (by omega)]) | (rw [cmp_mod (by omega), show c.tmod d = 0 by omega, cmp_0r (by omega) hd]) | (rw [cmp_turn, ← cmp_mod (by omega)])
 ·refine W.sreg (WO.p rfl rfl (WO.p rfl rfl (WO.p rfl rfl (WO.p rfl rfl (WO.nil ?_)))))
  refine W.cond_bl rfl (fun c2 => ?_) (fun c2 => ?_)
  ·refine W.sreg (WO.p rfl rfl (WO.nil (W.ret (fin.ret (Res.one rfl (RV.tmp rfl)) (congrArg (Value.int .i64) ?_)))))
   first | exact (cmp_lt ha hb hc hd (by omega)).symm | exact (cmp_gt ha hb hc hd (by omega)).symm | (rw [cmp_mod (by omega), show a.tmod b = 0 by omega, show c.tmod d = 0 by omega, cmp_00]) | (rw [cmp_mod (by omega), show a.tmod b = 0 by omega, cmp_0l hb (by omega)]) | (rw [cmp_mod (by omega), show c.tmod d = 0 by omega, cmp_0r (by omega) hd]) | (rw [cmp_turn, ← cmp_mod (by omega)])
  ·refine W.skip (W.seq ?_)
   have m1 := tmod_lt ha hb
   have m2 := tmod_lt hc hd
   refine W.drawD 7 [.r 0 [], .r 1 [], .r 2 [], .r 3 [0], .r 4 [0], .r 5 [0], .r 6 [0]] [0] (A0 := []) (Sub.refl _) (by kernel_rfl) ?_ ?_
   ·repeat constructor
   refine DT.r rfl rfl rfl (WO.p rfl rfl (WO.nil ⟨rfl, rfl⟩)) (DT.r rfl rfl rfl (WO.p rfl rfl (WO.nil ⟨rfl, rfl⟩)) (DT.r rfl rfl rfl (WO.rem rfl rfl (by first | omega | assumption) rfl (WO.nil ⟨rfl, rfl⟩)) (DT.r rfl rfl rfl (WO.p rfl rfl (WO.nil ⟨rfl, rfl⟩)) (DT.r rfl rfl rfl (WO.p rfl rfl (WO.nil ⟨rfl, rfl⟩)) (DT.r rfl rfl rfl (WO.rem rfl rfl (by first | omega | assumption) rfl (WO.nil ⟨rfl, rfl⟩)) (DT.r rfl rfl rfl (WO.p rfl rfl (WO.nil ⟨rfl, rfl⟩)) (DT.nil [] rfl (WO.p rfl rfl (WO.nil (W.seq (W.block (W.sreg (WO.p rfl rfl (WO.p rfl rfl (WO.p rfl rfl ?_)))))))))))))))
   refine WO.guard_bl rfl rfl (fun c3 => ?_) (fun c3 => ?_)
   ·refine WO.pg rfl rfl rfl (WO.pg rfl rfl rfl (WO.p rfl rfl (WO.p rfl rfl (WO.nil ?_))))
    refine W.cond_bl rfl (fun c4 => ?_) (fun c4 => ?_)
    ·refine W.sreg (WO.p rfl rfl (WO.nil (W.ret (fin.ret (Res.one rfl (RV.tmp rfl)) (congrArg (Value.int .i64) ?_)))))
     first | exact (cmp_lt ha hb hc hd (by omega)).symm | exact (cmp_gt ha hb hc hd (by omega)).symm | (rw [cmp_mod (by omega), show a.tmod b = 0 by omega, show c.tmod d = 0 by omega, cmp_00]) | (rw [cmp_mod (by omega), show a.tmod b = 0 by omega, cmp_0l hb (by omega)]) | (rw [cmp_mod (by omega), show c.tmod d = 0 by omega, cmp_0r (by omega) hd]) | (rw [cmp_turn, ← cmp_mod (by omega)])
    ·refine W.sreg (WO.p rfl rfl (WO.p rfl rfl (WO.p rfl rfl (WO.nil ?_))))
     refine W.cond_bl rfl (fun c5 => ?_) (fun c5 => ?_)
     ·refine W.sreg (WO.p rfl rfl (WO.nil (W.ret (fin.ret (Res.one rfl (RV.tmp rfl)) (congrArg (Value.int .i64) ?_)))))
      first | exact (cmp_lt ha hb hc hd (by omega)).symm | exact (cmp_gt ha hb hc hd (by omega)).symm | (rw [cmp_mod (by omega), show a.tmod b = 0 by omega, show c.tmod d = 0 by omega, cmp_00]) | (rw [cmp_mod (by omega), show a.tmod b = 0 by omega, cmp_0l hb (by omega)]) | (rw [cmp_mod (by omega), show c.tmod d = 0 by omega, cmp_0r (by omega) hd]) | (rw [cmp_turn, ← cmp_mod (by omega)])
     ·exfalso; omega
   ·refine WO.no rfl rfl (WO.no rfl rfl (WO.p rfl rfl (WO.p rfl rfl (WO.nil (W.cond_f rfl (W.sreg (WO.p rfl rfl (WO.p rfl rfl (WO.p rfl rfl (WO.nil ?_))))))))))
    refine W.cond_bl rfl (fun c7 => ?_) (fun c7 => ?_)
    ·exfalso; omega
    ·refine W.sreg (WO.p rfl rfl (WO.p rfl rfl (WO.p rfl rfl (WO.nil ?_))))
     refine W.cond_bl rfl (fun c8 => ?_) (fun c8 => ?_)
     ·refine W.sreg (WO.p rfl rfl (WO.nil (W.ret (fin.ret (Res.one rfl (RV.tmp rfl)) (congrArg (Value.int .i64) ?_)))))
      first | exact (cmp_lt ha hb hc hd (by omega)).symm | exact (cmp_gt ha hb hc hd (by omega)).symm | (rw [cmp_mod (by omega), show a.tmod b = 0 by omega, show c.tmod d = 0 by omega, cmp_00]) | (rw [cmp_mod (by omega), show a.tmod b = 0 by omega, cmp_0l hb (by omega)]) | (rw [cmp_mod (by omega), show c.tmod d = 0 by omega, cmp_0r (by omega) hd]) | (rw [cmp_turn, ← cmp_mod (by omega)])
     ·refine W.skip (W.sreg (WO.p rfl rfl (WO.p rfl rfl (WO.p rfl rfl (WO.p rfl rfl (WO.callR rfl Tryz.call251 (fun L w hi => ih w d (c.tmod d) b (a.tmod b) (by omega) (by omega) (by omega) (by omega) id' (by unfold in64 at *; omega) ib (by unfold in64 at *; omega) (by omega)) rfl (WO.p rfl rfl (WO.nil (W.ret (fin.ret (Res.one rfl (RV.tmp rfl)) (congrArg (Value.int .i64) ?_)))))))))))
      first | exact (cmp_lt ha hb hc hd (by omega)).symm | exact (cmp_gt ha hb hc hd (by omega)).symm | (rw [cmp_mod (by omega), show a.tmod b = 0 by omega, show c.tmod d = 0 by omega, cmp_00]) | (rw [cmp_mod (by omega), show a.tmod b = 0 by omega, cmp_0l hb (by omega)]) | (rw [cmp_mod (by omega), show c.tmod d = 0 by omega, cmp_0r (by omega) hd]) | (rw [cmp_turn, ← cmp_mod (by omega)])
theorem c_compare_n : ∀ (n : Nat) (w : World) (a b c d : Int), 0 ≤ a → 0 < b → 0 ≤ c → 0 < d → in64 a → in64 b → in64 c → in64 d → b + d ≤ n → Ret Tryz.prog 251 [.int .i64 a, .int .i64 b, .int .i64 c, .int .i64 d].toArray w (.int .i64 (cmp a b c d))
 | 0 => fun _ _ _ _ _ _ _ _ _ _ _ _ _ _ => by omega
 | n + 1 => fun w a b c d ha hb hc hd ia ib ic id' hn => c_compare_step n (c_compare_n n) w a b c d ha hb hc hd ia ib ic id' (by omega)
theorem c_compare (w : World) (a b c d : Int) (ha : 0 ≤ a) (hb : 0 < b) (hc : 0 ≤ c) (hd : 0 < d) (ia : in64 a) (ib : in64 b) (ic : in64 c) (id' : in64 d) : Ret Tryz.prog 251 [.int .i64 a, .int .i64 b, .int .i64 c, .int .i64 d].toArray w (.int .i64 (cmp a b c d)) := c_compare_n (b + d).toNat w a b c d ha hb hc hd ia ib ic id' (by omega)
end Go.Proofs.YtnehaifgcegemaaGreat.Tu
namespace Go.Proofs.YtnehaifgcegemaaGreat.Tu
open Go Go.TH
attribute [local irreducible] W WO pt
set_option maxRecDepth 10000
set_option maxHeartbeats 1000000
def sqL (xs : List Int) : Int := xs.foldl (fun a x => a + x * x) 0
theorem sq_b {x : Int} (h : -2000000000 ≤ x ∧ x ≤ 2000000000) : 0 ≤ x * x ∧ x * x ≤ 4000000000000000000 := by
 rcases Int.le_total 0 x with g | g
 ·exact ⟨Int.mul_nonneg g g, Int.mul_le_mul (c := 2000000000) (d := 2000000000) h.2 h.2 g (by omega)⟩
 ·have e : x * x = (-x) * (-x) := by grind
  rw [e]
  exact ⟨Int.mul_nonneg (by omega) (by omega), Int.mul_le_mul (c := 2000000000) (d := 2000000000) (by omega) (by omega) (by omega) (by omega)⟩
theorem c_squares (w : World) (v : Value) (xs : List Int) (hR : RdF encI 1 w.heap.size w v xs) (hl : xs.length ≤ 2) (hb : ∀ x ∈ xs, -2000000000 ≤ x ∧ x ≤ 2000000000) : Ret Tryz.prog 172 [v].toArray w (.int .i64 (sqL xs)) := by
 refine Ret.of mixed tyTab Tryz.func172 rfl rfl ?_
 replace hR : RdF encI 1 (fnCx mixed tyTab Tryz.f172.ntmps w).B (fnCx mixed tyTab Tryz.f172.ntmps w).w0 v xs := hR
 have hle := hR.sl.le
 refine W.sreg (WO.p rfl rfl (WO.nil (W.sreg (WO.p rfl rfl (WO.nil (W.seq (W.sreg (WO.p rfl rfl (WO.len rfl rfl hR.sl rfl (WO.p rfl rfl (WO.nil (W.block ?_))))))))))))
 refine W.loop2 (fun (i : Nat) (n : Int) => i ≤ xs.length ∧ 0 ≤ n ∧ n ≤ 4000000000000000000 * i ∧ n = sqL (xs.take i))
  (fun (i : Nat) (n : Int) => [(8, .int .i64 (i : Int)), (7, .int .i64 (xs.length : Int)), (6, v), (3, .int .i64 n)])
  (fun (i : Nat) (n : Int) => [])
  (fun (i : Nat) (n : Int) => xs.length - i) 0 0
  (by exact ⟨by omega, by omega, by omega, rfl⟩) ⟨rfl, rfl, rfl, rfl, trivial⟩ (by repeat (first | exact Sub.nil | refine Sub.cons (by repeat first | exact .head | apply Pick.tail) ?_)) ?_
 rintro i n ⟨hi, hn0, hn1, hn⟩
 refine W.sreg (WO.p rfl rfl (WO.nil (W.seq ?_)))
 refine W.cond_bl rfl (fun c1 => ?_) (fun c1 => ?_)
 ·refine W.skip (W.seq (W.block (W.sreg (WO.indexAddr rfl rfl rfl hR.sl (by first | omega | (simp; omega)) rfl ?_))))
  refine' WO.load (v := _) rfl rfl ?hc rfl ?_
  case hc => (first | (refine hR.cell0 ?_ 0 ?_ <;> first | rfl | omega))
  refine WO.p rfl rfl (WO.nil ?_)
  have hq := sq_b (hb _ (getD_mem (l := xs) (i := i) (by omega) 0))
  refine W.region (WO.p rfl rfl (WO.p rfl rfl (WO.p rfl rfl (WO.ar rfl rfl rfl (by unfold in64; omega) rfl (WO.ar rfl rfl rfl (by unfold in64; omega) rfl (WO.p rfl rfl (WO.nil (W.region (WO.ar rfl rfl rfl (by unfold in64; omega) rfl (WO.p rfl rfl (WO.nil ?_)))))))))))
  refine' ⟨i + 1, _, ?hp, ?hmu, ⟨rfl, rfl, rfl, rfl, trivial⟩, ?hS⟩
  case hS => repeat (first | exact Sub.nil | refine Sub.cons (by repeat first | exact .head | apply Pick.tail) ?_)
  case hp => exact ⟨by omega, by omega, by omega, by unfold sqL at *; rw [take_succ_getD (by omega) 0, List.foldl_append, ← hn]; rfl⟩
  case hmu => omega
 ·refine W.exit (blk_same (W.sreg (WO.p rfl rfl (WO.p rfl rfl (WO.nil (W.ret (fin.ret (Res.one rfl (RV.tmp rfl)) ?_)))))))
  obtain rfl : i = xs.length := by omega
  rw [hn, List.take_length]
structure Cir where
 x : Int
 y : Int
 den : Int
 n : Int
 d : Int
structure OkR (c : Cir) : Prop where
 den : 1 ≤ c.den ∧ c.den ≤ 262144
 x : -268435456 ≤ c.x ∧ c.x ≤ 268435456
 y : -268435456 ≤ c.y ∧ c.y ≤ 268435456
 n : 0 ≤ c.n ∧ c.n ≤ 1125899906842624
 d : 1 ≤ c.d ∧ c.d ≤ 1125899906842624
def OkP (p : Int × Int) : Prop := (-100 ≤ p.1 ∧ p.1 ≤ 100) ∧ -100 ≤ p.2 ∧ p.2 ≤ 100
def whr (c : Cir) (p : Int × Int) : Int := cmp ((p.1 * c.den - c.x) * (p.1 * c.den - c.x) + (p.2 * c.den - c.y) * (p.2 * c.den - c.y)) (c.den * c.den) c.n c.d
theorem mul100 {p d : Int} (hp : -100 ≤ p ∧ p ≤ 100) (hd : 1 ≤ d ∧ d ≤ 262144) : -26214400 ≤ p * d ∧ p * d ≤ 26214400 := by
 have h1 := Int.mul_le_mul_of_nonneg_right hp.1 (show 0 ≤ d by omega)
 have h2 := Int.mul_le_mul_of_nonneg_right hp.2 (show 0 ≤ d by omega)
 omega
theorem den_b {d : Int} (hd : 1 ≤ d ∧ d ≤ 262144) : 1 ≤ d * d ∧ d * d ≤ 68719476736 :=
 ⟨by have := Int.mul_le_mul (a := 1) (b := 1) hd.1 hd.1 (by omega) (by omega); omega, Int.mul_le_mul (c := 262144) (d := 262144) hd.2 hd.2 (by omega) (by omega)⟩
theorem ref_Where (w : World) (c : Cir) (p : Int × Int) (hc : OkR c) (hp : OkP p) : Ret Tryz.prog 170 [.agg #[.int .i64 c.x, .int .i64 c.y, .int .i64 c.den, .int .i64 c.n, .int .i64 c.d], .agg #[.int .i64 p.1, .int .i64 p.2]].toArray w (.int .i64 (whr c p)) := by
 refine Ret.of mixed tyTab Tryz.func170 rfl rfl ?_
 have h1 := mul100 hp.1 hc.den
 have h2 := mul100 hp.2 hc.den
 have h3 := den_b hc.den
 have h4 := hc.x; have h5 := hc.y; have h6 := hc.n; have h7 := hc.d; have h8 := hc.den
 have q1 := sq_b (x := p.1 * c.den - c.x) (by omega)
 have q2 := sq_b (x := p.2 * c.den - c.y) (by omega)
 refine W.sreg (WO.boxA rfl rfl (fun b1 hb1 => (WO.boxA rfl rfl (fun b2 hb2 => (WO.p rfl rfl (WO.nil (W.seq ?_)))))))
 refine W.drawD 17 [.r 0 [], .b 1 [], .r 2 [], .b 3 [], .r 4 [], .r 5 [], .b 6 [], .r 7 [], .r 8 [], .b 9 [], .r 10 [], .b 11 [], .r 12 [], .r 13 [], .b 14 [], .r 15 [], .r 16 []] [] (A0 := []) (Sub.refl _) (by kernel_rfl) ?_ ?_
 ·repeat constructor
 refine DT.r rfl rfl rfl (WO.field0 rfl rfl rfl (WO.nil ⟨rfl, rfl⟩)) (DT.b rfl rfl rfl (WO.load rfl rfl (Cell.own Pick.head rfl) rfl (WO.nil ⟨rfl, rfl⟩)) (DT.r rfl rfl rfl (WO.fieldL rfl rfl rfl (WO.nil ⟨rfl, rfl⟩)) (DT.b rfl rfl rfl (WO.load rfl rfl (Cell.own (Pick.tail (Pick.head)) rfl) rfl (WO.nil ⟨rfl, rfl⟩)) (DT.r rfl rfl rfl (WO.ar rfl rfl rfl (by unfold in64; omega) rfl (WO.nil ⟨rfl, rfl⟩)) (DT.r rfl rfl rfl (WO.field0 rfl rfl rfl (WO.nil ⟨rfl, rfl⟩)) (DT.b rfl rfl rfl (WO.load rfl rfl (Cell.own (Pick.tail (Pick.head)) rfl) rfl (WO.nil ⟨rfl, rfl⟩)) (DT.r rfl rfl rfl (WO.ar rfl rfl rfl (by unfold in64; omega) rfl (WO.nil ⟨rfl, rfl⟩)) ?_)))))))
 refine DT.r rfl rfl rfl (WO.fieldL rfl rfl rfl (WO.nil ⟨rfl, rfl⟩)) (DT.b rfl rfl rfl (WO.load rfl rfl (Cell.own Pick.head rfl) rfl (WO.nil ⟨rfl, rfl⟩)) (DT.r rfl rfl rfl (WO.fieldL rfl rfl rfl (WO.nil ⟨rfl, rfl⟩)) (DT.b rfl rfl rfl (WO.load rfl rfl (Cell.own (Pick.tail (Pick.head)) rfl) rfl (WO.nil ⟨rfl, rfl⟩)) (DT.r rfl rfl rfl (WO.ar rfl rfl rfl (by unfold in64; omega) rfl (WO.nil ⟨rfl, rfl⟩)) (DT.r rfl rfl rfl (WO.fieldL rfl rfl rfl (WO.nil ⟨rfl, rfl⟩)) (DT.b rfl rfl rfl (WO.load rfl rfl (Cell.own (Pick.tail (Pick.head)) rfl) rfl (WO.nil ⟨rfl, rfl⟩)) (DT.r rfl rfl rfl (WO.ar rfl rfl rfl (by unfold in64; omega) rfl (WO.nil ⟨rfl, rfl⟩)) ?_)))))))
 refine DT.r rfl rfl rfl (WO.p rfl rfl (WO.nil ⟨rfl, rfl⟩)) (DT.nil [_, _] rfl (WO.p rfl rfl (WO.nil (W.sreg (WO.p rfl rfl (WO.p rfl rfl (WO.ar rfl rfl rfl (by unfold in64; omega) rfl (WO.p rfl rfl (WO.p rfl rfl (WO.ar rfl rfl rfl (by unfold in64; omega) rfl (WO.ar rfl rfl rfl (by unfold in64; omega) rfl (WO.fieldL rfl rfl rfl (WO.load rfl rfl (Cell.own (Pick.tail (Pick.head)) rfl) rfl (WO.fieldL rfl rfl rfl (WO.load rfl rfl (Cell.own (Pick.tail (Pick.head)) rfl) rfl (WO.ar rfl rfl rfl (by unfold in64; omega) rfl ?_))))))))))))))))
 refine WO.fieldL rfl rfl rfl (WO.field0 rfl rfl rfl (WO.load rfl rfl (Cell.own (Pick.tail (Pick.head)) rfl) rfl (WO.fieldL rfl rfl rfl (WO.fieldL rfl rfl rfl (WO.load rfl rfl (Cell.own (Pick.tail (Pick.head)) rfl) rfl (WO.callR rfl Tryz.call84 (fun L w hi => ref_Compare w _ _ c.n c.d (by omega) (by omega) (by omega) (by omega) (by unfold in64; omega) (by unfold in64; omega) (by unfold in64; omega) (by unfold in64; omega)) rfl (WO.p rfl rfl (WO.nil (W.ret ?_)))))))))
 exact fin.ret (Res.one rfl (RV.tmp rfl)) rfl
end Go.Proofs.YtnehaifgcegemaaGreat.Tu
namespace Go.Proofs.YtnehaifgcegemaaGreat.Tu
open Go Go.TH
attribute [local irreducible] W WO pt
set_option maxRecDepth 10000
set_option maxHeartbeats 1000000
instance (p : Int × Int) : Decidable (OkP p) := by unfold OkP; infer_instance
def OkL (l : List (Int × Int)) : Prop := ∀ p ∈ l, OkP p
instance (l : List (Int × Int)) : Decidable (OkL l) := by unfold OkL; infer_instance
def chkL (l : List (Int × Int)) : Int := if l.length < 1 ∨ 24 < l.length then 6 else if OkL l then 0 else 3
theorem OkR_iff (c : Cir) : OkR c ↔ (1 ≤ c.den ∧ c.den ≤ 262144) ∧ (-268435456 ≤ c.x ∧ c.x ≤ 268435456) ∧ (-268435456 ≤ c.y ∧ c.y ≤ 268435456) ∧ (0 ≤ c.n ∧ c.n ≤ 1125899906842624) ∧ (1 ≤ c.d ∧ c.d ≤ 1125899906842624) :=
 ⟨fun h => ⟨h.den, h.x, h.y, h.n, h.d⟩, fun h => ⟨h.1, h.2.1, h.2.2.1, h.2.2.2.1, h.2.2.2.2⟩⟩
instance (c : Cir) : Decidable (OkR c) := decidable_of_iff' _ (OkR_iff c)
theorem RdF.cells2 {C : Cx Tryz.prog} {H : List HP} {o : Value} {l : List (Int × Int)} (h : RdF encP 2 C.B C.w0 o l) {i : Nat} (h1 : i < l.length) : Cells C H (elt o i 2) [.int .i64 (l.getD i (0, 0)).1, .int .i64 (l.getD i (0, 0)).2] := RdF.cells h h1 (0, 0)
theorem ref_Place (w : World) (p : Int × Int) : Ret Tryz.prog 54 [.agg #[.int .i64 p.1, .int .i64 p.2]].toArray w (.bool (bl (OkP p))) := by
 refine Ret.of mixed tyTab Tryz.func54 rfl rfl (W.sreg (WO.boxA rfl rfl (fun b1 hb1 => (WO.p rfl rfl (WO.nil (W.sreg (WO.field0 rfl rfl rfl (WO.load rfl rfl (Cell.own Pick.head rfl) rfl (WO.p rfl rfl (WO.p rfl rfl ?_))))))))))
 refine WO.guard_bl rfl rfl (fun c1 => ?_) (fun c1 => ?_)
 ·refine WO.go' rfl (WO.field0 rfl rfl rfl (WO.go' rfl (WO.load rfl rfl (Cell.own Pick.head rfl) rfl (WO.pg rfl rfl rfl (WO.p rfl rfl (WO.p rfl rfl ?_))))))
  refine WO.guard_bl rfl rfl (fun c2 => ?_) (fun c2 => ?_)
  ·refine WO.go' rfl (WO.fieldL rfl rfl rfl (WO.go' rfl (WO.load rfl rfl (Cell.own Pick.head rfl) rfl (WO.pg rfl rfl rfl (WO.p rfl rfl (WO.p rfl rfl ?_))))))
   refine WO.guard_bl rfl rfl (fun c3 => ?_) (fun c3 => ?_)
   ·refine WO.go' rfl (WO.fieldL rfl rfl rfl (WO.go' rfl (WO.load rfl rfl (Cell.own Pick.head rfl) rfl (WO.pg rfl rfl rfl (WO.p rfl rfl (WO.p rfl rfl (WO.nil (W.ret (fin.ret (Res.one rfl (RV.tmp rfl)) (congrArg Value.bool ?_))))))))))
    first | exact (bl_f.2 (fun h => by obtain ⟨h1, h2⟩ := h; omega)).symm | (rw [bl_eq, bl_eq, decide_eq_decide]; unfold OkP; omega)
   ·refine WO.no rfl rfl (WO.no rfl rfl (WO.no rfl rfl (WO.p rfl rfl (WO.p rfl rfl (WO.nil (W.ret (fin.ret (Res.one rfl (RV.tmp rfl)) (congrArg Value.bool ?_))))))))
    first | exact (bl_f.2 (fun h => by obtain ⟨h1, h2⟩ := h; omega)).symm | (rw [bl_eq, bl_eq, decide_eq_decide]; unfold OkP; omega)
  ·refine WO.no rfl rfl (WO.no rfl rfl (WO.no rfl rfl (WO.p rfl rfl (WO.p rfl rfl (WO.no rfl rfl (WO.no rfl rfl (WO.no rfl rfl (WO.p rfl rfl (WO.p rfl rfl (WO.nil (W.ret (fin.ret (Res.one rfl (RV.tmp rfl)) (congrArg Value.bool ?_)))))))))))))
   first | exact (bl_f.2 (fun h => by obtain ⟨h1, h2⟩ := h; omega)).symm | (rw [bl_eq, bl_eq, decide_eq_decide]; unfold OkP; omega)
 ·refine WO.no rfl rfl (WO.no rfl rfl (WO.no rfl rfl (WO.p rfl rfl (WO.p rfl rfl (WO.no rfl rfl (WO.no rfl rfl (WO.no rfl rfl (WO.p rfl rfl (WO.p rfl rfl (WO.no rfl rfl (WO.no rfl rfl (WO.no rfl rfl (WO.p rfl rfl (WO.p rfl rfl (WO.nil (W.ret (fin.ret (Res.one rfl (RV.tmp rfl)) (congrArg Value.bool ?_))))))))))))))))))
  first | exact (bl_f.2 (fun h => by obtain ⟨h1, h2⟩ := h; omega)).symm | (rw [bl_eq, bl_eq, decide_eq_decide]; unfold OkP; omega)
theorem ref_CheckTrack (w : World) (v : Value) (l : List (Int × Int)) (hR : RdF encP 2 w.heap.size w v l) : Ret Tryz.prog 16 [v].toArray w (.int .i64 (chkL l)) := by
 refine Ret.of mixed tyTab Tryz.func16 rfl rfl ?_
 replace hR : RdF encP 2 (fnCx mixed tyTab Tryz.f16.ntmps w).B (fnCx mixed tyTab Tryz.f16.ntmps w).w0 v l := hR
 have hle := hR.sl.le
 refine W.sreg (WO.p rfl rfl (WO.nil (W.seq (W.sreg (WO.p rfl rfl (WO.len rfl rfl hR.sl rfl (WO.p rfl rfl (WO.p rfl rfl ?_))))))))
 refine WO.guard_bl rfl rfl (fun c1 => ?_) (fun c1 => ?_)
 ·refine WO.no rfl rfl (WO.no rfl rfl (WO.no rfl rfl (WO.p rfl rfl (WO.nil (W.cond_t rfl (W.sreg (WO.p rfl rfl (WO.nil (W.ret (fin.ret (Res.one rfl (RV.tmp rfl)) (congrArg (Value.int .i64) ?_)))))))))))
  first | (unfold chkL; rw [if_pos (by omega)]) | (unfold chkL; rw [if_neg (by omega), if_neg (fun h => (by assumption : ¬ OkP (l.getD i (0, 0))) (h _ (getD_mem (by omega) (0, 0))))]) | (unfold chkL; rw [if_neg (by omega), if_pos (by rw [show i = l.length by omega, List.take_length] at hin; exact hin)])
 ·refine WO.pg rfl rfl rfl (WO.go' rfl (WO.len rfl rfl hR.sl rfl (WO.pg rfl rfl rfl (WO.p rfl rfl (WO.nil ?_)))))
  refine W.cond_bl rfl (fun c2 => ?_) (fun c2 => ?_)
  ·refine W.sreg (WO.p rfl rfl (WO.nil (W.ret (fin.ret (Res.one rfl (RV.tmp rfl)) (congrArg (Value.int .i64) ?_)))))
   first | (unfold chkL; rw [if_pos (by omega)]) | (unfold chkL; rw [if_neg (by omega), if_neg (fun h => (by assumption : ¬ OkP (l.getD i (0, 0))) (h _ (getD_mem (by omega) (0, 0))))]) | (unfold chkL; rw [if_neg (by omega), if_pos (by rw [show i = l.length by omega, List.take_length] at hin; exact hin)])
  ·refine W.skip (W.seq (W.sreg (WO.p rfl rfl (WO.nil (W.block ?_)))))
   refine W.loop (fun (i : Nat) => i ≤ l.length ∧ OkL (l.take i))
    (fun (i : Nat) => [(3, .int .i64 (i : Int)), (0, v)])
    (fun (i : Nat) => [])
    (fun (i : Nat) => l.length - i) 0
    (by exact ⟨by omega, fun x hx => by simp at hx⟩) ⟨rfl, rfl, trivial⟩ (by repeat (first | exact Sub.nil | refine Sub.cons (by repeat first | exact .head | apply Pick.tail) ?_)) ?_
   rintro i ⟨hi, hin⟩
   refine W.seq (W.sreg (WO.p rfl rfl (WO.p rfl rfl (WO.len rfl rfl hR.sl rfl (WO.p rfl rfl (WO.nil ?_))))))
   refine W.cond_bl rfl (fun c3 => ?_) (fun c3 => ?_)
   ·refine W.skip (W.seq (W.block (W.sreg (WO.p rfl rfl (WO.p rfl rfl (WO.indexAddr rfl rfl rfl hR.sl (by first | omega | (simp; omega)) rfl (WO.loadA rfl rfl (RdF.cells2 hR (i := i) (by omega)) rfl rfl (WO.callR rfl Tryz.call54 (fun L w hi => ref_Place w (l.getD i (0, 0))) rfl (WO.p rfl rfl (WO.nil ?_))))))))))
    refine W.cond_nbl rfl (fun c4 => ?_) (fun c4 => ?_)
    ·refine W.sreg (WO.p rfl rfl (WO.nil (W.ret (fin.ret (Res.one rfl (RV.tmp rfl)) (congrArg (Value.int .i64) ?_)))))
     first | (unfold chkL; rw [if_pos (by omega)]) | (unfold chkL; rw [if_neg (by omega), if_neg (fun h => (by assumption : ¬ OkP (l.getD i (0, 0))) (h _ (getD_mem (by omega) (0, 0))))]) | (unfold chkL; rw [if_neg (by omega), if_pos (by rw [show i = l.length by omega, List.take_length] at hin; exact hin)])
    ·refine W.skip (W.region (WO.p rfl rfl (WO.ar rfl rfl rfl (by unfold in64; omega) rfl (WO.p rfl rfl (WO.nil ?_)))))
     refine' ⟨i + 1, ?hp, ?hmu, ⟨rfl, rfl, trivial⟩, ?hS⟩
     case hS => repeat (first | exact Sub.nil | refine Sub.cons (by repeat first | exact .head | apply Pick.tail) ?_)
     case hp => exact ⟨by omega, all_succ (by omega) (0, 0) hin (by assumption)⟩
     case hmu => omega
   ·refine W.exit (blk_same (W.sreg (WO.p rfl rfl (WO.nil (W.ret (fin.ret (Res.one rfl (RV.tmp rfl)) (congrArg (Value.int .i64) ?_)))))))
    first | (unfold chkL; rw [if_pos (by omega)]) | (unfold chkL; rw [if_neg (by omega), if_neg (fun h => (by assumption : ¬ OkP (l.getD i (0, 0))) (h _ (getD_mem (by omega) (0, 0))))]) | (unfold chkL; rw [if_neg (by omega), if_pos (by rw [show i = l.length by omega, List.take_length] at hin; exact hin)])
def holdL (c : Cir) (l : List (Int × Int)) : Prop := ∀ p ∈ l, whr c p ≤ 0
instance (c : Cir) (l : List (Int × Int)) : Decidable (holdL c l) := by unfold holdL; infer_instance
theorem ref_All (w : World) (c : Cir) (v : Value) (l : List (Int × Int)) (hR : RdF encP 2 w.heap.size w v l) (hc : OkR c) (hl : OkL l) : Ret Tryz.prog 83 [.agg #[.int .i64 c.x, .int .i64 c.y, .int .i64 c.den, .int .i64 c.n, .int .i64 c.d], v].toArray w (.bool (bl (holdL c l))) := by
 refine Ret.of mixed tyTab Tryz.func83 rfl rfl ?_
 replace hR : RdF encP 2 (fnCx mixed tyTab Tryz.f83.ntmps w).B (fnCx mixed tyTab Tryz.f83.ntmps w).w0 v l := hR
 have hle := hR.sl.le
 refine W.sreg (WO.boxA rfl rfl (fun b1 hb1 => (WO.p rfl rfl (WO.nil (W.seq (W.sreg (WO.p rfl rfl (WO.nil (W.block ?_)))))))))
 refine W.loop (fun (i : Nat) => i ≤ l.length ∧ holdL c (l.take i))
  (fun (i : Nat) => [(5, .int .i64 (i : Int)), (2, .pointer (some ⟨b1, 0, none⟩)), (1, v)])
  (fun (i : Nat) => [pt b1 (.cells #[.int .i64 c.x, .int .i64 c.y, .int .i64 c.den, .int .i64 c.n, .int .i64 c.d] 54 (0, 0))])
  (fun (i : Nat) => l.length - i) 0
  (by exact ⟨by omega, fun x hx => by simp at hx⟩) ⟨rfl, rfl, rfl, trivial⟩ (by repeat (first | exact Sub.nil | refine Sub.cons (by repeat first | exact .head | apply Pick.tail) ?_)) ?_
 rintro i ⟨hi, hin⟩
 refine W.seq (W.sreg (WO.p rfl rfl (WO.p rfl rfl (WO.len rfl rfl hR.sl rfl (WO.p rfl rfl (WO.nil ?_))))))
 refine W.cond_bl rfl (fun c1 => ?_) (fun c1 => ?_)
 ·refine W.skip (W.seq (W.block (W.seq ?_)))
  refine W.drawD 5 [.b 0 [], .r 1 [], .r 2 [], .r 3 [], .b 4 []] [] (A0 := []) (Sub.refl _) (by kernel_rfl) ?_ ?_
  ·repeat constructor
  refine DT.b rfl rfl rfl (WO.loadA rfl rfl (Cells.own Pick.head) rfl rfl (WO.nil ⟨rfl, rfl⟩)) (DT.r rfl rfl rfl (WO.p rfl rfl (WO.nil ⟨rfl, rfl⟩)) (DT.r rfl rfl rfl (WO.p rfl rfl (WO.nil ⟨rfl, rfl⟩)) (DT.r rfl rfl rfl (WO.indexAddr rfl rfl rfl hR.sl (by first | omega | (simp; omega)) rfl (WO.nil ⟨rfl, rfl⟩)) (DT.b rfl rfl rfl (WO.loadA rfl rfl (RdF.cells2 hR (i := i) (by omega)) rfl rfl (WO.nil ⟨rfl, rfl⟩)) (DT.nil [_] rfl (WO.callR (r := .int .i64 (whr c (l.getD i (0, 0)))) rfl Tryz.call170 (fun L w hi => ref_Where w c (l.getD i (0, 0)) hc (hl _ (getD_mem (by omega) (0, 0)))) rfl (WO.p rfl rfl (WO.nil ?_))))))))
  refine W.cond_bl rfl (fun c2 => ?_) (fun c2 => ?_)
  ·refine W.sreg (WO.p rfl rfl (WO.nil (W.ret (fin.ret (Res.one rfl (RV.tmp rfl)) (congrArg Value.bool ?_)))))
   first | exact (bl_f.2 (fun h => by have := h _ (getD_mem (l := l) (i := i) (by omega) (0, 0)); omega)).symm | exact (bl_t.2 (by rw [show i = l.length by omega, List.take_length] at hin; exact hin)).symm
  ·refine W.skip (W.region (WO.p rfl rfl (WO.ar rfl rfl rfl (by unfold in64; omega) rfl (WO.p rfl rfl (WO.nil ?_)))))
   refine' ⟨i + 1, ?hp, ?hmu, ⟨rfl, rfl, rfl, trivial⟩, ?hS⟩
   case hS => repeat (first | exact Sub.nil | refine Sub.cons (by repeat first | exact .head | apply Pick.tail) ?_)
   case hp => exact ⟨by omega, all_succ (by omega) (0, 0) hin (by omega)⟩
   case hmu => omega
 ·refine W.exit (blk_same (W.sreg (WO.p rfl rfl (WO.nil (W.ret (fin.ret (Res.one rfl (RV.tmp rfl)) (congrArg Value.bool ?_)))))))
  first | exact (bl_f.2 (fun h => by have := h _ (getD_mem (l := l) (i := i) (by omega) (0, 0)); omega)).symm | exact (bl_t.2 (by rw [show i = l.length by omega, List.take_length] at hin; exact hin)).symm
end Go.Proofs.YtnehaifgcegemaaGreat.Tu
namespace Go.Proofs.YtnehaifgcegemaaGreat.Tu
open Go Go.TH
attribute [local irreducible] W WO pt
set_option maxRecDepth 10000
set_option maxHeartbeats 1000000
theorem c_within1 (w : World) (x lo hi : Int) (p q : Addr) (h1 : Cap w p (.int .i64 lo)) (h2 : Cap w q (.int .i64 hi)) : Ret Tryz.prog 247 [.int .i64 x, .pointer (some p), .pointer (some q)].toArray w (.bool (bl (¬ (lo ≤ x ∧ x ≤ hi)))) := by
 refine Ret.of mixed tyTab Tryz.func247 rfl rfl ?_
 replace h1 : Cap (fnCx mixed tyTab Tryz.f247.ntmps w).w0 p (.int .i64 lo) := h1
 replace h2 : Cap (fnCx mixed tyTab Tryz.f247.ntmps w).w0 q (.int .i64 hi) := h2
 refine W.sreg (WO.p rfl rfl (WO.nil (W.sreg (WO.p rfl rfl ?_))))
 refine' WO.load (v := _) rfl rfl ?hc rfl ?_
 case hc => (refine Cap.cell (v := .int .i64 lo) rfl h1)
 refine WO.p rfl rfl (WO.p rfl rfl ?_)
 refine WO.guard_bl rfl rfl (fun c1 => ?_) (fun c1 => ?_)
 ·refine WO.no rfl rfl (WO.no rfl rfl (WO.no rfl rfl (WO.p rfl rfl (WO.p rfl rfl (WO.nil (W.ret (fin.ret (Res.one rfl (RV.tmp rfl)) (congrArg Value.bool ?_))))))))
  first | exact (bl_t.2 (by omega)).symm | (rw [bl_eq, bl_eq, decide_eq_decide]; omega)
 ·refine WO.pg rfl rfl rfl (WO.go' rfl ?_)
  refine' WO.load (v := _) rfl rfl ?hc rfl ?_
  case hc => (refine Cap.cell (v := .int .i64 hi) rfl h2)
  refine WO.pg rfl rfl rfl (WO.p rfl rfl (WO.p rfl rfl (WO.nil (W.ret (fin.ret (Res.one rfl (RV.tmp rfl)) (congrArg Value.bool ?_))))))
  first | exact (bl_t.2 (by omega)).symm | (rw [bl_eq, bl_eq, decide_eq_decide]; omega)
theorem c_IndexI (w : World) (v : Value) (xs : List Int) (lo hi : Int) (p q : Addr) (hR : RdF encI 1 w.heap.size w v xs) (h1 : Cap w p (.int .i64 lo)) (h2 : Cap w q (.int .i64 hi)) : RetE Tryz.prog 222 [v, .func (.func 247) #[] #[.pointer (some p), .pointer (some q)]].toArray w (fun r => ∃ n : Int, r = .int .i64 n ∧ (0 ≤ n ↔ ¬ ∀ x ∈ xs, lo ≤ x ∧ x ≤ hi)) := by
 refine RetE.of mixed tyTab Tryz.func222 rfl rfl ?_
 replace hR : RdF encI 1 (fnCx mixed tyTab Tryz.f222.ntmps w).B (fnCx mixed tyTab Tryz.f222.ntmps w).w0 v xs := hR
 replace h1 : Cap (fnCx mixed tyTab Tryz.f222.ntmps w).w0 p (.int .i64 lo) := h1
 replace h2 : Cap (fnCx mixed tyTab Tryz.f222.ntmps w).w0 q (.int .i64 hi) := h2
 have hle := hR.sl.le
 refine W.sreg (WO.p rfl rfl (WO.nil (W.seq (W.sreg (WO.p rfl rfl (WO.len rfl rfl hR.sl rfl (WO.p rfl rfl (WO.nil (W.block ?_)))))))))
 refine W.loop (fun (i : Nat) => i ≤ xs.length ∧ ∀ x ∈ xs.take i, lo ≤ x ∧ x ≤ hi)
  (fun (i : Nat) => [(8, .int .i64 (i : Int)), (7, .int .i64 (xs.length : Int)), (0, v), (1, .func (.func 247) #[] #[.pointer (some p), .pointer (some q)])])
  (fun (i : Nat) => [])
  (fun (i : Nat) => xs.length - i) 0
  (by exact ⟨by omega, by simp⟩) ⟨rfl, rfl, rfl, rfl, trivial⟩ (by repeat (first | exact Sub.nil | refine Sub.cons (by repeat first | exact .head | apply Pick.tail) ?_)) ?_
 rintro i ⟨hi0, hal⟩
 refine W.sreg (WO.p rfl rfl (WO.nil (W.seq ?_)))
 refine W.cond_bl rfl (fun c1 => ?_) (fun c1 => ?_)
 ·refine W.skip (W.seq (W.block (W.sreg (WO.p rfl rfl (WO.p rfl rfl (WO.nil (W.sreg (WO.p rfl rfl (WO.p rfl rfl (WO.p rfl rfl (WO.indexAddr rfl rfl rfl hR.sl (by first | omega | (simp; omega)) rfl ?_)))))))))))
  refine' WO.load (v := _) rfl rfl ?hc rfl ?_
  case hc => (first | (refine hR.cell0 ?_ 0 ?_ <;> first | rfl | omega))
  refine WO.callCR (first := []) (captured := [.pointer (some p), .pointer (some q)]) rfl rfl Tryz.call247 (fun L w hi' => c_within1 w (xs.getD i 0) lo hi p q (h1.old rfl hi') (h2.old rfl hi')) rfl (WO.nil ?_)
  refine W.cond_bl rfl (fun c2 => ?_) (fun c2 => ?_)
  ·refine W.sreg (WO.p rfl rfl (WO.p rfl rfl (WO.nil (W.ret ?_))))
   exact fin.ret (Res.one rfl (RV.tmp rfl)) ⟨_, rfl, by first | exact ⟨fun h => by omega, fun h => absurd (all_len (by omega) hal) h⟩ | exact ⟨fun _ => not_all_getD (i := i) (by omega) 0 (by assumption), fun _ => by omega⟩⟩
  ·refine W.skip (W.region (WO.ar rfl rfl rfl (by unfold in64; omega) rfl (WO.p rfl rfl (WO.nil ?_))))
   refine' ⟨i + 1, ?hp, ?hmu, ⟨rfl, rfl, rfl, rfl, trivial⟩, ?hS⟩
   case hS => repeat (first | exact Sub.nil | refine Sub.cons (by repeat first | exact .head | apply Pick.tail) ?_)
   case hp => exact ⟨by omega, all_succ (by omega) 0 hal (Decidable.not_not.1 (by assumption))⟩
   case hmu => omega
 ·refine W.exit (blk_same (W.sreg (WO.p rfl rfl (WO.nil (W.ret ?_)))))
  exact fin.ret (Res.one rfl (RV.tmp rfl)) ⟨_, rfl, by first | exact ⟨fun h => by omega, fun h => absurd (all_len (by omega) hal) h⟩ | exact ⟨fun _ => not_all_getD (i := i) (by omega) 0 (by assumption), fun _ => by omega⟩⟩
theorem c_ContI (w : World) (v : Value) (xs : List Int) (lo hi : Int) (p q : Addr) (hR : RdF encI 1 w.heap.size w v xs) (h1 : Cap w p (.int .i64 lo)) (h2 : Cap w q (.int .i64 hi)) : Ret Tryz.prog 125 [v, .func (.func 247) #[] #[.pointer (some p), .pointer (some q)]].toArray w (.bool (bl (¬ ∀ x ∈ xs, lo ≤ x ∧ x ≤ hi))) := by
 refine Ret.of mixed tyTab Tryz.func125 rfl rfl ?_
 replace hR : RdF encI 1 (fnCx mixed tyTab Tryz.f125.ntmps w).B (fnCx mixed tyTab Tryz.f125.ntmps w).w0 v xs := hR
 replace h1 : Cap (fnCx mixed tyTab Tryz.f125.ntmps w).w0 p (.int .i64 lo) := h1
 replace h2 : Cap (fnCx mixed tyTab Tryz.f125.ntmps w).w0 q (.int .i64 hi) := h2
 refine W.sreg (WO.p rfl rfl (WO.nil (W.sreg (WO.p rfl rfl (WO.p rfl rfl (WO.callE rfl Tryz.call222 (fun L w hi' => c_IndexI w v xs lo hi p q (hR.later hi') (h1.old rfl hi') (h2.old rfl hi')) rfl ?_))))))
 rintro _ ⟨n, rfl, hn⟩
 refine WO.p rfl rfl (WO.p rfl rfl (WO.nil (W.ret (fin.ret (Res.one rfl (RV.tmp rfl)) (congrArg Value.bool ?_)))))
 rw [bl_eq, bl_eq]; exact decide_eq_decide.2 hn
theorem c_within (w : World) (v : Value) (xs : List Int) (lo hi : Int) (hR : RdF encI 1 w.heap.size w v xs) : Ret Tryz.prog 171 [.int .i64 lo, .int .i64 hi, v].toArray w (.bool (bl (∀ x ∈ xs, lo ≤ x ∧ x ≤ hi))) := by
 refine Ret.of mixed tyTab Tryz.func171 rfl rfl ?_
 replace hR : RdF encI 1 (fnCx mixed tyTab Tryz.f171.ntmps w).B (fnCx mixed tyTab Tryz.f171.ntmps w).w0 v xs := hR
 refine W.sreg (WO.box1 rfl (by first | rfl | assumption) rfl (fun b1 hb1 => (WO.box1 rfl (by first | rfl | assumption) rfl (fun b2 hb2 => (WO.p rfl rfl (WO.nil (W.sreg (WO.p rfl rfl (WO.p rfl rfl (WO.callR rfl Tryz.call125 (fun L w hi' => c_ContI w v xs lo hi _ _ (hR.later hi') (Cap.of (b := b1) (by repeat first | exact .head | apply Pick.tail) rfl hi') (Cap.of (b := b2) (by repeat first | exact .head | apply Pick.tail) rfl hi')) rfl (WO.p rfl rfl (WO.p rfl rfl (WO.nil (W.ret (fin.ret (Res.one rfl (RV.tmp rfl)) (congrArg Value.bool ?_))))))))))))))))
 rcases Decidable.em (∀ x ∈ xs, lo ≤ x ∧ x ≤ hi) with h | h
 ·(rw [bl_t.2 h, bl_f.2 (fun g => g h)]; try rfl)
 ·(rw [bl_f.2 h, bl_t.2 h]; try rfl)
end Go.Proofs.YtnehaifgcegemaaGreat.Tu
