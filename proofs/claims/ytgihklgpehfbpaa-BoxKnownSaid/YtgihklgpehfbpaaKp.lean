/-
  What is proved here: structs behind pointers, pieces as one piece, and functions that yield. Conditions: none; each rule states its own.
-/
import Derived.Test.YtgihklgpehfbpaaKo
namespace Go.TH
open Go
section
variable {P : Program} {C : Cx P} {E : Env} {H : List HP}
/-- p points to the cells vs, below block B -/
structure RdC (B : Nat) (w : World) (p : Addr) (vs : List Value) : Prop where
  lt : p.block < B
  at_ : ∀ j v, vs[j]? = some v → w.cell? (p.add j) = some v
theorem RdC.cellAt {p : Addr} {vs : List Value} (h : RdC C.B C.w0 p vs) {j : Nat} {u : Value} (hu : lget vs j = some u) : Cell C H (prt p j) u := by
  rw [lget_eq] at hu
  rw [prt_eq]
  exact Cell.old (by rw [addr_add_block]; exact h.lt) (h.at_ j u hu)
theorem addr_add_zero (p : Addr) : p.add 0 = p := by simp [Addr.add]
theorem RdC.cell0 {p : Addr} {vs : List Value} (h : RdC C.B C.w0 p vs) {u : Value} (hu : lget vs 0 = some u) : Cell C H p u := by
  have := h.cellAt (H := H) hu
  rw [prt_eq, addr_add_zero] at this
  exact this
theorem RdC.cells {p : Addr} {vs : List Value} (h : RdC C.B C.w0 p vs) : Cells C H p vs := fun j v hv => Cell.old (by rw [addr_add_block]; exact h.lt) (h.at_ j v hv)
theorem RdC.part {B : Nat} {w : World} {p : Addr} {vs us : List Value} (h : RdC B w p vs) (hs : ∀ (j : Nat) (v : Value), us[j]? = some v → vs[j]? = some v) : RdC B w p us := ⟨h.lt, fun j v hv => h.at_ j v (hs j v hv)⟩
theorem RdC.later {p : Addr} {vs : List Value} {L : List HP} {w : World} (h : RdC C.B C.w0 p vs) (hi : Inv C.w0 C.M (L ++ H) w) : RdC w.heap.size w p vs :=
  ⟨Nat.lt_of_lt_of_le h.lt (Nat.le_trans C.hB hi.size), fun j v hv => (h.cells (H := H)) j v hv L w hi⟩
theorem RdC.own {b : Nat} {cs : List Value} {t : TypeId} {fr : Nat × Nat} {H' L : List HP} {w : World} (p : Pick (pt b (.cells cs.toArray t fr)) H H') (hi : Inv C.w0 C.M (L ++ H) w) : RdC w.heap.size w ⟨b, 0, none⟩ cs :=
  ⟨by have h1 := (hi.look (p.app L)).1; exact (Array.getElem?_eq_some_iff.1 h1).1, fun j v hv => (Cells.own (C := C) p) j v hv L w hi⟩
/-! what is read below B, at another world that is alike below B -/
theorem cell_agree {B : Nat} {w w' : World} (hk : ∀ k, k < B → w'.heap[k]? = w.heap[k]?) {p : Addr} (hb : p.block < B) : w'.cell? p = w.cell? p := by
  unfold World.cell?
  rw [hk _ hb]
theorem RdC.agree {B : Nat} {w w' : World} {p : Addr} {vs : List Value} (h : RdC B w p vs) (hk : ∀ k, k < B → w'.heap[k]? = w.heap[k]?) : RdC B w' p vs :=
  ⟨h.lt, fun j v hv => by rw [cell_agree hk (by rw [addr_add_block]; exact h.lt)]; exact h.at_ j v hv⟩
theorem RdF.agree {α : Type} {enc : α → List Value} {sz B : Nat} {w w' : World} {v : Value} {xs : List α} (h : RdF enc sz B w v xs) (hk : ∀ k, k < B → w'.heap[k]? = w.heap[k]?) : RdF enc sz B w' v xs :=
  ⟨h.sl, h.blk, fun i x hx j u hu => by
    rw [cell_agree hk (by rw [addr_add_block, addr_add_block]; exact h.blk (by have := (List.getElem?_eq_some_iff.1 hx).1; omega))]; exact h.cell i x hx j u hu⟩
theorem RdR.agree {α : Type} {enc : α → List Value} {sz B : Nat} {w w' : World} {v : Value} {rv : List Value} {xss : List (List α)} (h : RdR enc sz B w v rv xss) (hk : ∀ k, k < B → w'.heap[k]? = w.heap[k]?) : RdR enc sz B w' v rv xss :=
  ⟨h.out.agree hk, h.len, fun i hl => (h.row' i hl).agree hk⟩
theorem RdC.up {B B' : Nat} {w : World} {p : Addr} {vs : List Value} (h : RdC B w p vs) (hB : B ≤ B') : RdC B' w p vs := ⟨Nat.lt_of_lt_of_le h.lt hB, h.at_⟩
theorem RdF.up {α : Type} {enc : α → List Value} {sz B B' : Nat} {w : World} {v : Value} {xs : List α} (h : RdF enc sz B w v xs) (hB : B ≤ B') : RdF enc sz B' w v xs := ⟨h.sl, fun hl => Nat.lt_of_lt_of_le (h.blk hl) hB, h.cell⟩
theorem RdR.up {α : Type} {enc : α → List Value} {sz B B' : Nat} {w : World} {v : Value} {rv : List Value} {xss : List (List α)} (h : RdR enc sz B w v rv xss) (hB : B ≤ B') : RdR enc sz B' w v rv xss := ⟨h.out.up hB, h.len, fun i hl => (h.row' i hl).up hB⟩
theorem IsSl.oc {v : Value} {n : Nat} (h : IsSl v n) : v.oneCell' = true := by
  obtain ⟨_, a, c, rfl, _⟩ := h
  rfl
/-! ## Some pieces as one -/
theorem sat_one {Hs H : List HP} : ∀ h, sat (Hs ++ H) h → sat (sat Hs :: H) h := fun h hs => by
  obtain ⟨h1, h2, s, x, y⟩ := sat_app hs
  exact ⟨h1, h2, s, x, y⟩
theorem sat_many {Hs H : List HP} : ∀ h, sat (sat Hs :: H) h → sat (Hs ++ H) h := fun _ ⟨_, _, s, x, y⟩ => sat_join s x y
/-- an array of one's own, at a number that is known -/
theorem WO.indexArrL {ops : Array Oper} {K : KP} {rest : List Oper} {d : Nat} {ty : TypeId} {pos : String} {af : Array Edge} {x y : Operand} {T : TypeId} {len e sz b off o' : Nat} {k : IntKind} {i : Nat} (hT : C.tt.ar? T = some (len, e, sz)) (hx : ev E x = some (.pointer (some ⟨b, off, none⟩))) (hy : ev E y = some (.int k (i : Int))) (h1 : i < len) (ho : off + i * sz = o') (hN : Nat.blt d C.N = true)
    (h : WO C ops rest K ((d, .pointer (some ⟨b, o', none⟩)) :: E) H) : WO C ops (⟨some d, .indexAddr T x y, ty, pos, af, none⟩ :: rest) K E H := by
  subst ho
  refine WO.indexArr hT hx hy (by omega) (by omega) hN ?_
  have e : Addr.add ⟨b, off, none⟩ ((i : Int).toNat * sz) = ⟨b, off + i * sz, none⟩ := by
    rw [Int.toNat_natCast]; unfold Addr.add; split
    · rename_i h0; simp [h0]
    · rfl
  rw [e]; exact h
/-! ## A function that yields -/
variable {ops : Array Oper} {K : KP} {rest : List Oper} {d : Nat} {ty : TypeId} {pos : String} {af : Array Edge} {x : Operand} {xs : List Operand} {ats : Array TypeId} {vs : List Value}
theorem YieldOK.one {B : Nat} {wr : World} {l : Nat} {args : Array Value} {Hp Hq : List HP} (h : YieldOK P B wr l args Hp Hq) : YieldOK P B wr l args [sat Hp] [sat Hq] := fun w M' h1 h2 h3 h4 => by
  have e : ∀ (Hx : List HP) (w : World), Inv w M' [sat Hx] w → Inv w M' Hx w := fun Hx w hi => by
    have := Inv.chg (L := []) hi (sat_many (Hs := Hx) (H := []))
    simpa using this
  obtain ⟨f, tmps, as, body, hr, hd⟩ := h w M' h1 h2 h3 (e Hp w h4)
  refine ⟨f, tmps, as, body, hr, RoundIn.mono hd ?_⟩
  rintro e w' ⟨rfl, hi⟩
  refine ⟨rfl, ?_⟩
  have := Inv.chg (L := []) (H := Hq ++ []) (by simpa using hi) (sat_one (Hs := Hq) (H := []))
  simpa using this
theorem YieldOK.agree {B : Nat} {wr w0 : World} {l : Nat} {args : Array Value} {Hp Hq : List HP} (h : YieldOK P B wr l args Hp Hq) (hk : ∀ k, k < B → w0.heap[k]? = wr.heap[k]?) : YieldOK P B w0 l args Hp Hq := fun w M' h1 h2 h3 h4 =>
  h w M' h1 (fun k hlt => by rw [h2 k hlt, hk k hlt]) h3 h4
theorem WO.yield {l : Nat} {A A' : HP} {H' : List HP} (hx : ev E x = some (.func (.yield l) #[] #[])) (hxs : evs E xs = some vs) (p : Pick A H H') (hy : YieldOK P C.B C.w0 l vs.toArray [A] [A']) (hN : Nat.blt d C.N = true)
    (h : WO C ops rest K ((d, .bool true) :: E) (A' :: H')) : WO C ops (⟨some d, .call ⟨.value x, xs.toArray, ats⟩, ty, pos, af, none⟩ :: rest) K E H :=
  WO.step rfl rfl hN (XO.yield (Hp := [A]) (Hr := H') (Hq := [A']) hx hxs (.cons p (Sub.refl _)) hy h)
/-- the context of a function that yields -/
def itCx (hm : P.follows .mixedOrders = true) (tt : TTab P) (N : Nat) (w : World) (M : List Nat) (B : Nat) (hB : B ≤ w.heap.size) (hM : ∀ b ∈ M, B ≤ b) : Cx P := ⟨none, N, w, M, B, hB, hM, hm, tt⟩
theorem Iter.of {f : FuncId} {fn : Func} {c : Code} {vs : List Value} {w : World} {M : List Nat} {B : Nat} {Hit : List HP} {A A' : List HP} (hm : P.follows .mixedOrders = true) (tt : TTab P) (hB : B ≤ w.heap.size) (hM : ∀ b ∈ M, B ≤ b)
    (hf : P.funcs[f]? = some fn) (hb : fn.body = some c) (ha : Nat.ble vs.length fn.ntmps = true) (hi : Inv w M (Hit ++ A) w)
    (h : W (itCx hm tt fn.ntmps w M B hB hM) c (fin (itCx hm tt fn.ntmps w M B hB hM) fn (fun _ H => Sub H (Hit ++ [sat A']))) (enumE 0 vs) (Hit ++ [sat A])) : Ct P f vs.toArray w fun _ w' => Inv w M (Hit ++ A') w' := by
  have h1 : Inv w M (Hit ++ [sat A]) w := Inv.chg (L := Hit) (H := A ++ []) (by simpa using hi) sat_one
  refine (Ct.of_W (M := M) (Hp := Hit ++ [sat A]) (itCx hm tt fn.ntmps w M B hB hM) rfl rfl rfl hf hb rfl (by simpa [itCx] using Nat.ble_eq.mp ha) (fun t v hv => by
    have := lk_enumE vs 0 t v hv
    simpa using this.2) h h1).mono ?_
  rintro v w' ⟨Hq, s, hi'⟩
  have h2 : Inv w M (Hit ++ (A' ++ [])) w' := Inv.chg (L := Hit) (hi'.sub s) sat_many
  simpa using h2
end
end Go.TH
