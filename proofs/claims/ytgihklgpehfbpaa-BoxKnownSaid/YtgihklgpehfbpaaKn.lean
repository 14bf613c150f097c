/-
  What is proved here: the steps of a drawn region, one by one. Conditions: none; each rule states its own.
-/
import Derived.Test.YtgihklgpehfbpaaKm
namespace Go.TH
open Go
section
variable {P : Program} {C : Cx P} {E : Env} {H : List HP} {l : List Oper} {m : Nat} {K : KP} {XT : List Nat} {E0 : Env} {H0 A : List HP} {p : List Nd} {pre : List SE} {k d : Nat} {X : List Nat} {o : Oper}
theorem DT.nil {dn : List Nd} (H' : List HP) (e : A ++ H0 = H') (h : WO C l.toArray (l.drop m) K (allE (delE XT E0) pre) H') : DT C l m K XT E0 H0 [] dn pre A := by subst e; exact h
theorem DT.r {dn : List Nd} {v : Value} (ho : l[k]? = some o) (hd : o.dst = some d) (hN : Nat.blt d C.N = true) (h : WO C l.toArray [o] (fun E' H' => E' = (d, v) :: selE (afs o) (delE X E0) pre ∧ H' = []) (selE (afs o) (delE X E0) pre) [])
    (r : DT C l m K XT E0 H0 p (.r k X :: dn) (⟨k, d, v⟩ :: pre) A) : DT C l m K XT E0 H0 (.r k X :: p) dn pre A := ⟨o, d, v, ho, hd, hN, h, r⟩
theorem DT.b {dn : List Nd} {v : Value} (ho : l[k]? = some o) (hd : o.dst = some d) (hN : Nat.blt d C.N = true) (h : WO C l.toArray [o] (fun E' H' => E' = (d, v) :: selE (afs o) (delE X E0) pre ∧ H' = H0) (selE (afs o) (delE X E0) pre) H0)
    (r : DT C l m K XT E0 H0 p (.b k X :: dn) (⟨k, d, v⟩ :: pre) A) : DT C l m K XT E0 H0 (.b k X :: p) dn pre A := ⟨o, d, v, ho, hd, hN, h, r⟩
theorem DT.g {dn : List Nd} {Q : HP} {R : List HP} {v : Value} (pk : Pick Q (A ++ H0) R) (ho : l[k]? = some o) (hd : o.dst = some d) (hN : Nat.blt d C.N = true) (h : WO C l.toArray [o] (fun E' H' => E' = (d, v) :: selE (afs o) (delE X E0) pre ∧ H' = [Q]) (selE (afs o) (delE X E0) pre) [Q])
    (r : DT C l m K XT E0 H0 p (.g k X Q :: dn) (⟨k, d, v⟩ :: pre) A) : DT C l m K XT E0 H0 (.g k X Q :: p) dn pre A := ⟨o, d, v, ho, hd, hN, ⟨R, pk⟩, h, r⟩
theorem DT.f {dn : List Nd} {v : Value} (H' : List HP) (e : A ++ H0 = H') (ho : l[k]? = some o) (hd : o.dst = some d) (hN : Nat.blt d C.N = true) (h : WO C l.toArray [o] (fun E' H1 => E' = (d, v) :: selE (afs o) (delE X E0) pre ∧ H1 = H') (selE (afs o) (delE X E0) pre) H')
    (r : DT C l m K XT E0 H0 p (.f k X :: dn) (⟨k, d, v⟩ :: pre) A) : DT C l m K XT E0 H0 (.f k X :: p) dn pre A := by subst e; exact ⟨o, d, v, ho, hd, hN, h, r⟩
theorem DT.c {dn : List Nd} (H' : List HP) (e : A ++ H0 = H') (ho : l[k]? = some o) (hd : o.dst = some d) (hN : Nat.blt d C.N = true)
    (h : WO C l.toArray [o] (fun E' H1 => ∃ v A', E' = (d, v) :: selE (afs o) (delE X E0) pre ∧ H1 = A' ++ H0 ∧ Keep l k (A' ++ H0) dn ∧ DT C l m K XT E0 H0 p (.c k X :: dn) (⟨k, d, v⟩ :: pre) A') (selE (afs o) (delE X E0) pre) H') : DT C l m K XT E0 H0 (.c k X :: p) dn pre A := by subst e; exact ⟨o, d, ho, hd, hN, h⟩
theorem DT.s {dn : List Nd} (H' : List HP) (e : A ++ H0 = H') (ho : l[k]? = some o) (hd : o.dst = none)
    (h : WO C l.toArray [o] (fun E' H1 => ∃ A', E' = selE (afs o) (delE X E0) pre ∧ H1 = A' ++ H0 ∧ Keep l k (A' ++ H0) dn ∧ DT C l m K XT E0 H0 p (.s k X :: dn) pre A') (selE (afs o) (delE X E0) pre) H') : DT C l m K XT E0 H0 (.s k X :: p) dn pre A := by subst e; exact ⟨o, ho, hd, h⟩
theorem DT.a {dn : List Nd} {z : Obj} (h : ∀ b, DT C l m K XT E0 H0 p (.a k d z :: dn) (⟨k, d, .pointer (some ⟨b, 0, none⟩)⟩ :: pre) (pt b z :: A)) : DT C l m K XT E0 H0 (.a k d z :: p) dn pre A := h
theorem DT.rB {dn : List Nd} {q : Prop} {_inst : Decidable q} (ho : l[k]? = some o) (hd : o.dst = some d) (hN : Nat.blt d C.N = true) (h : WO C l.toArray [o] (fun E' H' => E' = (d, .bool (bl q)) :: selE (afs o) (delE X E0) pre ∧ H' = []) (selE (afs o) (delE X E0) pre) [])
    (ht : q → DT C l m K XT E0 H0 p (.r k X :: dn) (⟨k, d, .bool true⟩ :: pre) A) (hf : ¬ q → DT C l m K XT E0 H0 p (.r k X :: dn) (⟨k, d, .bool false⟩ :: pre) A) : DT C l m K XT E0 H0 (.r k X :: p) dn pre A := by
  by_cases hp : q
  · exact DT.r ho hd hN (by rw [bl_t.2 hp] at h; exact h) (ht hp)
  · exact DT.r ho hd hN (by rw [bl_f.2 hp] at h; exact h) (hf hp)
theorem DT.rNB {dn : List Nd} {q : Prop} {_inst : Decidable q} (ho : l[k]? = some o) (hd : o.dst = some d) (hN : Nat.blt d C.N = true) (h : WO C l.toArray [o] (fun E' H' => E' = (d, .bool (!(bl q))) :: selE (afs o) (delE X E0) pre ∧ H' = []) (selE (afs o) (delE X E0) pre) [])
    (ht : ¬ q → DT C l m K XT E0 H0 p (.r k X :: dn) (⟨k, d, .bool true⟩ :: pre) A) (hf : q → DT C l m K XT E0 H0 p (.r k X :: dn) (⟨k, d, .bool false⟩ :: pre) A) : DT C l m K XT E0 H0 (.r k X :: p) dn pre A := by
  by_cases hp : q
  · exact DT.r ho hd hN (by rw [bl_t.2 hp] at h; exact h) (hf hp)
  · exact DT.r ho hd hN (by rw [bl_f.2 hp] at h; exact h) (ht hp)
theorem Keep.g {dn : List Nd} {j : Nat} {Q : HP} (h : ((cloT l).getD k []).elem j = true ∨ ∃ R, Pick Q H R) (r : Keep l k H dn) : Keep l k H (.g j X Q :: dn) := ⟨h, r⟩
theorem Keep.r {dn : List Nd} {j : Nat} (h : Keep l k H dn) : Keep l k H (.r j X :: dn) := h
theorem Keep.b {dn : List Nd} {j : Nat} (h : Keep l k H dn) : Keep l k H (.b j X :: dn) := h
theorem Keep.f {dn : List Nd} {j : Nat} (h : Keep l k H dn) : Keep l k H (.f j X :: dn) := h
theorem Keep.c {dn : List Nd} {j : Nat} (h : Keep l k H dn) : Keep l k H (.c j X :: dn) := h
theorem Keep.s {dn : List Nd} {j : Nat} (h : Keep l k H dn) : Keep l k H (.s j X :: dn) := h
theorem Keep.a {dn : List Nd} {j : Nat} {z : Obj} (h : Keep l k H dn) : Keep l k H (.a j d z :: dn) := h
theorem Keep.nil : Keep l k H [] := trivial
/-- the variables that are made at will -/
theorem ALok.cons {T : TypeId} {z : Value} {cs : Array Value} {ty : TypeId} {pos : String} {af : Array Edge} {x : Obj} (ho : l[k]? = some ⟨some d, .alloc T, ty, pos, af, none⟩) (hz : C.tt.z? T = some z) (hc : z.cells = cs) (hN : Nat.blt d C.N = true) (hx : x = .cells cs T (0, 0)) (r : ALok C l p) : ALok C l (.a k d x :: p) := by
  subst hx
  exact ⟨⟨_, ho, rfl, hN, WO.alloc hz hc hN fun b _ => WO.nil ⟨b, rfl, rfl⟩⟩, r⟩
theorem ALok.r (h : ALok C l p) : ALok C l (.r k X :: p) := h
theorem ALok.b (h : ALok C l p) : ALok C l (.b k X :: p) := h
theorem ALok.f (h : ALok C l p) : ALok C l (.f k X :: p) := h
theorem ALok.c (h : ALok C l p) : ALok C l (.c k X :: p) := h
theorem ALok.s (h : ALok C l p) : ALok C l (.s k X :: p) := h
theorem ALok.g {Q : HP} (h : ALok C l p) : ALok C l (.g k X Q :: p) := h
theorem ALok.nil : ALok C l [] := trivial
end
end Go.TH
