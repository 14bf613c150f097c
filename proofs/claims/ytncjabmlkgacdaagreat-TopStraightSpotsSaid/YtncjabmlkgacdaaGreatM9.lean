/-
  What is proved here: lists, numbers, reading and writing of an evaluator in forms that are quick to reckon. Conditions: none; each lemma states its own.
-/
import Derived.Test.YtncjabmlkgacdaaGreatM7
import Derived.Test.YtncjabmlkgacdaaGreatM8
set_option linter.unusedVariables false
set_option linter.unusedSimpArgs false
namespace Go.TX
open Go Go.TH
noncomputable section
/-- what comes out at the end: a value (of a function), or where a code ends -/
structure Ans where
  v : SV
  e : Ex
  env : Tr SV
  ds : List Nat
  st : St
abbrev RB := Option (List Ans)
section lists
variable {α : Type}
def nthF (l : List α) : Nat → Option α := List.rec (motive := fun _ => Nat → Option α) (fun _ => none) (fun x _ ih n => Nat.rec (motive := fun _ => Option α) (some x) (fun m _ => ih m) n) l
theorem nthF_eq : ∀ (l : List α) (n : Nat), nthF l n = nth l n
  | [], n => by cases n <;> rfl
  | x :: r, 0 => rfl
  | x :: r, n + 1 => nthF_eq r n
def nthV (l : List SV) : Nat → Option SV := List.rec (motive := fun _ => Nat → Option SV) (fun _ => none) (fun x _ ih n => Nat.rec (motive := fun _ => Option SV) (some x) (fun m _ => ih m) n) l
theorem nthV_eq : ∀ (l : List SV) (n : Nat), nthV l n = nth l n
  | [], n => by cases n <;> rfl
  | x :: r, 0 => rfl
  | x :: r, n + 1 => nthV_eq r n
def takeF (l : List SV) : Nat → (List SV → RB) → RB := List.rec (motive := fun _ => Nat → (List SV → RB) → RB) (fun n k => Nat.rec (motive := fun _ => RB) (k []) (fun _ _ => none) n) (fun x _ ih n k => Nat.rec (motive := fun _ => RB) (k []) (fun m _ => ih m (fun t => k (x :: t))) n) l
theorem takeF_eq : ∀ (l : List SV) (n : Nat) (k : List SV → RB), takeF l n k = takeK l n k
  | [], 0, k => by simp [takeK]; rfl
  | [], n + 1, k => by simp [takeK]; rfl
  | x :: r, 0, k => by simp [takeK]; rfl
  | x :: r, n + 1, k => by simp only [takeK]; exact takeF_eq r n _
def subF (l : List SV) : Nat → Nat → (List SV → RB) → RB := List.rec (motive := fun _ => Nat → Nat → (List SV → RB) → RB) (fun o n k => Nat.rec (motive := fun _ => RB) (takeF [] n k) (fun _ _ => none) o) (fun x r ih o n k => Nat.rec (motive := fun _ => RB) (takeF (x :: r) n k) (fun o' _ => ih o' n k) o) l
theorem subF_eq : ∀ (l : List SV) (o n : Nat) (k : List SV → RB), subF l o n k = subK l o n k
  | [], 0, n, k => by simp only [subK]; exact takeF_eq [] n k
  | [], o + 1, n, k => by cases n <;> simp [subK] <;> rfl
  | x :: r, 0, n, k => by simp only [subK]; exact takeF_eq (x :: r) n k
  | x :: r, o + 1, n, k => by simp only [subK]; exact subF_eq r o n k
def preF (l : List SV) (vs : List SV) (k : List SV → RB) : RB := List.rec (motive := fun _ => List SV → (List SV → RB) → RB) (fun r k => k r) (fun v _ ih r k => List.rec (motive := fun _ => RB) none (fun _ r' _ => ih r' (fun t => k (v :: t))) r) vs l k
theorem preF_eq : ∀ (vs l : List SV) (k : List SV → RB), preF l vs k = preK l vs k
  | [], l, k => by cases l <;> simp [preK] <;> rfl
  | v :: vs, [], k => by simp [preK]; rfl
  | v :: vs, x :: r, k => by simp only [preK]; exact preF_eq vs r _
def wrF (l : List SV) : Nat → List SV → (List SV → RB) → RB := List.rec (motive := fun _ => Nat → List SV → (List SV → RB) → RB) (fun o vs k => Nat.rec (motive := fun _ => RB) (preF [] vs k) (fun _ _ => none) o) (fun x r ih o vs k => Nat.rec (motive := fun _ => RB) (preF (x :: r) vs k) (fun o' _ => ih o' vs (fun t => k (x :: t))) o) l
theorem wrF_eq : ∀ (l : List SV) (o : Nat) (vs : List SV) (k : List SV → RB), wrF l o vs k = wrK l o vs k
  | [], 0, vs, k => by simp [wrK]; exact preF_eq _ _ _
  | [], o + 1, vs, k => by simp [wrK]; rfl
  | x :: r, 0, vs, k => by simp [wrK]; exact preF_eq _ _ _
  | x :: r, o + 1, vs, k => by simp only [wrK]; exact wrF_eq r o vs _
def llenF (l : List SV) : Nat := List.rec (motive := fun _ => Nat) 0 (fun _ _ ih => Nat.succ ih) l
theorem llenF_eq : ∀ (l : List SV), llenF l = llen l
  | [] => rfl
  | _ :: r => congrArg Nat.succ (llenF_eq r)
def membF (x : Nat) (l : List Nat) : Bool := List.rec (motive := fun _ => Bool) false (fun y _ ih => Bool.rec (motive := fun _ => Bool) ih true (Nat.beq x y)) l
theorem membF_eq (x : Nat) : ∀ (l : List Nat), membF x l = memb x l
  | [] => rfl
  | y :: r => by
    simp only [memb]
    show Bool.rec (motive := fun _ => Bool) (membF x r) true (Nat.beq x y) = _
    rw [membF_eq x r]
    cases Nat.beq x y <;> rfl
def insF (b x : Nat) (l : List Nat) (k : List Nat → RB) : RB := Bool.rec (motive := fun _ => RB) (k l) (Bool.rec (motive := fun _ => RB) (k (x :: l)) (k l) (membF x l)) (Nat.ble (Nat.succ x) b)
theorem insF_eq (b x : Nat) (l : List Nat) (k : List Nat → RB) : insF b x l k = insK b x l k := by
  unfold insF insK Nat.blt
  rw [membF_eq]
  cases Nat.ble (Nat.succ x) b <;> cases memb x l <;> rfl
end lists
section
/-! ### Looks at values -/
def ptrF (v : SV) (d : RB) (f : Nat → Nat → RB) : RB := SV.rec (motive_1 := fun _ => RB → (Nat → Nat → RB) → RB) (motive_2 := fun _ => PUnit) (fun _ d _ => d) (fun b o _ f => f b o) (fun _ _ _ _ d _ => d) (fun d _ => d) (fun _ d _ => d) (fun _ _ _ _ _ d _ => d) (fun _ d _ => d) (fun _ _ d _ => d) (fun _ _ d _ => d) (fun d _ => d) ⟨⟩ (fun _ _ _ _ => ⟨⟩) v d f
theorem ptrF_eq (v : SV) (d : RB) (f : Nat → Nat → RB) : ptrF v d f = match v with
    | .ptr b o => f b o
    | _ => d := by cases v <;> rfl
def valF (v : Value) (d : RB) (f : IntKind → Int → RB) : RB := Value.rec (motive_1 := fun _ => RB → (IntKind → Int → RB) → RB) (motive_2 := fun _ => PUnit) (motive_3 := fun _ => PUnit) (fun _ d _ => d) (fun k n _ f => f k n) (fun _ _ d _ => d) (fun _ _ _ d _ => d) (fun _ d _ => d) (fun _ d _ => d) (fun _ _ _ d _ => d) (fun _ d _ => d) (fun _ d _ => d) (fun _ _ _ _ _ d _ => d) (fun d _ => d) (fun _ _ _ d _ => d) (fun d _ => d) (fun _ _ d _ => d) (fun _ _ d _ => d) (fun _ _ => ⟨⟩) ⟨⟩ (fun _ _ _ _ => ⟨⟩) v d f
def intF (v : SV) (d : RB) (f : IntKind → Int → RB) : RB := SV.rec (motive_1 := fun _ => RB → (IntKind → Int → RB) → RB) (motive_2 := fun _ => PUnit) (fun v d f => valF v d f) (fun _ _ d _ => d) (fun _ _ _ _ d _ => d) (fun d _ => d) (fun _ d _ => d) (fun _ _ _ _ _ d _ => d) (fun _ d _ => d) (fun _ _ d _ => d) (fun _ _ d _ => d) (fun d _ => d) ⟨⟩ (fun _ _ _ _ => ⟨⟩) v d f
/-! ### Numbers -/
def nnQ (k : IntKind) (r : Nat) (f : SV → RB) : RB := Nat.rec (motive := fun _ => RB) (f (.raw (.int k (.ofNat 0)))) (fun r' _ => Bool.rec (motive := fun _ => RB) (f (.raw (.int k (k.wrap (.ofNat (Nat.succ r')))))) (f (.raw (.int k (.ofNat (Nat.succ r'))))) (Nat.ble (Nat.succ r') (kmax k))) r
theorem nnQ_eq (k : IntKind) (r : Nat) (f : SV → RB) : nnQ k r f = f (.raw (.int k (k.wrap (.ofNat r)))) := by
  cases r with
  | zero =>
    show f _ = _
    rw [show k.wrap (.ofNat 0) = 0 from wrap_pos (k := k) (m := 0) (Nat.zero_le _)]; rfl
  | succ r =>
    show Bool.rec (motive := fun _ => RB) (f (.raw (.int k (k.wrap (.ofNat (Nat.succ r)))))) (f (.raw (.int k (.ofNat (Nat.succ r))))) (Nat.ble (Nat.succ r) (kmax k)) = _
    cases h : Nat.ble (Nat.succ r) (kmax k) with
    | false => rfl
    | true =>
      show f _ = f _
      rw [show k.wrap (.ofNat (r + 1)) = .ofNat (r + 1) from wrap_pos (k := k) (m := r + 1) (Nat.ble_eq.mp h)]
def ngQ (k : IntKind) (r : Nat) (f : SV → RB) : RB := Bool.rec (motive := fun _ => RB) (f (.raw (.int k (k.wrap (.negSucc r))))) (Bool.rec (motive := fun _ => RB) (f (.raw (.int k (k.wrap (.negSucc r))))) (Nat.rec (motive := fun _ => RB) (f (.raw (.int k (.negSucc 0)))) (fun r' _ => f (.raw (.int k (.negSucc (Nat.succ r'))))) r) (Nat.ble r (kmax k))) (ksg k)
theorem ngQ_eq (k : IntKind) (r : Nat) (f : SV → RB) : ngQ k r f = f (.raw (.int k (k.wrap (.negSucc r)))) := by
  unfold ngQ
  cases hk : ksg k with
  | false => rfl
  | true =>
    cases h : Nat.ble r (kmax k) with
    | false => rfl
    | true =>
      show Nat.rec (motive := fun _ => RB) (f (.raw (.int k (.negSucc 0)))) (fun r' _ => f (.raw (.int k (.negSucc (Nat.succ r'))))) r = _
      rw [wrap_neg hk (Nat.ble_eq.mp h)]
      cases r <;> rfl
/-- the difference of two natural numbers -/
def dfQ (k : IntKind) (m n : Nat) (f : SV → RB) : RB := Bool.rec (motive := fun _ => RB) (ngQ k (Nat.sub n (Nat.succ m)) f) (nnQ k (Nat.sub m n) f) (Nat.ble n m)
theorem dfQ_eq (k : IntKind) (m n : Nat) (f : SV → RB) : dfQ k m n f = f (.raw (.int k (k.wrap ((m : Int) - (n : Int))))) := by
  unfold dfQ
  rw [nnQ_eq, ngQ_eq]
  cases h : Nat.ble n m with
  | true =>
    have := Nat.ble_eq.mp h
    show f (.raw (.int k (k.wrap (.ofNat (m - n))))) = _
    rw [show (Int.ofNat (m - n)) = (m : Int) - n by simp; omega]
  | false =>
    have : ¬ n ≤ m := fun q => by rw [Nat.ble_eq.mpr q] at h; cases h
    show f (.raw (.int k (k.wrap (.negSucc (n - (m + 1)))))) = _
    rw [show (Int.negSucc (n - (m + 1))) = (m : Int) - n by rw [Int.negSucc_eq]; omega]
def addQ (k : IntKind) (x y : Int) (f : SV → RB) : RB := Int.rec (motive := fun _ => RB) (fun m => Int.rec (motive := fun _ => RB) (fun n => nnQ k (Nat.add m n) f) (fun n => dfQ k m (Nat.succ n) f) y) (fun m => Int.rec (motive := fun _ => RB) (fun n => dfQ k n (Nat.succ m) f) (fun n => ngQ k (Nat.succ (Nat.add m n)) f) y) x
theorem addQ_eq (k : IntKind) (x y : Int) (f : SV → RB) : addQ k x y f = f (.raw (.int k (k.wrap (x + y)))) := by
  cases x with
  | ofNat m => cases y with
    | ofNat n => exact nnQ_eq k (m + n) f
    | negSucc n =>
      refine (dfQ_eq k m (n + 1) f).trans ?_
      rw [show (m : Int) - ((n + 1 : Nat) : Int) = Int.ofNat m + Int.negSucc n by rw [Int.negSucc_eq]; simp; omega]
  | negSucc m => cases y with
    | ofNat n =>
      refine (dfQ_eq k n (m + 1) f).trans ?_
      rw [show (n : Int) - ((m + 1 : Nat) : Int) = Int.negSucc m + Int.ofNat n by rw [Int.negSucc_eq]; simp; omega]
    | negSucc n => exact ngQ_eq k (m + n + 1) f
def subQ (k : IntKind) (x y : Int) (f : SV → RB) : RB := Int.rec (motive := fun _ => RB) (fun m => Int.rec (motive := fun _ => RB) (fun n => dfQ k m n f) (fun n => nnQ k (Nat.succ (Nat.add m n)) f) y) (fun m => Int.rec (motive := fun _ => RB) (fun n => ngQ k (Nat.add m n) f) (fun n => dfQ k n m f) y) x
theorem subQ_eq (k : IntKind) (x y : Int) (f : SV → RB) : subQ k x y f = f (.raw (.int k (k.wrap (x - y)))) := by
  cases x with
  | ofNat m => cases y with
    | ofNat n => exact dfQ_eq k m n f
    | negSucc n =>
      refine (nnQ_eq k (m + n + 1) f).trans ?_
      rw [show Int.ofNat (m + n + 1) = Int.ofNat m - Int.negSucc n by rw [Int.negSucc_eq]; simp; omega]
  | negSucc m => cases y with
    | ofNat n =>
      refine (ngQ_eq k (m + n) f).trans ?_
      rw [show Int.negSucc (m + n) = Int.negSucc m - Int.ofNat n by rw [Int.negSucc_eq, Int.negSucc_eq]; simp; omega]
    | negSucc n =>
      refine (dfQ_eq k n m f).trans ?_
      rw [show (n : Int) - (m : Int) = Int.negSucc m - Int.negSucc n by rw [Int.negSucc_eq, Int.negSucc_eq]; omega]
def mulQ (k : IntKind) (x y : Int) (f : SV → RB) : RB := Int.rec (motive := fun _ => RB) (fun m => Int.rec (motive := fun _ => RB) (fun n => nnQ k (Nat.mul m n) f) (fun n => Nat.rec (motive := fun _ => RB) (nnQ k 0 f) (fun m' _ => ngQ k (Nat.pred (Nat.mul (Nat.succ m') (Nat.succ n))) f) m) y) (fun m => Int.rec (motive := fun _ => RB) (fun n => Nat.rec (motive := fun _ => RB) (nnQ k 0 f) (fun n' _ => ngQ k (Nat.pred (Nat.mul (Nat.succ m) (Nat.succ n'))) f) n) (fun n => nnQ k (Nat.mul (Nat.succ m) (Nat.succ n)) f) y) x
theorem mulQ_eq (k : IntKind) (x y : Int) (f : SV → RB) : mulQ k x y f = f (.raw (.int k (k.wrap (x * y)))) := by
  have hm : ∀ a b : Nat, Nat.pred (Nat.mul (Nat.succ a) (Nat.succ b)) + 1 = (a + 1) * (b + 1) := by
    intro a b
    have : 0 < (a + 1) * (b + 1) := Nat.mul_pos (by omega) (by omega)
    show (a + 1) * (b + 1) - 1 + 1 = _
    omega
  cases x with
  | ofNat m =>
    cases y with
    | ofNat n => exact nnQ_eq k (m * n) f
    | negSucc n =>
      cases m with
      | zero =>
        refine (nnQ_eq k 0 f).trans ?_
        rw [show Int.ofNat 0 * Int.negSucc n = Int.ofNat 0 by simp]
      | succ m =>
        refine (ngQ_eq k (Nat.pred (Nat.mul (Nat.succ m) (Nat.succ n))) f).trans ?_
        rw [show Int.negSucc (Nat.pred (Nat.mul (Nat.succ m) (Nat.succ n))) = Int.ofNat (m + 1) * Int.negSucc n by
          rw [Int.negSucc_eq, Int.negSucc_eq]
          have := hm m n
          have h2 : ((Nat.pred (Nat.mul (Nat.succ m) (Nat.succ n)) : Nat) : Int) + 1 = ((m + 1 : Nat) : Int) * ((n + 1 : Nat) : Int) := by rw [← Int.natCast_mul, ← this]; simp
          rw [h2, Int.mul_neg]; simp]
  | negSucc m =>
    cases y with
    | ofNat n =>
      cases n with
      | zero =>
        refine (nnQ_eq k 0 f).trans ?_
        rw [show Int.negSucc m * Int.ofNat 0 = Int.ofNat 0 by simp]
      | succ n =>
        refine (ngQ_eq k (Nat.pred (Nat.mul (Nat.succ m) (Nat.succ n))) f).trans ?_
        rw [show Int.negSucc (Nat.pred (Nat.mul (Nat.succ m) (Nat.succ n))) = Int.negSucc m * Int.ofNat (n + 1) by
          rw [Int.negSucc_eq, Int.negSucc_eq]
          have := hm m n
          have h2 : ((Nat.pred (Nat.mul (Nat.succ m) (Nat.succ n)) : Nat) : Int) + 1 = ((m + 1 : Nat) : Int) * ((n + 1 : Nat) : Int) := by rw [← Int.natCast_mul, ← this]; simp
          rw [h2, Int.neg_mul]; simp]
    | negSucc n => exact nnQ_eq k (Nat.succ m * Nat.succ n) f
def iltF (x y : Int) : Bool := Int.rec (motive := fun _ => Bool) (fun m => Int.rec (motive := fun _ => Bool) (fun n => Nat.ble (Nat.succ m) n) (fun _ => false) y) (fun m => Int.rec (motive := fun _ => Bool) (fun _ => true) (fun n => Nat.ble (Nat.succ n) m) y) x
theorem iltF_eq (x y : Int) : iltF x y = ilt x y := by cases x <;> cases y <;> rfl
def ieqF (x y : Int) : Bool := Int.rec (motive := fun _ => Bool) (fun m => Int.rec (motive := fun _ => Bool) (fun n => Nat.beq m n) (fun _ => false) y) (fun m => Int.rec (motive := fun _ => Bool) (fun _ => false) (fun n => Nat.beq m n) y) x
theorem ieqF_eq (x y : Int) : ieqF x y = ieq x y := by cases x <;> cases y <;> rfl
def tF (b : Bool) (f : SV → RB) : RB := Bool.rec (motive := fun _ => RB) (f (.raw (.bool false))) (f (.raw (.bool true))) b
def nF (b : Bool) (f : SV → RB) : RB := Bool.rec (motive := fun _ => RB) (f (.raw (.bool true))) (f (.raw (.bool false))) b
end
/-! ### Outcomes that are the same -/
section
def rawI (v u : Value) : Bool := match v with
  | .int k n => match u with
    | .int k' n' => Bool.rec (motive := fun _ => Bool) false (ieqF n n') (kEq k k')
    | _ => false
  | _ => eqW v u
theorem rawI_eq (v u : Value) : rawI v u = eqW v u := by
  cases v with
  | int k n =>
    cases u with
    | int k' n' =>
      show Bool.rec (motive := fun _ => Bool) false (ieqF n n') (kEq k k') = (k == k' && n == n')
      have h1 : kEq k k' = (k == k') := by cases k <;> cases k' <;> rfl
      have h2 : ieqF n n' = (n == n') := by rw [ieqF_eq, ieq_eq]; rfl
      rw [h1, h2]
      cases k == k' <;> rfl
    | _ => rfl
  | _ => rfl
def eqVQ (a b : SV) : Bool := match a with
  | .raw v => match b with
    | .raw u => rawI v u
    | _ => false
  | .ptr x o => match b with
    | .ptr x' o' => Bool.rec (motive := fun _ => Bool) false (Nat.beq o o') (Nat.beq x x')
    | _ => false
  | .sl x o n c => match b with
    | .sl x' o' n' c' => Bool.rec (motive := fun _ => Bool) false (Bool.rec (motive := fun _ => Bool) false (Bool.rec (motive := fun _ => Bool) false (eqC c c') (Nat.beq n n')) (Nat.beq o o')) (Nat.beq x x')
    | _ => false
  | .sl0 => match b with
    | .sl0 => true
    | _ => false
  | a => eqV a b
theorem eqVQ_eq (a b : SV) : eqVQ a b = eqV a b := by
  cases a with
  | raw v => cases b <;> simp only [eqVQ, eqV, rawI_eq]
  | ptr x o =>
    cases b with
    | ptr x' o' => simp only [eqVQ, eqV]; cases Nat.beq x x' <;> rfl
    | _ => simp only [eqVQ, eqV]
  | sl x o n c =>
    cases b with
    | sl x' o' n' c' =>
      simp only [eqVQ, eqV]
      cases Nat.beq x x' <;> cases Nat.beq o o' <;> cases Nat.beq n n' <;> rfl
    | _ => simp only [eqVQ, eqV]
  | sl0 => cases b <;> simp only [eqVQ, eqV]
  | _ => rfl
def eqVsQ (l : List SV) : List SV → Bool := List.rec (motive := fun _ => List SV → Bool) (fun r => List.rec (motive := fun _ => Bool) true (fun _ _ _ => false) r) (fun x _ ih r => List.rec (motive := fun _ => Bool) false (fun y r' _ => Bool.rec (motive := fun _ => Bool) false (ih r') (eqVQ x y)) r) l
theorem eqVsQ_eq : ∀ (l r : List SV), eqVsQ l r = eqVs l r
  | [], [] => by simp only [eqVs]; rfl
  | [], _ :: _ => by simp only [eqVs]; rfl
  | _ :: _, [] => by simp only [eqVs]; rfl
  | x :: l, y :: r => by
    simp only [eqVs, ← eqVsQ_eq l r, ← eqVQ_eq]
    show Bool.rec (motive := fun _ => Bool) false (eqVsQ l r) (eqVQ x y) = _
    cases eqVQ x y <;> rfl
def eqOQ (o o' : SO) : Bool := match o with
  | .cells l e op => match o' with
    | .cells l' e' op' => Bool.rec (motive := fun _ => Bool) false (Bool.rec (motive := fun _ => Bool) false (eqB op op') (Nat.beq e e')) (eqVsQ l l')
    | _ => false
  | o => eqO o o'
theorem eqOQ_eq (o o' : SO) : eqOQ o o' = eqO o o' := by
  cases o with
  | cells l e op =>
    cases o' with
    | cells l' e' op' =>
      simp only [eqOQ, eqO, eqVsQ_eq]
      cases eqVs l l' <;> cases Nat.beq e e' <;> rfl
    | _ => rfl
  | _ => rfl
def meetF (n0 : Nat) (h1 h2 : Tr SO) (n : Nat) : Tr SO → (Tr SO → Option (SV × St)) → Option (SV × St) := Nat.rec (motive := fun _ => Tr SO → (Tr SO → Option (SV × St)) → Option (SV × St)) (fun h k => k h) (fun n ih h k => Option.rec (motive := fun _ => Option (SV × St)) (Option.rec (motive := fun _ => Option (SV × St)) (ih h k) (fun _ => Bool.rec (motive := fun _ => Option (SV × St)) none (ih h k) (Nat.ble n0 n)) (h2.get n)) (fun o1 => Option.rec (motive := fun _ => Option (SV × St)) (Bool.rec (motive := fun _ => Option (SV × St)) none (ih h k) (Nat.ble n0 n)) (fun o2 => Bool.rec (motive := fun _ => Option (SV × St)) (Bool.rec (motive := fun _ => Option (SV × St)) (Bool.rec (motive := fun _ => Option (SV × St)) none (ih h k) (Nat.ble n0 n)) (h.setK n (some o1) fun h' => ih h' k) (Nat.blt n n0 && eqLp o1 o2)) (h.setK n (some o1) fun h' => ih h' k) (eqOQ o1 o2)) (h2.get n)) (h1.get n)) n
theorem meetF_eq (n0 : Nat) (h1 h2 : Tr SO) : ∀ (n : Nat) (h : Tr SO) (k : Tr SO → Option (SV × St)), meetF n0 h1 h2 n h k = meetK n0 h1 h2 n h k
  | 0, _, _ => rfl
  | n + 1, h, k => by
    have ih := meetF_eq n0 h1 h2 n
    simp only [meetK, ← ih, ← eqOQ_eq]
    show Option.rec (motive := fun _ => Option (SV × St)) (Option.rec (motive := fun _ => Option (SV × St)) (meetF n0 h1 h2 n h k) (fun _ => Bool.rec (motive := fun _ => Option (SV × St)) none (meetF n0 h1 h2 n h k) (Nat.ble n0 n)) (h2.get n)) (fun o1 => Option.rec (motive := fun _ => Option (SV × St)) (Bool.rec (motive := fun _ => Option (SV × St)) none (meetF n0 h1 h2 n h k) (Nat.ble n0 n)) (fun o2 => Bool.rec (motive := fun _ => Option (SV × St)) (Bool.rec (motive := fun _ => Option (SV × St)) (Bool.rec (motive := fun _ => Option (SV × St)) none (meetF n0 h1 h2 n h k) (Nat.ble n0 n)) (h.setK n (some o1) fun h' => meetF n0 h1 h2 n h' k) (Nat.blt n n0 && eqLp o1 o2)) (h.setK n (some o1) fun h' => meetF n0 h1 h2 n h' k) (eqOQ o1 o2)) (h2.get n)) (h1.get n) = _
    cases h1.get n with
    | none =>
      cases h2.get n with
      | none => rfl
      | some o => simp only; cases Nat.ble n0 n <;> rfl
    | some o1 =>
      cases h2.get n with
      | none => simp only; cases Nat.ble n0 n <;> rfl
      | some o2 =>
        simp only
        cases eqOQ o1 o2 <;> cases (Nat.blt n n0 && eqLp o1 o2) <;> cases Nat.ble n0 n <;> rfl
def join2F (n0 : Nat) (p q : SV × St) : Option (SV × St) := match p with
  | (v, ⟨h, nx, b, R, W⟩) => match q with
    | (v', ⟨h', nx', b', R', W'⟩) => bif eqV v v' then (bif Nat.beq nx nx' then (bif Nat.beq b b' then meetF n0 h h' nx .lf fun h2 => appK R R' fun R2 => appK W W' fun W2 => some (v, ⟨h2, nx, b, R2, W2⟩) else none) else none) else none
theorem join2F_eq (n0 : Nat) (p q : SV × St) : join2F n0 p q = join2 n0 p q := by
  obtain ⟨v, h, nx, b, R, W⟩ := p
  obtain ⟨v', h', nx', b', R', W'⟩ := q
  simp only [join2F, join2, meetF_eq]
def joinAF (n0 : Nat) : SV × St → List (SV × St) → Option (SV × St)
  | p, [] => some p
  | p, q :: r => match join2F n0 p q with
    | some p' => joinAF n0 p' r
    | none => none
theorem joinAF_eq (n0 : Nat) : ∀ (p : SV × St) (l : List (SV × St)), joinAF n0 p l = joinA n0 p l
  | _, [] => rfl
  | p, q :: r => by
    simp only [joinAF, joinA, join2F_eq]
    cases join2 n0 p q with
    | none => rfl
    | some p' => exact joinAF_eq n0 p' r
def joinLF (n0 : Nat) : List (SV × St) → List (SV × St)
  | [] => []
  | p :: l => match l with
    | [] => [p]
    | q :: r => match joinAF n0 p (q :: r) with
      | some p' => [p']
      | none => p :: q :: r
theorem joinLF_eq (n0 : Nat) (l : List (SV × St)) : joinLF n0 l = joinL n0 l := by
  rcases l with _ | ⟨p, _ | ⟨q, r⟩⟩
  · rfl
  · rfl
  · simp only [joinLF, joinL, joinAF_eq]
    cases joinA n0 p (q :: r) <;> rfl
end
/-! ### What is reckoned once -/
structure Bx (α : Type) where
  val : α
def stg {α δ : Type} (b : Bx α) (f : α → δ) : δ := Bx.rec (motive := fun _ => δ) f b
theorem stg_eq {α δ : Type} (b : Bx α) (f : α → δ) : stg b f = f b.val := by cases b; rfl
/-! ### Operators -/
section
/-- of two numbers -/
abbrev BQ := IntKind → Int → IntKind → Int → (SV → RB) → RB
/-- the same kind is asked for -/
def sk (k k' : IntKind) (r : RB) : RB := Bool.rec (motive := fun _ => RB) none r (kEq k k')
/-- a natural number, reckoned -/
def ofQ (k : IntKind) (n : Nat) (f : SV → RB) : RB := Nat.rec (motive := fun _ => RB) (f (.raw (.int k (.ofNat 0)))) (fun m _ => f (.raw (.int k (.ofNat (Nat.succ m))))) n
theorem ofQ_eq (k : IntKind) (n : Nat) (f : SV → RB) : ofQ k n f = f (.raw (.int k (.ofNat n))) := by cases n <;> rfl
/-- of two natural numbers within the kind -/
def ntQ (op : Nat → Nat → Nat) (k : IntKind) (x y : Int) (f : SV → RB) : RB := Int.rec (motive := fun _ => RB) (fun m => Int.rec (motive := fun _ => RB) (fun n => Bool.rec (motive := fun _ => RB) none (Bool.rec (motive := fun _ => RB) none (ofQ k (op m n) f) (Nat.ble n (kmax k))) (Nat.ble m (kmax k))) (fun _ => none) y) (fun _ => none) x
theorem ntQ_eq (op : Nat → Nat → Nat) (k : IntKind) (x y : Int) (f : SV → RB) : ntQ op k x y f = match (match x with
    | .ofNat m => match y with
      | .ofNat n => bif Nat.ble m (kmax k) && Nat.ble n (kmax k) then intV k (.ofNat (op m n)) else none
      | _ => none
    | _ => none) with
    | some v => f v
    | none => none := by
  cases x with
  | negSucc m => rfl
  | ofNat m =>
    cases y with
    | negSucc n => rfl
    | ofNat n =>
      simp only [intV_eq]
      show Bool.rec (motive := fun _ => RB) none (Bool.rec (motive := fun _ => RB) none (ofQ k (op m n) f) (Nat.ble n (kmax k))) (Nat.ble m (kmax k)) = _
      rw [ofQ_eq]
      cases Nat.ble m (kmax k) <;> cases Nat.ble n (kmax k) <;> rfl
def shlQ (k : IntKind) (x y : Int) (f : SV → RB) : RB := Int.rec (motive := fun _ => RB) (fun m => Int.rec (motive := fun _ => RB) (fun n => Bool.rec (motive := fun _ => RB) none (nnQ k (Nat.shiftLeft m n) f) (Nat.ble n k.bits)) (fun _ => none) y) (fun _ => none) x
def shrQ (k : IntKind) (x y : Int) (f : SV → RB) : RB := Int.rec (motive := fun _ => RB) (fun m => Int.rec (motive := fun _ => RB) (fun n => Bool.rec (motive := fun _ => RB) none (ofQ k (Nat.shiftRight m n) f) (Nat.ble n k.bits)) (fun _ => none) y) (fun _ => none) x
/-- the quick form of some operators -/
def bqOf : BinOp → Option BQ
  | .add => some fun k x k' y f => sk k k' (addQ k x y f)
  | .sub => some fun k x k' y f => sk k k' (subQ k x y f)
  | .mul => some fun k x k' y f => sk k k' (mulQ k x y f)
  | .lss => some fun k x k' y f => sk k k' (tF (iltF x y) f)
  | .gtr => some fun k x k' y f => sk k k' (tF (iltF y x) f)
  | .leq => some fun k x k' y f => sk k k' (nF (iltF y x) f)
  | .geq => some fun k x k' y f => sk k k' (nF (iltF x y) f)
  | .eql => some fun k x k' y f => sk k k' (tF (ieqF x y) f)
  | .neq => some fun k x k' y f => sk k k' (nF (ieqF x y) f)
  | .and => some fun k x k' y f => sk k k' (ntQ Nat.land k x y f)
  | .or => some fun k x k' y f => sk k k' (ntQ Nat.lor k x y f)
  | .xor => some fun k x k' y f => sk k k' (ntQ Nat.xor k x y f)
  | .shl => some fun k x _ y f => shlQ k x y f
  | .shr => some fun k x _ y f => shrQ k x y f
  | _ => none
theorem sk_eq (k k' : IntKind) (r : RB) (s : Option SV) (f : SV → RB) (h : k = k' → r = match s with
    | some v => f v
    | none => none) : sk k k' r = match (bif kEq k k' then s else none) with
    | some v => f v
    | none => none := by
  unfold sk
  cases hk : kEq k k' with
  | false => rfl
  | true => exact h (kEq_eq hk)
theorem bqOf_ok {op : BinOp} {q : BQ} (h : bqOf op = some q) (k : IntKind) (x : Int) (k' : IntKind) (y : Int) (f : SV → RB) : q k x k' y f = match ibS op k x k' y with
    | some v => f v
    | none => none := by
  cases op <;> simp only [bqOf, reduceCtorEq, Option.some.injEq] at h <;> subst h <;> simp only [ibS]
  · refine sk_eq _ _ _ _ _ fun _ => ?_
    simp only [intV_eq, wrapF_eq]; exact addQ_eq ..
  · refine sk_eq _ _ _ _ _ fun _ => ?_
    simp only [intV_eq, wrapF_eq]; exact subQ_eq ..
  · refine sk_eq _ _ _ _ _ fun _ => ?_
    simp only [intV_eq, wrapF_eq]; exact mulQ_eq ..
  · exact sk_eq _ _ _ _ _ fun _ => ntQ_eq ..
  · exact sk_eq _ _ _ _ _ fun _ => ntQ_eq ..
  · exact sk_eq _ _ _ _ _ fun _ => ntQ_eq ..
  · cases x with
    | negSucc m => rfl
    | ofNat m => cases y with
      | negSucc n => rfl
      | ofNat n =>
        show Bool.rec (motive := fun _ => RB) none (nnQ k (Nat.shiftLeft m n) f) (Nat.ble n k.bits) = _
        simp only [intV_eq, wrapF_eq, nnQ_eq]
        cases Nat.ble n k.bits <;> rfl
  · cases x with
    | negSucc m => rfl
    | ofNat m => cases y with
      | negSucc n => rfl
      | ofNat n =>
        show Bool.rec (motive := fun _ => RB) none (ofQ k (Nat.shiftRight m n) f) (Nat.ble n k.bits) = _
        simp only [intV_eq, ofQ_eq]
        cases Nat.ble n k.bits <;> rfl
  · refine sk_eq _ _ _ _ _ fun _ => ?_
    simp only [boolV_eq]; unfold tF; rw [ieqF_eq]; cases ieq x y <;> rfl
  · refine sk_eq _ _ _ _ _ fun _ => ?_
    simp only [boolV_eq]; unfold nF; rw [ieqF_eq]; cases ieq x y <;> rfl
  · refine sk_eq _ _ _ _ _ fun _ => ?_
    simp only [boolV_eq]; unfold tF; rw [iltF_eq]; cases ilt x y <;> rfl
  · refine sk_eq _ _ _ _ _ fun _ => ?_
    simp only [boolV_eq]; unfold nF; rw [iltF_eq]; cases ilt y x <;> rfl
  · refine sk_eq _ _ _ _ _ fun _ => ?_
    simp only [boolV_eq]; unfold tF; rw [iltF_eq]; cases ilt y x <;> rfl
  · refine sk_eq _ _ _ _ _ fun _ => ?_
    simp only [boolV_eq]; unfold nF; rw [iltF_eq]; cases ilt x y <;> rfl
/-! ### Reading and writing -/
def rdF (st : St) (x : Nat) (k : List SV → TypeId → Bool → St → RB) : RB := St.rec (motive := fun _ => Nat → (List SV → TypeId → Bool → St → RB) → RB) (fun h nx b R W x k => Option.rec (motive := fun _ => RB) none (fun o => SO.rec (motive := fun _ => RB) (fun l e op => insF b x R (fun R' => k l e op ⟨h, nx, b, R', W⟩)) (fun _ _ => none) (fun _ => none) (fun _ => none) (fun _ _ _ _ => none) (fun _ _ _ _ => none) o) (h.get x)) st x k
theorem rdF_eq (st : St) (x : Nat) (k : List SV → TypeId → Bool → St → RB) : rdF st x k = rdK st x k := by
  obtain ⟨h, nx, b, R, W⟩ := st
  show Option.rec (motive := fun _ => RB) none (fun o => SO.rec (motive := fun _ => RB) (fun l e op => insF b x R (fun R' => k l e op ⟨h, nx, b, R', W⟩)) (fun _ _ => none) (fun _ => none) (fun _ => none) (fun _ _ _ _ => none) (fun _ _ _ _ => none) o) (h.get x) = _
  simp only [rdK]
  cases h.get x with
  | none => rfl
  | some o => cases o <;> first | rfl | exact insF_eq ..
def wtF (st : St) (x : Nat) (o : SO) (k : St → RB) : RB := St.rec (motive := fun _ => RB) (fun h nx b R W => h.setK x (some o) fun h' => insF b x R fun R' => insF b x W fun W' => k ⟨h', nx, b, R', W'⟩) st
theorem wtF_eq (st : St) (x : Nat) (o : SO) (k : St → RB) : wtF st x o k = wtK st x o k := by
  obtain ⟨h, nx, b, R, W⟩ := st
  show (h.setK x (some o) fun h' => insF b x R fun R' => insF b x W fun W' => k ⟨h', nx, b, R', W'⟩) = _
  simp only [wtK, insF_eq]
def onesF (l : List SV) : Bool := List.rec (motive := fun _ => Bool) true (fun v _ ih => Bool.rec (motive := fun _ => Bool) false ih (oneS v)) l
theorem onesF_eq : ∀ (l : List SV), onesF l = onesS l
  | [] => rfl
  | v :: r => by
    simp only [onesS, ← onesF_eq r]
    show Bool.rec (motive := fun _ => Bool) false (onesF r) (oneS v) = _
    cases oneS v <;> rfl
/-- a load, by its type -/
def ldF (P : Program) (T : TypeId) : Bx (SV → St → (SV → St → RB) → RB) := match isAggB P T with
  | some true => match szv P T with
    | some n => ⟨fun p st k => ptrF p none fun x o => rdF st x fun l _ _ st' => subF l o n fun vs => k (.agg vs) st'⟩
    | none => ⟨fun _ _ _ => none⟩
  | some false => ⟨fun p st k => ptrF p none fun x o => rdF st x fun l _ _ st' => Option.rec (motive := fun _ => RB) none (fun v => k v st') (nthV l o)⟩
  | none => ⟨fun _ _ _ => none⟩
theorem rdK_app {γ δ : Type} (g : Option γ → Option δ) (hg : g none = none) (st : St) (x : Nat) (k : List SV → TypeId → Bool → St → Option γ) : rdK st x (fun l e op st' => g (k l e op st')) = g (rdK st x k) := by
  obtain ⟨h, nx, b, R, W⟩ := st
  simp only [rdK]
  cases h.get x with
  | none => exact hg.symm
  | some o => cases o <;> first | exact hg.symm | simp only [insK_eq]
theorem takeK_app {α γ δ : Type} (g : Option γ → Option δ) (hg : g none = none) : ∀ (l : List α) (n : Nat) (k : List α → Option γ), takeK l n (fun t => g (k t)) = g (takeK l n k)
  | [], 0, k => by simp [takeK]
  | [], n + 1, k => by simp [takeK, hg]
  | x :: r, 0, k => by simp [takeK]
  | x :: r, n + 1, k => by simp only [takeK]; exact takeK_app g hg r n (fun t => k (x :: t))
theorem subK_app {α γ δ : Type} (g : Option γ → Option δ) (hg : g none = none) : ∀ (l : List α) (o n : Nat) (k : List α → Option γ), subK l o n (fun t => g (k t)) = g (subK l o n k)
  | [], 0, n, k => by simp [subK]; exact takeK_app g hg ..
  | [], o + 1, n, k => by cases n <;> simp [subK, hg]
  | x :: r, 0, n, k => by simp [subK]; exact takeK_app g hg ..
  | x :: r, o + 1, n, k => by simp only [subK]; exact subK_app g hg r o n k
theorem preK_app {α γ δ : Type} (g : Option γ → Option δ) (hg : g none = none) : ∀ (vs l : List α) (k : List α → Option γ), preK l vs (fun t => g (k t)) = g (preK l vs k)
  | [], l, k => by cases l <;> simp [preK]
  | v :: vs, [], k => by simp [preK, hg]
  | v :: vs, x :: r, k => by simp only [preK]; exact preK_app g hg vs r (fun t => k (v :: t))
theorem wrK_app {α γ δ : Type} (g : Option γ → Option δ) (hg : g none = none) : ∀ (l : List α) (o : Nat) (vs : List α) (k : List α → Option γ), wrK l o vs (fun t => g (k t)) = g (wrK l o vs k)
  | [], 0, vs, k => by simp [wrK]; exact preK_app g hg ..
  | [], o + 1, vs, k => by simp [wrK, hg]
  | x :: r, 0, vs, k => by simp [wrK]; exact preK_app g hg ..
  | x :: r, o + 1, vs, k => by simp only [wrK]; exact wrK_app g hg r o vs (fun t => k (x :: t))
def stG (k : SV → St → RB) (r : Option (SV × St)) : RB := Option.rec (motive := fun _ => RB) none (fun p => Prod.rec (motive := fun _ => RB) k p) r
theorem ldF_eq (P : Program) (T : TypeId) (p : SV) (st : St) (k : SV → St → RB) : (ldF P T).val p st k = stG k (ldS P T p st) := by
  unfold ldF
  cases p with
  | ptr x o =>
    simp only [ldS]
    cases isAggB P T with
    | none => rfl
    | some a =>
      cases a with
      | true =>
        simp only
        cases szv P T with
        | none => rfl
        | some n =>
          show (rdF st x fun l _ _ st' => subF l o n fun vs => k (.agg vs) st') = _
          rw [rdF_eq, ← rdK_app (stG k) rfl]
          congr 1
          funext l e op st'
          rw [subF_eq, ← subK_app (stG k) rfl]
          rfl
      | false =>
        show (rdF st x fun l _ _ st' => Option.rec (motive := fun _ => RB) none (fun v => k v st') (nthV l o)) = _
        simp only
        rw [rdF_eq, ← rdK_app (stG k) rfl]
        congr 1
        funext l e op st'
        rw [nthV_eq]
        cases nth l o <;> rfl
  | _ =>
    simp only [ldS]
    cases isAggB P T with
    | none => rfl
    | some a =>
      cases a with
      | true =>
        simp only
        cases szv P T <;> rfl
      | false => rfl
/-- a store, by its type -/
def stF (P : Program) (T : TypeId) : Bx (SV → SV → St → (SV → St → RB) → RB) := match szv P T with
  | some n => ⟨fun p v st k => ptrF p none fun x o => Bool.rec (motive := fun _ => RB) none (Bool.rec (motive := fun _ => RB) none (rdF st x fun l e op st1 => wrF l o (cellsS v) fun l' => wtF st1 x (.cells l' e op) fun st' => k (.raw undef) st') (Nat.beq (llenF (cellsS v)) n)) (onesF (cellsS v))⟩
  | none => ⟨fun _ _ _ _ => none⟩
theorem wtK_app {γ δ : Type} (g : Option γ → Option δ) (st : St) (x : Nat) (o : SO) (k : St → Option γ) : wtK st x o (fun st' => g (k st')) = g (wtK st x o k) := by
  simp only [wtK_eq]
theorem stF_eq (P : Program) (T : TypeId) (p v : SV) (st : St) (k : SV → St → RB) : (stF P T).val p v st k = stG k (stS P T p v st) := by
  unfold stF
  cases p with
  | ptr x o =>
    simp only [stS]
    cases szv P T with
    | none => rfl
    | some n =>
      show Bool.rec (motive := fun _ => RB) none (Bool.rec (motive := fun _ => RB) none (rdF st x fun l e op st1 => wrF l o (cellsS v) fun l' => wtF st1 x (.cells l' e op) fun st' => k (.raw undef) st') (Nat.beq (llenF (cellsS v)) n)) (onesF (cellsS v)) = _
      rw [llenF_eq, onesF_eq]
      simp only
      cases onesS (cellsS v) with
      | false => rfl
      | true =>
        simp only [cond_true]
        cases Nat.beq (llen (cellsS v)) n with
        | false => rfl
        | true =>
          simp only [cond_true]
          rw [rdF_eq, ← rdK_app (stG k) rfl]
          congr 1
          funext l e op st'
          rw [wrF_eq, ← wrK_app (stG k) rfl]
          congr 1
          funext l'
          rw [wtF_eq, ← wtK_app (stG k)]
          rfl
  | _ =>
    simp only [stS]
    cases szv P T <;> rfl
/-! ### Addresses -/
def faF (P : Program) (T f : Nat) : Bx (SV → (SV → RB) → RB) := match fieldOf P T f with
  | some (fo, ft) => match szv P ft with
    | some (_ + 1) => ⟨fun p k => ptrF p none fun x o => Nat.rec (motive := fun _ => RB) (k (.ptr x 0)) (fun o' _ => k (.ptr x (Nat.succ o'))) (Nat.add o fo)⟩
    | _ => ⟨fun _ _ => none⟩
  | none => ⟨fun _ _ => none⟩
def puG (k : SV → RB) (r : Option SV) : RB := Option.rec (motive := fun _ => RB) none k r
theorem natG {γ : Type} (k : Nat → γ) (n : Nat) : Nat.rec (motive := fun _ => γ) (k 0) (fun m _ => k (Nat.succ m)) n = k n := by cases n <;> rfl
theorem faF_eq (P : Program) (T f : Nat) (p : SV) (k : SV → RB) : (faF P T f).val p k = puG k (faS P T f p) := by
  unfold faF faS
  cases hf : fieldOf P T f with
  | none => cases p <;> simp only [hf] <;> rfl
  | some q =>
    obtain ⟨fo, ft⟩ := q
    simp only
    cases hs : szv P ft with
    | none => cases p <;> simp only [hf, hs] <;> rfl
    | some n =>
      cases n with
      | zero => cases p <;> simp only [hf, hs] <;> rfl
      | succ n =>
        cases p with
        | ptr x o =>
          simp only [hf, hs, natK_eq]
          exact natG (fun o' => k (.ptr x o')) (Nat.add o fo)
        | _ => rfl
def iaF (P : Program) (T : TypeId) : Bx (SV → SV → (SV → RB) → RB) := match slE P T with
  | some sz => ⟨fun p i k => intF i none fun _ i => Int.rec (motive := fun _ => RB) (fun i => match p with
      | .sl x o n _ => Bool.rec (motive := fun _ => RB) none (Nat.rec (motive := fun _ => RB) (k (.ptr x 0)) (fun o' _ => k (.ptr x (Nat.succ o'))) (Nat.add o (Nat.mul i sz))) (Nat.ble (Nat.succ i) n)
      | _ => puG k (iaS P T p (.raw (.int .i64 (.ofNat i))))) (fun _ => none) i⟩
  | none => ⟨fun p i k => puG k (iaS P T p i)⟩
theorem iaF_eq (P : Program) (T : TypeId) (p i : SV) (k : SV → RB) : (iaF P T).val p i k = puG k (iaS P T p i) := by
  unfold iaF
  cases hs : slE P T with
  | none => rfl
  | some sz =>
    simp only
    cases i with
    | raw v =>
      cases v with
      | int kd i =>
        cases i with
        | ofNat i =>
          simp only [intF]
          cases p with
          | sl x o n c =>
            show Bool.rec (motive := fun _ => RB) none (Nat.rec (motive := fun _ => RB) (k (.ptr x 0)) (fun o' _ => k (.ptr x (Nat.succ o'))) (Nat.add o (Nat.mul i sz))) (Nat.ble (Nat.succ i) n) = _
            simp only [iaS, hs]
            show _ = puG k (bif Nat.ble (Nat.succ i) n then natK (o + i * sz) fun o' => some (.ptr x o') else none)
            cases Nat.ble (Nat.succ i) n with
            | false => rfl
            | true =>
              simp only [cond_true, natK_eq]
              exact natG (fun o' => k (.ptr x o')) (Nat.add o (Nat.mul i sz))
          | _ => rfl
        | negSucc i => rfl
      | _ => rfl
    | _ => rfl
/-! ### What operations have touched, those left out that touched nothing -/
def nul (t : Tc) : Bool := t.q && (match t.R with | [] => true | _ => false) && (match t.W with | [] => true | _ => false) && Nat.beq t.a t.b
theorem nul_of {t : Tc} (h : nul t = true) : t.q = true ∧ t.R = [] ∧ t.W = [] ∧ t.a = t.b := by
  unfold nul at h
  simp only [Bool.and_eq_true] at h
  obtain ⟨⟨⟨h1, h2⟩, h3⟩, h4⟩ := h
  refine ⟨h1, ?_, ?_, Nat.eq_of_beq_eq_true h4⟩
  · cases hR : t.R with
    | nil => rfl
    | cons x r => rw [hR] at h2; cases h2
  · cases hR : t.W with
    | nil => rfl
    | cons x r => rw [hR] at h3; cases h3
def psh (i : Nat) (t : Tc) (acc : List (Nat × Tc)) : List (Nat × Tc) := bif nul t then acc else (i, t) :: acc
def flt : List Tc → List (Nat × Tc)
  | [] => []
  | t :: r => psh r.length t (flt r)
theorem disj_nil : ∀ (l : List Nat), disj l [] = true
  | [] => rfl
  | x :: r => by rw [disj]; exact disj_nil r
theorem outR_same (a : Nat) : ∀ (l : List Nat), outR a a l = true
  | [] => rfl
  | x :: r => by
    rw [outR]
    have : (Nat.ble a x && Nat.blt x a) = false := by
      rw [Bool.and_eq_false_iff]
      by_cases h : a ≤ x
      · right
        exact Bool.eq_false_iff.2 (fun q => by have := Nat.blt_eq.mp q; omega)
      · left
        exact Bool.eq_false_iff.2 (fun q => h (Nat.ble_eq.mp q))
    rw [this, cond_false]
    exact outR_same a r
theorem sepT_nulL {t : Tc} (h : nul t = true) (u : Tc) : sepT t u = true := by
  obtain ⟨h1, h2, h3, h4⟩ := nul_of h
  unfold sepT
  rw [h1]
  cases u.q with
  | true => rfl
  | false =>
    show sepF t u = true
    unfold sepF
    rw [h2, h3, h4, outR_same]
    rfl
theorem sepT_nulR {u : Tc} (h : nul u = true) (t : Tc) : sepT t u = true := by
  obtain ⟨h1, h2, h3, h4⟩ := nul_of h
  unfold sepT
  rw [h1]
  cases t.q with
  | true => rfl
  | false =>
    show sepF t u = true
    unfold sepF
    rw [h2, h3, disj_nil, disj_nil]
    rfl
def sepW (u : Tc) (m : Nat) (l : List (Nat × Tc)) : Bool := List.rec (motive := fun _ => Bool) true (fun p _ ih => Prod.rec (motive := fun _ => Bool) (fun j t => Bool.rec (motive := fun _ => Bool) (Bool.rec (motive := fun _ => Bool) false ih (bitB m j)) ih (sepT t u)) p) l
def sepP (bits : Nat → Nat) (l : List (Nat × Tc)) : Bool := List.rec (motive := fun _ => Bool) true (fun p r ih => Prod.rec (motive := fun _ => Bool) (fun i u => Bool.rec (motive := fun _ => Bool) false ih (sepW u (bits i) r)) p) l
theorem sepU_nul {u : Tc} (h : nul u = true) (m : Nat) : ∀ (r : List Tc) (n : Nat), sepAll.sepU u m r n = true
  | [], _ => rfl
  | t :: r, n => by rw [sepAll.sepU, sepT_nulR h, cond_true]; exact sepU_nul h m r _
theorem sepU_eq (u : Tc) (m : Nat) : ∀ (r : List Tc), sepAll.sepU u m r r.length = sepW u m (flt r)
  | [] => rfl
  | t :: r => by
    have ih := sepU_eq u m r
    simp only [List.length_cons, sepAll.sepU, Nat.add_sub_cancel, flt, psh, ih]
    cases hn : nul t with
    | true => rw [sepT_nulL hn]; rfl
    | false =>
      show _ = Bool.rec (motive := fun _ => Bool) (Bool.rec (motive := fun _ => Bool) false (sepW u m (flt r)) (bitB m r.length)) (sepW u m (flt r)) (sepT t u)
      cases sepT t u <;> cases bitB m r.length <;> rfl
theorem sepAll_eq (bits : Nat → Nat) : ∀ (ts : List Tc) (ms : List Nat), ms.length = ts.length → (∀ i, i < ts.length → ms[ts.length - 1 - i]? = some (bits i)) → sepAll ts ms = sepP bits (flt ts)
  | [], _, _, _ => by unfold sepAll; rfl
  | u :: r, [], h, _ => by simp at h
  | u :: r, m :: ms, hl, hb => by
    have ih := sepAll_eq bits r ms (by simpa using hl) (fun i hi => by
      have := hb i (by simp; omega)
      rw [show (u :: r).length - 1 - i = (r.length - 1 - i) + 1 by simp; omega, List.getElem?_cons_succ] at this
      exact this)
    have hm : m = bits r.length := by
      have := hb r.length (by simp)
      rw [show (u :: r).length - 1 - r.length = 0 by simp, List.getElem?_cons_zero, Option.some.injEq] at this
      exact this
    rw [sepAll, ih, llen_eq]
    simp only [flt, psh]
    cases hn : nul u with
    | true => rw [sepU_nul hn]; rfl
    | false =>
      rw [sepU_eq, hm]
      show _ = Bool.rec (motive := fun _ => Bool) false (sepP bits (flt r)) (sepW u (bits r.length) (flt r))
      cases sepW u (bits r.length) (flt r) <;> rfl
def allQF (l : List (Nat × Tc)) : Bool := List.rec (motive := fun _ => Bool) true (fun p _ ih => Prod.rec (motive := fun _ => Bool) (fun _ t => Tc.rec (motive := fun _ => Bool) (fun _ _ _ _ q => Bool.rec (motive := fun _ => Bool) false ih q) t) p) l
theorem allQF_eq : ∀ (ts : List Tc), allQF (flt ts) = allQ ts
  | [] => rfl
  | t :: r => by
    have ih := allQF_eq r
    simp only [flt, psh, allQ, ← ih]
    cases hn : nul t with
    | true => rw [(nul_of hn).1]; rfl
    | false =>
      obtain ⟨R, W, a, b, q⟩ := t
      show Bool.rec (motive := fun _ => Bool) false (allQF (flt r)) q = _
      cases q <;> rfl
def insAllF (b : Nat) (l : List Nat) : List Nat → (List Nat → RB) → RB := List.rec (motive := fun _ => List Nat → (List Nat → RB) → RB) (fun R k => k R) (fun x _ ih R k => insF b x R fun R' => ih R' k) l
theorem insAllF_eq (b : Nat) : ∀ (l R : List Nat) (k : List Nat → RB), insAllF b l R k = insAllK b l R k
  | [], _, _ => rfl
  | x :: r, R, k => by
    simp only [insAllK, ← insAllF_eq b r]
    show insF b x R (fun R' => insAllF b r R' k) = _
    exact insF_eq b x R _
def tellF (b : Nat) (l : List (Nat × Tc)) : List Nat → List Nat → (List Nat → List Nat → RB) → RB := List.rec (motive := fun _ => List Nat → List Nat → (List Nat → List Nat → RB) → RB) (fun R W k => k R W) (fun p _ ih R W k => Prod.rec (motive := fun _ => RB) (fun _ t => Tc.rec (motive := fun _ => RB) (fun tR tW _ _ _ => insAllF b tR R fun R' => insAllF b tW W fun W' => ih R' W' k) t) p) l
theorem tellF_eq (b : Nat) : ∀ (ts : List Tc) (R W : List Nat) (k : List Nat → List Nat → RB), tellF b (flt ts) R W k = tellK b ts R W k
  | [], _, _, _ => rfl
  | t :: r, R, W, k => by
    simp only [flt, psh, tellK, ← tellF_eq b r]
    cases hn : nul t with
    | true => rw [(nul_of hn).2.1, (nul_of hn).2.2.1]; rfl
    | false =>
      simp only [← insAllF_eq]
      rfl
/-- nothing is told where nothing is asked for -/
def tellZ (b : Nat) (l : List (Nat × Tc)) (R W : List Nat) (k : List Nat → List Nat → RB) : RB := Nat.rec (motive := fun _ => RB) (k R W) (fun _ _ => tellF b l R W k) b
theorem tellK_0 : ∀ (ts : List Tc) (R W : List Nat) (k : List Nat → List Nat → RB), tellK 0 ts R W k = k R W
  | [], _, _, _ => rfl
  | t :: r, R, W, k => by
    have hi : ∀ (l R : List Nat) (k : List Nat → RB), insAllK 0 l R k = k R := by
      intro l
      induction l with
      | nil => intros; rfl
      | cons x l ih => intro R k; simp only [insAllK, insK]; exact ih _ _
    simp only [tellK, hi]
    exact tellK_0 r R W k
theorem tellZ_eq (b : Nat) (ts : List Tc) (R W : List Nat) (k : List Nat → List Nat → RB) : tellZ b (flt ts) R W k = tellK b ts R W k := by
  cases b with
  | zero => exact (tellK_0 ts R W k).symm
  | succ b => exact tellF_eq (b + 1) ts R W k
def endF (i : Nat) (h : Tr SO) (nx : Nat) (st' : St) (acc : List (Nat × Tc)) (k : Tr SO → Nat → List (Nat × Tc) → RB) : RB := St.rec (motive := fun _ => RB) (fun h' nx' b' R W => List.rec (motive := fun _ => RB) (Bool.rec (motive := fun _ => RB) (endK h nx st' fun h2 nx2 t => k h2 nx2 (psh i t acc)) (List.rec (motive := fun _ => RB) (k h nx acc) (fun _ _ _ => k h nx ((i, ⟨R, [], nx, nx, true⟩) :: acc)) R) (Nat.beq nx nx')) (fun _ _ _ => endK h nx st' fun h2 nx2 t => k h2 nx2 (psh i t acc)) W) st'
theorem endF_eq (i : Nat) (h : Tr SO) (nx : Nat) (st' : St) (acc : List (Nat × Tc)) (k : Tr SO → Nat → List (Nat × Tc) → RB) : endF i h nx st' acc k = endK h nx st' fun h2 nx2 t => k h2 nx2 (psh i t acc) := by
  obtain ⟨h', nx', b', R, W⟩ := st'
  cases W with
  | cons x W => rfl
  | nil =>
    show Bool.rec (motive := fun _ => RB) (endK h nx ⟨h', nx', b', R, []⟩ fun h2 nx2 t => k h2 nx2 (psh i t acc)) (List.rec (motive := fun _ => RB) (k h nx acc) (fun _ _ _ => k h nx ((i, ⟨R, [], nx, nx, true⟩) :: acc)) R) (Nat.beq nx nx') = _
    cases hb : Nat.beq nx nx' with
    | false => rfl
    | true =>
      simp only [endK, quietB, hb, cond_true]
      cases R with
      | nil =>
        have : nul ⟨[], [], nx, nx, true⟩ = true := by simp [nul]
        simp only [psh, this]; rfl
      | cons x R => rfl
end
end
end Go.TX
namespace Go.TX
open Go Go.TH
noncomputable section
abbrev CV := List SV
/-- the temporaries that a code may set -/
def dstsC : Code → List Nat
  | .region _ ops _ => ops.toList.filterMap (·.dst)
  | .seq x y => dstsC x ++ dstsC y
  | .cond _ x y => dstsC x ++ dstsC y
  | .block _ b => dstsC b
  | .loop b => dstsC b
  | .rangeFunc _ ps assign body => ps.toList ++ (dstsC assign ++ dstsC body)
  | .scope b => dstsC b
  | _ => []
/-- those below n that are not in A -/
def keptL (A : List Nat) : Nat → List Nat
  | 0 => []
  | n + 1 => bif memb n A then keptL A n else n :: keptL A n
def sameO : Option SV → Option SV → Bool
  | none, none => true
  | some a, some b => eqV a b
  | _, _ => false
def keptB (env env' : Tr SV) : List Nat → Bool
  | [] => true
  | t :: r => bif sameO (env.get t) (env'.get t) then keptB env env' r else false
/-- what is carried from round to round: values without an address -/
def carL (env : Tr SV) : List Nat → List Nat → Option (List Nat)
  | [], acc => some acc
  | t :: r, acc => match env.get t with
    | none => carL env r acc
    | some (.raw _) => bif memb t acc then carL env r acc else carL env r (t :: acc)
    | some _ => none
def anyT (env : Tr SV) : List Nat → Tr SV
  | [] => env
  | t :: r => match (anyT env r).get t with
    | none => (anyT env r).set t (some .any)
    | some _ => anyT env r
def putT (env : Tr SV) : List Nat → CV → Tr SV
  | t :: r, v :: vs => (putT env r vs).set t (some v)
  | _, _ => env
def getT (env : Tr SV) : List Nat → Option CV
  | [] => some []
  | t :: r => match env.get t with
    | some (.raw v) => match getT env r with
      | some l => some (.raw v :: l)
      | none => none
    | _ => none
def isNl : List Nat → Bool
  | [] => true
  | _ => false
def isNrm : Ex → Bool
  | .nrm => true
  | _ => false
def lookT : List (CV × List CV) → CV → Option (List CV)
  | [], _ => none
  | (q, row) :: T, p => bif eqVs q p then some row else lookT T p
def allB {α : Type} (f : α → Bool) : List α → Bool
  | [] => true
  | x :: r => bif f x then allB f r else false
def mapO {α β : Type} (f : α → Option β) : List α → Option (List β)
  | [] => some []
  | x :: r => match f x with
    | some y => match mapO f r with
      | some l => some (y :: l)
      | none => none
    | none => none
/-- row i is column i -/
def symR (M : List (List CV)) : List (List CV) → Nat → Bool
  | [], _ => true
  | r :: rs, i => match mapO (fun x => nth x i) M with
    | some c => bif eqL eqVs r c then symR M rs (Nat.succ i) else false
    | none => false
def comB (T : List (CV × List CV)) : List (CV × List CV) → Bool
  | [] => true
  | (_, row) :: r => match mapO (lookT T) row with
    | some M => bif symR M M 0 then comB T r else false
    | none => false
/-- one after the other -/
def runT (T : List (CV × List CV)) : Nat → Nat → CV → Option CV
  | 0, _, q => some q
  | n + 1, i, q => match lookT T q with
    | some row => match nth row i with
      | some q' => runT T n (Nat.succ i) q'
      | none => none
    | none => none
section
variable (P : Program) (sm : Sums) (rec : Rec) (ro : Option Nat) (N : Nat) (ops os : List Oper) (C : Code) (d : Nat) (car kept : List Nat) (ds : List Nat) (i m since clk : Nat) (envN : Tr SV) (h : Tr SO) (nx : Nat)
/-- a round with an entry -/
def rndS (q : CV) (e : SEnt) : Option (CV × List Nat × Nat) := match exL P sm rec N ops os ((putT envN car q).set d (some (.tup [.raw (.bool true), e.key, e.val]))) ⟨h.set i (some (.itl m since e.born clk)), nx, nx, [], []⟩ with
  | some [(env2, st2)] => match rec ro N C env2 ds st2 with
    | some [(e3, env3, ds3, st3)] => bif isNrm e3 && (eqL Nat.beq ds3 ds && (isNl st3.W && (Nat.ble nx st3.nx && keptB (putT envN car q) env3 kept))) then (match getT env3 car with
      | some q' => some (q', st3.R, st3.nx)
      | none => none) else none
    | _ => none
  | _ => none
def rowS (b : Nat) (q : CV) : List SEnt → List Nat → Nat → Option (List CV × List Nat × Nat)
  | [], R, n => some ([], R, n)
  | e :: r, R, n => match rndS P sm rec ro N ops os C d car kept ds i m since clk envN h nx q e with
    | some (q', R', n') => match rowS b q r (insAllK b R' R fun R2 => R2) (bif Nat.ble n n' then n' else n) with
      | some (l, R2, n2) => some (q' :: l, R2, n2)
      | none => none
    | none => none
def expS (b : Nat) (es : List SEnt) : Nat → List CV → List (CV × List CV) → List Nat → Nat → Option (List (CV × List CV) × List Nat × Nat)
  | _, [], T, R, n => some (T, R, n)
  | 0, _ :: _, _, _, _ => none
  | f + 1, q :: ps, T, R, n => match lookT T q with
    | some _ => expS b es f ps T R n
    | none => match rowS P sm rec ro N ops os C d car kept ds i m since clk envN h nx b q es R n with
      | some (row, R', n') => expS b es f (row ++ ps) ((q, row) :: T) R' n'
      | none => none
/-- when all entries have been handed out -/
def lstS (q : CV) (b : Nat) (R W : List Nat) (n : Nat) : Option (List Out) := match exL P sm rec N ops os ((putT envN car q).set d (some (.tup [.raw (.bool false)]))) ⟨h.set i none, n, b, R, W⟩ with
  | some L => match mapB (fun p => rec ro N C p.1 ds p.2) L with
    | some L2 => bif allB (fun o => !isNrm o.1) L2 then some L2 else none
    | none => none
  | none => none
end
/-- a loop over a map of two entries or more -/
def mlGo (P : Program) (sm : Sums) (rec : Rec) (ro : Option Nat) (N : Nat) (ops os : List Oper) (C : Code) (x d : Nat) (A : List Nat) (env : Tr SV) (ds : List Nat) (st : St) : Option (List Out) := match st with
  | ⟨h, nx, b, R, W⟩ => bif memb x A then none else (bif memb d A && Nat.blt d N then (match env.get x with
    | some (.ptr i 0) => match h.get i with
      | some (.iter (some m) since [] clk) => match h.get m with
        | some (.map es clk') => bif Nat.beq clk clk' && (Nat.ble since clk && (oldB since es && (Nat.ble b i && (nodupB es [] && Nat.ble 2 (llen es))))) then (match carL env A [] with
          | some car => match getT env car with
            | some q0 => match expS P sm rec ro N ops os C d car (keptL A N) ds i m since clk (anyT env A) h nx b es (Nat.add (Nat.mul 4 (llen es)) 10) [q0] [] (insK b m R fun R' => R') nx with
              | some (T, R2, n2) => bif comB T T then (match runT T (llen es) 0 q0 with
                | some q => lstS P sm rec ro N ops os C d car ds i (anyT env A) h q b R2 W n2
                | none => none) else none
              | none => none
            | none => none
          | none => none) else none
        | _ => none
      | _ => none
    | _ => none) else none)
def mlS (P : Program) (sm : Sums) (rec : Rec) (ro : Option Nat) (N : Nat) (c : Code) (env : Tr SV) (ds : List Nat) (st : St) : Option (List Out) := match c with
  | .loop b => match b with
    | .seq a C => match a with
      | .region _ ops draw => match draw with
        | false => match ops.toList with
          | o :: os => match o.op with
            | .next x s => match s with
              | false => match x with
                | .tmp x => match o.guard with
                  | none => match o.dst with
                    | some d => mlGo P sm rec ro N (o :: os) os C x d (dstsC b) env ds st
                    | none => none
                  | _ => none
                | _ => none
              | _ => none
            | _ => none
          | _ => none
        | _ => none
      | _ => none
    | _ => none
  | _ => none
def stepM (P : Program) (sm : Sums) (rec : Rec) : Rec := fun ro N c env ds st => match mlS P sm rec ro N c env ds st with
  | some L => some L
  | none => stepC P sm rec ro N c env ds st
end
end Go.TX
namespace Go.TX
open Go Go.TH
noncomputable section
variable {ρ ρ' ρ3 : Ren}
mutual
theorem Rel.back (h : ∀ x, ρ x ≠ none → ρ3 x = ρ x) : ∀ {s : SV} {u0 u : Value}, Rel ρ s u0 → Rel ρ3 s u → Rel ρ s u
  | .raw v, u0, u, _, hr => by rw [Rel] at hr ⊢; exact hr
  | .ptr b o, u0, u, h0, hr => by
    rw [Rel] at h0 hr ⊢
    obtain ⟨x, s, h1, _⟩ := h0
    obtain ⟨x', s', h2, h3⟩ := hr
    rw [h b (by rw [h1]; simp)] at h2
    exact ⟨x', s', h2, h3⟩
  | .sl b o n c, u0, u, h0, hr => by
    rw [Rel] at h0 hr ⊢
    obtain ⟨x, s, k, h1, _⟩ := h0
    obtain ⟨x', s', k', h2, h3⟩ := hr
    rw [h b (by rw [h1]; simp)] at h2
    exact ⟨x', s', k', h2, h3⟩
  | .sl0, u0, u, _, hr => by rw [Rel] at hr ⊢; exact hr
  | .map b, u0, u, h0, hr => by
    rw [Rel] at h0 hr ⊢
    obtain ⟨x, s, h1, _⟩ := h0
    obtain ⟨x', s', h2, h3⟩ := hr
    rw [h b (by rw [h1]; simp)] at h2
    exact ⟨x', s', h2, h3⟩
  | .fn f l m, u0, u, h0, hr => by
    rw [Rel] at h0 hr ⊢
    obtain ⟨us0, vs0, a1, a2, _⟩ := h0
    obtain ⟨us, vs, b1, b2, b3⟩ := hr
    exact ⟨us, vs, RelL.back h a1 b1, RelL.back h a2 b2, b3⟩
  | .yield b, u0, u, h0, hr => by
    rw [Rel] at h0 hr ⊢
    obtain ⟨x, s, h1, _⟩ := h0
    obtain ⟨x', s', h2, h3⟩ := hr
    rw [h b (by rw [h1]; simp)] at h2
    exact ⟨x', s', h2, h3⟩
  | .agg l, u0, u, h0, hr => by
    rw [Rel] at h0 hr ⊢
    obtain ⟨us0, a1, _⟩ := h0
    obtain ⟨us, b1, b3⟩ := hr
    exact ⟨us, RelL.back h a1 b1, b3⟩
  | .tup l, u0, u, h0, hr => by
    rw [Rel] at h0 hr ⊢
    obtain ⟨us0, a1, _⟩ := h0
    obtain ⟨us, b1, b3⟩ := hr
    exact ⟨us, RelL.back h a1 b1, b3⟩
  | .any, _, _, _, _ => by rw [Rel]; exact True.intro
theorem RelL.back (h : ∀ x, ρ x ≠ none → ρ3 x = ρ x) : ∀ {l : List SV} {us0 us : List Value}, RelL ρ l us0 → RelL ρ3 l us → RelL ρ l us
  | [], _, us, _, hr => by rw [RelL] at hr ⊢; exact hr
  | s :: l, _, us, h0, hr => by
    rw [RelL] at h0 hr ⊢
    obtain ⟨v0, r0, _, a1, a2⟩ := h0
    obtain ⟨v, r, b1, b2, b3⟩ := hr
    exact ⟨v, r, b1, Rel.back h a1 b2, RelL.back h a2 b3⟩
end
theorem DsR.back (h : ∀ x, ρ x ≠ none → ρ3 x = ρ x) : ∀ {ds : List Nat} {l0 l : List Deferred}, DsR ρ ds l0 → DsR ρ3 ds l → DsR ρ ds l
  | [], _, _, _, hd => hd
  | d :: ds, _, _, ⟨x0, s0, r0, _, a2, a3⟩, ⟨x, s, r, b1, b2, b3⟩ => ⟨x, s, r, b1, by rw [h d (by rw [a2]; simp)] at b2; exact b2, a3.back h b3⟩

/-! ### Temporaries -/
theorem anyT_get (env : Tr SV) : ∀ (A : List Nat) (t : Nat), (anyT env A).get t = if env.get t = none ∧ t ∈ A then some .any else env.get t
  | [], t => by simp [anyT]
  | a :: r, t => by
    have ih := anyT_get env r
    simp only [anyT]
    have ha := ih a
    cases hg : (anyT env r).get a with
    | some v =>
      rw [hg] at ha
      simp only
      rw [ih t]
      by_cases e : t = a
      · rw [e]
        by_cases hn : env.get a = none
        · by_cases hm : a ∈ r
          · rw [if_pos ⟨hn, hm⟩, if_pos ⟨hn, by simp⟩]
          · rw [if_neg (fun q => hm q.2), hn] at ha; cases ha
        · rw [if_neg (fun q => hn q.1), if_neg (fun q => hn q.1)]
      · simp [e]
    | none =>
      rw [hg] at ha
      simp only
      rw [Tr.get_set]
      have hn : env.get a = none := by
        by_cases hn : env.get a = none
        · exact hn
        · rw [if_neg (fun q => hn q.1)] at ha; exact absurd ha.symm hn
      by_cases e : t = a
      · subst e
        rw [if_pos rfl, if_pos ⟨hn, by simp⟩]
      · rw [if_neg e, ih t]
        simp [e]
theorem putT_out (env : Tr SV) : ∀ (car : List Nat) (q : CV) (t : Nat), t ∉ car → (putT env car q).get t = env.get t
  | [], q, t, _ => by simp [putT]
  | c :: r, [], t, _ => by simp [putT]
  | c :: r, v :: vs, t, h => by
    simp only [putT]
    rw [Tr.get_set, if_neg (fun e => h (by simp [e]))]
    exact putT_out env r vs t (fun e => h (by simp [e]))
theorem getT_put (env env3 : Tr SV) : ∀ (car : List Nat) (q : CV), getT env3 car = some q → ∀ t, t ∈ car → (putT env car q).get t = env3.get t
  | [], q, _, t, h => by cases h
  | c :: r, q, h, t, ht => by
    simp only [getT] at h
    split at h
    case h_2 => cases h
    rename_i v hv
    split at h
    case h_2 => cases h
    rename_i l hl
    simp only [Option.some.injEq] at h
    subst h
    simp only [putT]
    rw [Tr.get_set]
    by_cases e : t = c
    · subst e; rw [if_pos rfl, hv]
    · rw [if_neg e]
      exact getT_put env env3 r l hl t (by rcases List.mem_cons.1 ht with q | q; exact absurd q e; exact q)
theorem carL_ok (env : Tr SV) : ∀ (A acc car : List Nat), carL env A acc = some car → (∀ t, t ∈ A → env.get t = none ∨ t ∈ car) ∧ (∀ t, t ∈ car → t ∈ A ∨ t ∈ acc) ∧ ∀ t, t ∈ acc → t ∈ car
  | [], acc, car, h => by
    simp only [carL, Option.some.injEq] at h
    subst h
    exact ⟨(fun t h => by cases h), (fun t h => .inr h), fun t h => h⟩
  | a :: r, acc, car, h => by
    simp only [carL] at h
    split at h
    · rename_i hn
      obtain ⟨h1, h2, h3⟩ := carL_ok env r acc car h
      refine ⟨fun t ht => ?_, fun t ht => ?_, h3⟩
      · rcases List.mem_cons.1 ht with rfl | ht
        · exact .inl hn
        · exact h1 t ht
      · rcases h2 t ht with q | q
        · exact .inl (List.mem_cons_of_mem _ q)
        · exact .inr q
    · cases hm : memb a acc with
      | true =>
        rw [hm, cond_true] at h
        obtain ⟨h1, h2, h3⟩ := carL_ok env r acc car h
        refine ⟨fun t ht => ?_, fun t ht => ?_, h3⟩
        · rcases List.mem_cons.1 ht with rfl | ht
          · exact .inr (h3 _ (memb_mem hm))
          · exact h1 t ht
        · rcases h2 t ht with q | q
          · exact .inl (List.mem_cons_of_mem _ q)
          · exact .inr q
      | false =>
        rw [hm, cond_false] at h
        obtain ⟨h1, h2, h3⟩ := carL_ok env r (a :: acc) car h
        refine ⟨fun t ht => ?_, fun t ht => ?_, fun t ht => h3 t (List.mem_cons_of_mem _ ht)⟩
        · rcases List.mem_cons.1 ht with rfl | ht
          · exact .inr (h3 _ (by simp))
          · exact h1 t ht
        · rcases h2 t ht with q | q
          · exact .inl (List.mem_cons_of_mem _ q)
          · rcases List.mem_cons.1 q with q | q
            · exact .inl (by simp [q])
            · exact .inr q
    · cases h
theorem keptL_ok (A : List Nat) : ∀ (n t : Nat), t < n → t ∉ A → t ∈ keptL A n
  | 0, t, h, _ => by omega
  | n + 1, t, h, ha => by
    simp only [keptL]
    cases hm : memb n A with
    | true =>
      rw [cond_true]
      refine keptL_ok A n t ?_ ha
      have : t ≠ n := fun e => ha (by rw [e]; exact memb_mem hm)
      omega
    | false =>
      rw [cond_false]
      by_cases e : t = n
      · simp [e]
      · exact List.mem_cons_of_mem _ (keptL_ok A n t (by omega) ha)
theorem sameO_eq {a b : Option SV} (h : sameO a b = true) : a = b := by
  cases a <;> cases b <;> simp only [sameO] at h
  · rfl
  · cases h
  · cases h
  · rw [eqV_eq h]
theorem keptB_ok {env env' : Tr SV} : ∀ {l : List Nat}, keptB env env' l = true → ∀ t, t ∈ l → env.get t = env'.get t
  | [], _, t, h => by cases h
  | a :: r, h, t, ht => by
    simp only [keptB] at h
    cases hs : sameO (env.get a) (env'.get a) with
    | false => rw [hs] at h; cases h
    | true =>
      rw [hs, cond_true] at h
      rcases List.mem_cons.1 ht with rfl | ht
      · exact sameO_eq hs
      · exact keptB_ok h t ht

/-! ### Tables -/
theorem lookT_mem : ∀ {T : List (CV × List CV)} {p : CV} {row : List CV}, lookT T p = some row → (p, row) ∈ T
  | [], p, row, h => by cases h
  | (q, r) :: T, p, row, h => by
    simp only [lookT] at h
    cases he : eqVs q p with
    | true =>
      rw [he, cond_true, Option.some.injEq] at h
      rw [eqVs_eq he, h]; simp
    | false =>
      rw [he, cond_false] at h
      exact List.mem_cons_of_mem _ (lookT_mem h)
theorem mapO_ok {α β : Type} {f : α → Option β} : ∀ {l : List α} {r : List β}, mapO f l = some r → r.length = l.length ∧ ∀ (k : Nat) (x : α), l[k]? = some x → ∃ y, f x = some y ∧ r[k]? = some y
  | [], r, h => by
    simp only [mapO, Option.some.injEq] at h
    subst h
    exact ⟨rfl, fun k x hx => by simp at hx⟩
  | a :: l, r, h => by
    simp only [mapO] at h
    split at h
    case h_2 => cases h
    rename_i y hy
    split at h
    case h_2 => cases h
    rename_i l' hl
    simp only [Option.some.injEq] at h
    subst h
    obtain ⟨h1, h2⟩ := mapO_ok hl
    refine ⟨by simp [h1], fun k x hx => ?_⟩
    cases k with
    | zero => simp at hx; subst hx; exact ⟨y, hy, by simp⟩
    | succ k => simp at hx ⊢; exact h2 k x hx
theorem symR_ok {M : List (List CV)} : ∀ {rs : List (List CV)} {i : Nat}, symR M rs i = true → ∀ (k : Nat) (r : List CV), rs[k]? = some r → mapO (fun x => nth x (i + k)) M = some r
  | [], i, _, k, r, h => by simp at h
  | r0 :: rs, i, h, k, r, hk => by
    simp only [symR] at h
    split at h
    case h_2 => cases h
    rename_i c hc
    cases he : eqL eqVs r0 c with
    | false => rw [he] at h; cases h
    | true =>
      rw [he, cond_true] at h
      have e : r0 = c := eqL_eq (fun a b => eqVs_eq) he
      cases k with
      | zero => simp at hk; subst hk; rw [e]; exact hc
      | succ k =>
        simp at hk
        have := symR_ok h k r hk
        rw [show i + (k + 1) = i + 1 + k by omega]; exact this
/-- rows of rounds -/
def RowsT (T : List (CV × List CV)) (n : Nat) (δ : CV → Nat → CV) : Prop := ∀ q row, (q, row) ∈ T → row.length = n ∧ (∀ k, k < n → row[k]? = some (δ q k)) ∧ ∀ q', q' ∈ row → ∃ r', lookT T q' = some r'
theorem comB_mem {T : List (CV × List CV)} : ∀ {S : List (CV × List CV)}, comB T S = true → ∀ q row, (q, row) ∈ S → ∃ M, mapO (lookT T) row = some M ∧ symR M M 0 = true
  | [], _, q, row, h => by cases h
  | (q0, r0) :: S, h, q, row, hm => by
    simp only [comB] at h
    split at h
    case h_2 => cases h
    rename_i M hM
    cases hs : symR M M 0 with
    | false => rw [hs] at h; cases h
    | true =>
      rw [hs, cond_true] at h
      rcases List.mem_cons.1 hm with e | hm
      · cases e; exact ⟨M, hM, hs⟩
      · exact comB_mem h q row hm
theorem com_ok {T : List (CV × List CV)} {n : Nat} {δ : CV → Nat → CV} (hT : RowsT T n δ) (hc : comB T T = true) {q : CV} {row : List CV} (hq : (q, row) ∈ T) {i j : Nat} (hi : i < n) (hj : j < n) : δ (δ q i) j = δ (δ q j) i := by
  obtain ⟨hl, hrow, _⟩ := hT q row hq
  obtain ⟨M, hM, hs⟩ := comB_mem hc q row hq
  obtain ⟨m1, m2⟩ := mapO_ok hM
  obtain ⟨ri, e1, e2⟩ := m2 i _ (hrow i hi)
  obtain ⟨rj, f1, f2⟩ := m2 j _ (hrow j hj)
  have hri := (hT _ _ (lookT_mem e1)).2.1 j hj
  have hrj := (hT _ _ (lookT_mem f1)).2.1 i hi
  have hsy := symR_ok hs i ri e2
  obtain ⟨s1, s2⟩ := mapO_ok hsy
  obtain ⟨y, y1, y2⟩ := s2 j rj f2
  rw [nth_eq, Nat.zero_add, hrj] at y1
  rw [hri] at y2
  exact Option.some.inj (y2.trans y1.symm)
theorem runT_ok {T : List (CV × List CV)} {n : Nat} {δ : CV → Nat → CV} (hT : RowsT T n δ) : ∀ {k i : Nat} {q q' : CV}, i + k ≤ n → runT T k i q = some q' → q' = (List.range' i k).foldl δ q
  | 0, i, q, q', _, h => by simp only [runT, Option.some.injEq] at h; simp [h]
  | k + 1, i, q, q', hk, h => by
    simp only [runT] at h
    split at h
    case h_2 => cases h
    rename_i row hr
    split at h
    case h_2 => cases h
    rename_i q1 hq1
    have := (hT q row (lookT_mem hr)).2.1 i (by omega)
    rw [nth_eq, this] at hq1
    cases hq1
    have ih := runT_ok hT (by omega) h
    rw [ih]
    rfl
/-- steps that change places -/
theorem foldl_perm {n : Nat} {δ : CV → Nat → CV} {S : CV → Prop} (hS : ∀ q i, S q → i < n → S (δ q i)) (hc : ∀ q i j, S q → i < n → j < n → δ (δ q i) j = δ (δ q j) i) {l l' : List Nat} (hp : l.Perm l') : (∀ i ∈ l, i < n) → ∀ q, S q → l.foldl δ q = l'.foldl δ q := by
  induction hp with
  | nil => intro _ q _; rfl
  | cons x _ ih =>
    intro hl q hq
    exact ih (fun i hi => hl i (by simp [hi])) _ (hS q x hq (hl x (by simp)))
  | swap x y l =>
    intro hl q hq
    show l.foldl δ (δ (δ q y) x) = l.foldl δ (δ (δ q x) y)
    rw [hc q y x hq (hl y (by simp)) (hl x (by simp))]
  | trans h1 h2 i1 i2 =>
    intro hl q hq
    rw [i1 hl q hq]
    exact i2 (fun i hi => hl i (h1.mem_iff.2 hi)) q hq
end
end Go.TX
namespace Go.TX
open Go Go.TH
noncomputable section
variable {P : Program} {sm : Sums} {rec : Rec} {ro : Option Nat} {N : Nat} {ops os : List Oper} {C : Code} {d : Nat} {car kept : List Nat} {ds : List Nat} {i m since clk : Nat} {envN : Tr SV} {h : Tr SO} {nx : Nat}
theorem insAll_ok (b : Nat) : ∀ (l R : List Nat), (∀ x, x ∈ R → x ∈ insAllK b l R fun R2 => R2) ∧ ∀ x, x ∈ l → x ∈ (insAllK b l R fun R2 => R2) ∨ b ≤ x
 | [], R => ⟨fun x hx => hx, fun x hx => by cases hx⟩
 | y :: r, R => by
  simp only [insAllK, insK_eq]
  obtain ⟨h1, h2⟩ := insAll_ok b r (ins b y R)
  refine ⟨fun x hx => h1 x (ins_sub _ _ _ _ hx), fun x hx => ?_⟩
  rcases List.mem_cons.1 hx with rfl | hx
  ·rcases ins_has b x R with q | q
   ·exact .inl (h1 _ q)
   ·exact .inr q
  ·exact h2 x hx
def RowG (G : CV → SEnt → Option (CV × List Nat × Nat)) (b : Nat) (q : CV) (es : List SEnt) (row : List CV) (R : List Nat) (n : Nat) : Prop := row.length = es.length ∧ ∀ (k : Nat) (e : SEnt), es[k]? = some e → ∃ q' Rr nr, G q e = some (q', Rr, nr) ∧ row[k]? = some q' ∧ (∀ x, x ∈ Rr → x ∈ R ∨ b ≤ x) ∧ nr ≤ n
theorem RowG.mono {G : CV → SEnt → Option (CV × List Nat × Nat)} {b : Nat} {q : CV} {es : List SEnt} {row : List CV} {R R' : List Nat} {n n' : Nat} (g : RowG G b q es row R n) (hR : ∀ x, x ∈ R → x ∈ R') (hn : n ≤ n') : RowG G b q es row R' n' := by
 refine ⟨g.1, fun k e he => ?_⟩
 obtain ⟨q', Rr, nr, h1, h2, h3, h4⟩ := g.2 k e he
 exact ⟨q', Rr, nr, h1, h2, fun x hx => (h3 x hx).imp (hR x) id, Nat.le_trans h4 hn⟩
theorem rowS_ok {b : Nat} {q : CV} : ∀ {l : List SEnt} {R : List Nat} {n : Nat} {row : List CV} {R' : List Nat} {n' : Nat}, rowS P sm rec ro N ops os C d car kept ds i m since clk envN h nx b q l R n = some (row, R', n') → RowG (rndS P sm rec ro N ops os C d car kept ds i m since clk envN h nx) b q l row R' n' ∧ (∀ x, x ∈ R → x ∈ R') ∧ n ≤ n'
 | [], R, n, row, R', n', hh => by
  simp only [rowS, Option.some.injEq, Prod.mk.injEq] at hh
  obtain ⟨rfl, rfl, rfl⟩ := hh
  exact ⟨⟨rfl, fun k e he => by simp at he⟩, fun x hx => hx, Nat.le_refl _⟩
 | e :: r, R, n, row, R', n', hh => by
  simp only [rowS] at hh
  split at hh
  case h_2 => cases hh
  rename_i q1 R1 n1 h1
  split at hh
  case h_2 => cases hh
  rename_i l R2 n2 h2
  simp only [Option.some.injEq, Prod.mk.injEq] at hh
  obtain ⟨rfl, rfl, rfl⟩ := hh
  obtain ⟨g, gR, gn⟩ := rowS_ok h2
  obtain ⟨a1, a2⟩ := insAll_ok b R1 R
  have hn : n ≤ n2 ∧ n1 ≤ n2 := by
   cases hb : Nat.ble n n1 with
   | true => rw [hb, cond_true] at gn; have := Nat.ble_eq.mp hb; omega
   | false =>
    rw [hb, cond_false] at gn
    have : ¬ n ≤ n1 := fun q => by rw [Nat.ble_eq.mpr q] at hb; cases hb
    omega
  refine ⟨⟨by simp [g.1], fun k e' he => ?_⟩, fun x hx => gR x (a1 x hx), hn.1⟩
  cases k with
  | zero =>
   simp at he; subst he
   exact ⟨q1, R1, n1, h1, by simp, fun x hx => (a2 x hx).imp (gR x) id, hn.2⟩
  | succ k => simp at he ⊢; exact g.2 k e' he
theorem expS_ok {b : Nat} {es : List SEnt} : ∀ {f : Nat} {ps : List CV} {T : List (CV × List CV)} {R : List Nat} {n : Nat} {T' : List (CV × List CV)} {R' : List Nat} {n' : Nat}, expS P sm rec ro N ops os C d car kept ds i m since clk envN h nx b es f ps T R n = some (T', R', n') → (∀ q row, (q, row) ∈ T → RowG (rndS P sm rec ro N ops os C d car kept ds i m since clk envN h nx) b q es row R n) → (∀ q row, (q, row) ∈ T' → RowG (rndS P sm rec ro N ops os C d car kept ds i m since clk envN h nx) b q es row R' n') ∧ (∀ x, x ∈ R → x ∈ R') ∧ n ≤ n'
 | f, [], T, R, n, T', R', n', hh, hT => by
  have hh : some (T, R, n) = some (T', R', n') := by cases f <;> simpa [expS] using hh
  simp only [Option.some.injEq, Prod.mk.injEq] at hh
  obtain ⟨rfl, rfl, rfl⟩ := hh
  exact ⟨hT, fun x hx => hx, Nat.le_refl _⟩
 | 0, q :: ps, T, R, n, T', R', n', hh, hT => by simp [expS] at hh
 | f + 1, q :: ps, T, R, n, T', R', n', hh, hT => by
  simp only [expS] at hh
  split at hh
  ·exact expS_ok hh hT
  ·split at hh
   case h_2 => cases hh
   rename_i row R1 n1 h1
   obtain ⟨g, gR, gn⟩ := rowS_ok h1
   obtain ⟨k1, k2, k3⟩ := expS_ok hh (fun q' row' hm => by
    rcases List.mem_cons.1 hm with e | hm
    ·cases e; exact g
    ·exact (hT q' row' hm).mono gR gn)
   exact ⟨k1, fun x hx => k2 x (gR x hx), Nat.le_trans gn k3⟩
variable {ρ ρ' : Ren} {D : Nat → Prop} {st st' : St} {w w' : World}
theorem Sim.world (hs : Sim ρ D st w) (hk : ∀ b, b < w.heap.size → w'.heap[b]? = w.heap[b]?) : Sim ρ D st w' := by
 refine ⟨fun x o hd hg => ?_, hs.inj, hs.lt⟩
 obtain ⟨b, s, ob, h1, h2, h3⟩ := hs.live x o hd hg
 have hb : b < w.heap.size := (Array.getElem?_eq_some_iff.1 h2).1
 exact ⟨b, s, ob, h1, by rw [hk b hb]; exact h2, h3⟩
theorem Sim.congr (hs : Sim ρ D st w) (hh : ∀ x, st'.h.get x = st.h.get x) (hn : st'.nx = st.nx) : Sim ρ D st' w :=
 ⟨fun x o hd hg => hs.live x o hd (by rw [← hh x]; exact hg), fun x y b s s' d d' gx gy => hs.inj x y b s s' d d' (by rw [← hh x]; exact gx) (by rw [← hh y]; exact gy), fun x gx => by rw [hn]; exact hs.lt x (by rw [← hh x]; exact gx)⟩
theorem Sim.told (hs : Sim ρ D st w) {x : Nat} {o : SO} (hx : st.h.get x ≠ none) (ho : D x → ∀ b s ob, ρ x = some (b, s) → w.heap[b]? = some ob → (∀ o', st.h.get x = some o' → ORel ρ s o' ob) → ORel ρ s o ob) {n b : Nat} {R W : List Nat} (hn : st.nx ≤ n) : Sim ρ D ⟨st.h.set x (some o), n, b, R, W⟩ w := by
 refine ⟨fun y o' hd hg => ?_, fun y z bb s s' d d' gy gz => ?_, fun y gy => ?_⟩
 ·simp only [Tr.get_set] at hg
  by_cases e : y = x
  ·rw [if_pos e] at hg
   cases hg
   rw [e] at hd ⊢
   cases hg : st.h.get x with
   | none => exact absurd hg hx
   | some o' =>
    obtain ⟨bb, s, ob, h1, h2, h3⟩ := hs.live x o' hd hg
    exact ⟨bb, s, ob, h1, h2, ho hd bb s ob h1 h2 (fun o2 h2 => by rw [hg] at h2; cases h2; exact h3)⟩
  ·rw [if_neg e] at hg
   exact hs.live y o' hd hg
 ·have k : ∀ y, (st.h.set x (some o)).get y ≠ none → st.h.get y ≠ none := fun y gy => by
   rw [Tr.get_set] at gy
   by_cases e : y = x
   ·rw [e]; exact hx
   ·rw [if_neg e] at gy; exact gy
  exact hs.inj y z bb s s' d d' (k y gy) (k z gz)
 ·simp only [Tr.get_set] at gy
  by_cases e : y = x
  ·rw [e]; exact Nat.lt_of_lt_of_le (hs.lt x hx) hn
  ·rw [if_neg e] at gy; exact Nat.lt_of_lt_of_le (hs.lt y gy) hn
theorem Sim.untold (hs : Sim ρ D st w) {x : Nat} {n b : Nat} {R W : List Nat} (hn : st.nx ≤ n) : Sim ρ D ⟨st.h.set x none, n, b, R, W⟩ w := by
 have k : ∀ y, (st.h.set x none).get y ≠ none → (st.h.set x none).get y = st.h.get y := fun y gy => by
  rw [Tr.get_set] at gy ⊢
  by_cases e : y = x
  ·rw [if_pos e] at gy; exact absurd rfl gy
  ·rw [if_neg e]
 refine ⟨fun y o' hd hg => hs.live y o' hd (by rw [← k y (by rw [hg]; simp)]; exact hg), fun y z bb s s' d d' gy gz => hs.inj y z bb s s' d d' (by rw [← k y gy]; exact gy) (by rw [← k z gz]; exact gz), fun y gy => Nat.lt_of_lt_of_le (hs.lt y (by rw [← k y gy]; exact gy)) hn⟩
theorem outsS_some {q m since clk : Nat} {seen : List Nat} : ∀ (l : List SEnt), ∃ L, outsS q m since clk seen st l = some L ∧ ∀ p ∈ L, ∃ e ∈ l, p = ((.tup [.raw (.bool true), e.key, e.val] : SV), (⟨st.h.set q (some (.iter (some m) since (e.born :: seen) clk)), st.nx, st.base, ins st.base q st.R, ins st.base q st.W⟩ : St))
 | [] => ⟨[], rfl, fun p hp => by cases hp⟩
 | e :: r => by
  obtain ⟨L, h1, h2⟩ := outsS_some (q := q) (m := m) (since := since) (clk := clk) (seen := seen) r
  refine ⟨((.tup [.raw (.bool true), e.key, e.val] : SV), (⟨st.h.set q (some (.iter (some m) since (e.born :: seen) clk)), st.nx, st.base, ins st.base q st.R, ins st.base q st.W⟩ : St)) :: L, by simp only [outsS, wtK_eq, h1], fun p hp => ?_⟩
  rcases List.mem_cons.1 hp with rfl | hp
  ·exact ⟨e, by simp, rfl⟩
  ·obtain ⟨e', he, hp⟩ := h2 p hp
   exact ⟨e', by simp [he], hp⟩
theorem leftS_mem {V : List Nat} : ∀ {es : List SEnt} {e : SEnt}, e ∈ leftS V es ↔ e ∈ es ∧ e.born ∉ V
 | [], e => by simp [leftS]
 | a :: r, e => by
  simp only [leftS]
  cases hm : memb a.born V with
  | true =>
   rw [cond_true, leftS_mem (es := r)]
   have := memb_mem hm
   constructor
   ·rintro ⟨h1, h2⟩; exact ⟨List.mem_cons_of_mem _ h1, h2⟩
   ·rintro ⟨h1, h2⟩
    rcases List.mem_cons.1 h1 with rfl | h1
    ·exact absurd this h2
    ·exact ⟨h1, h2⟩
  | false =>
   have hn : a.born ∉ V := fun q => by rw [memb_iff.2 q] at hm; cases hm
   rw [cond_false, List.mem_cons, leftS_mem (es := r), List.mem_cons]
   constructor
   ·rintro (rfl | ⟨h1, h2⟩)
    ·exact ⟨.inl rfl, hn⟩
    ·exact ⟨.inr h1, h2⟩
   ·rintro ⟨rfl | h1, h2⟩
    ·exact .inl rfl
    ·exact .inr ⟨h1, h2⟩
theorem leftS_le (V : List Nat) (x : Nat) : ∀ (es : List SEnt), (leftS (x :: V) es).length ≤ (leftS V es).length
 | [] => Nat.le_refl _
 | a :: r => by
  have ih := leftS_le V x r
  simp only [leftS]
  cases hm : memb a.born V with
  | true =>
   have : memb a.born (x :: V) = true := memb_iff.2 (List.mem_cons_of_mem _ (memb_mem hm))
   rw [this]; exact ih
  | false =>
   cases hm' : memb a.born (x :: V) with
   | true => simp only [cond_true, cond_false, List.length_cons]; omega
   | false => simp only [cond_false, List.length_cons]; omega
theorem leftS_lt {V : List Nat} : ∀ {es : List SEnt} {e : SEnt}, e ∈ leftS V es → (leftS (e.born :: V) es).length < (leftS V es).length
 | [], e, h => by simp [leftS] at h
 | a :: r, e, h => by
  have hle := leftS_le V e.born r
  have hv := (leftS_mem.1 h).2
  simp only [leftS] at h ⊢
  cases hm : memb a.born V with
  | true =>
   rw [hm, cond_true] at h
   have : memb a.born (e.born :: V) = true := memb_iff.2 (List.mem_cons_of_mem _ (memb_mem hm))
   rw [this]; exact leftS_lt h
  | false =>
   rw [hm, cond_false] at h
   rcases List.mem_cons.1 h with rfl | h
   ·have : memb e.born (e.born :: V) = true := memb_iff.2 (by simp)
    rw [this]
    simp only [cond_true, cond_false, List.length_cons]; omega
   ·have ih := leftS_lt h
    cases hm' : memb a.born (e.born :: V) with
    | true => simp only [cond_true, cond_false, List.length_cons]; omega
    | false => simp only [cond_false, List.length_cons]; omega
end
end Go.TX
namespace Go.TX
open Go Go.TH
noncomputable section
variable {P : Program} {sm : Sums} {rec : Rec} {ρ ρ' : Ren} {D : Nat → Prop} {st st' : St} {w w' : World} {N : Nat}
def dlt (G : CV → SEnt → Option (CV × List Nat × Nat)) (es : List SEnt) (q : CV) (k : Nat) : CV := match es[k]? with
 | some e => match G q e with
  | some (q', _, _) => q'
  | none => q
 | none => q
theorem rows_of {G : CV → SEnt → Option (CV × List Nat × Nat)} {b : Nat} {es : List SEnt} {T : List (CV × List CV)} {R : List Nat} {n : Nat} (h : ∀ q row, (q, row) ∈ T → RowG G b q es row R n) (hc : comB T T = true) : RowsT T es.length (dlt G es) := by
 intro q row hm
 have g := h q row hm
 refine ⟨g.1, fun k hk => ?_, fun q' hq' => ?_⟩
 ·obtain ⟨q', Rr, nr, h1, h2, _⟩ := g.2 k es[k] (List.getElem?_eq_getElem hk)
  rw [h2]
  simp only [dlt, List.getElem?_eq_getElem hk, h1]
 ·obtain ⟨M, hM, _⟩ := comB_mem hc q row hm
  obtain ⟨j, hj, e⟩ := List.getElem_of_mem hq'
  obtain ⟨y, hy, _⟩ := (mapO_ok hM).2 j q' (by rw [List.getElem?_eq_getElem hj, e])
  exact ⟨y, hy⟩
theorem nodupB_pl : ∀ {es : List SEnt} {l : List Nat}, nodupB es l = true → (es.map (·.born)).Nodup ∧ ∀ x ∈ es.map (·.born), x ∉ l
 | [], l, _ => ⟨List.nodup_nil, fun x hx => by cases hx⟩
 | e :: r, l, h => by
  simp only [nodupB] at h
  cases hm : memb e.born l with
  | true => rw [hm] at h; cases h
  | false =>
   rw [hm, cond_false] at h
   obtain ⟨h1, h2⟩ := nodupB_pl h
   have hn : e.born ∉ l := fun q => by rw [memb_iff.2 q] at hm; cases hm
   refine ⟨?_, fun x hx => ?_⟩
   ·rw [List.map_cons, List.nodup_cons]
    exact ⟨fun q => h2 _ q (by simp), h1⟩
   ·rw [List.map_cons] at hx
    rcases List.mem_cons.1 hx with rfl | hx
    ·exact hn
    ·exact fun q => h2 x hx (List.mem_cons_of_mem _ q)
structure Frm (w w' : World) (B : Nat) : Prop where
 os : w'.os = w.os
 tape : w'.tape = w.tape
 output : w'.output = w.output
 size : w.heap.size ≤ w'.heap.size
 keep : ∀ b, b < w.heap.size → b ≠ B → w'.heap[b]? = w.heap[b]?
theorem Frm.refl (w : World) (B : Nat) : Frm w w B := ⟨rfl, rfl, rfl, Nat.le_refl _, fun _ _ _ => rfl⟩
theorem Frm.trans {w w1 w2 : World} {B : Nat} (h : Frm w w1 B) (h' : Frm w1 w2 B) : Frm w w2 B :=
 ⟨h'.os.trans h.os, h'.tape.trans h.tape, h'.output.trans h.output, Nat.le_trans h.size h'.size, fun b hb hB => (h'.keep b (Nat.lt_of_lt_of_le hb h.size) hB).trans (h.keep b hb hB)⟩
theorem allB_mem {α : Type} {f : α → Bool} : ∀ {l : List α}, allB f l = true → ∀ x ∈ l, f x = true
 | [], _, x, h => by cases h
 | a :: r, h, x, hx => by
  simp only [allB] at h
  cases ha : f a with
  | false => rw [ha] at h; cases h
  | true =>
   rw [ha, cond_true] at h
   rcases List.mem_cons.1 hx with rfl | hx
   ·exact ha
   ·exact allB_mem h x hx
theorem isNl_eq {l : List Nat} (h : isNl l = true) : l = [] := by cases l; rfl; cases h
theorem isNrm_eq {e : Ex} (h : isNrm e = true) : e = .nrm := by cases e <;> first | rfl | cases h
theorem eqN_eq {l r : List Nat} (h : eqL Nat.beq l r = true) : l = r := eqL_eq (fun _ _ => Nat.eq_of_beq_eq_true) h
structure MlF (P : Program) (sm : Sums) (rec : Rec) (ro : Option Nat) (N : Nat) (ops os : List Oper) (C : Code) (x d : Nat) (A : List Nat) (env : Tr SV) (ds : List Nat) (h0 : Tr SO) (nx b : Nat) (R W : List Nat) (L : List Out) (i m since clk : Nat) (es : List SEnt) (car : List Nat) (q0 q : CV) (T : List (CV × List CV)) (R2 : List Nat) (n2 : Nat) : Prop where
 hxA : x ∉ A
 hdA : d ∈ A
 hdN : d < N
 hx : env.get x = some (.ptr i 0)
 hi : h0.get i = some (.iter (some m) since [] clk)
 hm : h0.get m = some (.map es clk)
 sc : since ≤ clk
 old : oldB since es = true
 bi : b ≤ i
 nd : nodupB es [] = true
 big : 2 ≤ es.length
 hcar : carL env A [] = some car
 hq0 : getT env car = some q0
 exp : expS P sm rec ro N ops os C d car (keptL A N) ds i m since clk (anyT env A) h0 nx b es (Nat.add (Nat.mul 4 (llen es)) 10) [q0] [] (insK b m R fun R' => R') nx = some (T, R2, n2)
 com : comB T T = true
 run : runT T es.length 0 q0 = some q
 lst : lstS P sm rec ro N ops os C d car ds i (anyT env A) h0 q b R2 W n2 = some L
theorem mlGo_some {ro : Option Nat} {ops os : List Oper} {C : Code} {x d : Nat} {A : List Nat} {env : Tr SV} {ds : List Nat} {h0 : Tr SO} {nx b : Nat} {R W : List Nat} {L : List Out} (h : mlGo P sm rec ro N ops os C x d A env ds ⟨h0, nx, b, R, W⟩ = some L) : ∃ i m since clk es car q0 q T R2 n2, MlF P sm rec ro N ops os C x d A env ds h0 nx b R W L i m since clk es car q0 q T R2 n2 := by
 simp only [mlGo] at h
 cases hxA : memb x A with
 | true => rw [hxA] at h; cases h
 | false =>
  rw [hxA, cond_false] at h
  have hdd := (bif_of h).1
  replace h := (bif_of h).2
  rw [Bool.and_eq_true] at hdd
  split at h
  case h_2 => cases h
  rename_i i hx
  split at h
  case h_2 => cases h
  rename_i m since clk hi
  split at h
  case h_2 => cases h
  rename_i es clk' hm
  have hc := (bif_of h).1
  replace h := (bif_of h).2
  simp only [Bool.and_eq_true] at hc
  obtain ⟨c1, c2, c3, c4, c5, c6⟩ := hc
  have e := Nat.eq_of_beq_eq_true c1
  subst e
  split at h
  case h_2 => cases h
  rename_i car hcar
  split at h
  case h_2 => cases h
  rename_i q0 hq0
  split at h
  case h_2 => cases h
  rename_i T R2 n2 hexp
  have hcom := (bif_of h).1
  replace h := (bif_of h).2
  split at h
  case h_2 => cases h
  rename_i q hrun
  refine ⟨i, m, since, clk, es, car, q0, q, T, R2, n2, ⟨fun hh => (by rw [memb_iff.2 hh] at hxA; cases hxA), memb_mem hdd.1, Nat.blt_eq.mp hdd.2, hx, hi, hm, Nat.ble_eq.mp c2, c3, Nat.ble_eq.mp c4, c5, (by rw [← llen_eq]; exact Nat.ble_eq.mp c6), hcar, hq0, hexp, hcom, (by rw [← llen_eq]; exact hrun), h⟩⟩
section
variable {ro : Option Nat} {ops os : List Oper} {C : Code} {x d : Nat} {A : List Nat} {env : Tr SV} {ds : List Nat} {h0 : Tr SO} {nx b : Nat} {R W : List Nat} {L : List Out} {i m since clk : Nat} {es : List SEnt} {car : List Nat} {q0 q : CV} {T : List (CV × List CV)} {R2 : List Nat} {n2 : Nat}
theorem MlF.rows (f : MlF P sm rec ro N ops os C x d A env ds h0 nx b R W L i m since clk es car q0 q T R2 n2) : (∀ q row, (q, row) ∈ T → RowG (rndS P sm rec ro N ops os C d car (keptL A N) ds i m since clk (anyT env A) h0 nx) b q es row R2 n2) ∧ (∀ x, x ∈ (insK b m R fun R' => R') → x ∈ R2) ∧ nx ≤ n2 := expS_ok f.exp (fun q row h => by cases h)
theorem MlF.out (f : MlF P sm rec ro N ops os C x d A env ds h0 nx b R W L i m since clk es car q0 q T R2 n2) : ∃ L1, exL P sm rec N ops os ((putT (anyT env A) car q).set d (some (.tup [.raw (.bool false)]))) ⟨h0.set i none, n2, b, R2, W⟩ = some L1 ∧ mapB (fun p => rec ro N C p.1 ds p.2) L1 = some L ∧ ∀ o ∈ L, o.1 ≠ .nrm := by
 have h := f.lst
 simp only [lstS] at h
 split at h
 case h_2 => cases h
 rename_i L1 h1
 split at h
 case h_2 => cases h
 rename_i L2 h2
 have ha := (bif_of h).1
 replace h := (bif_of h).2
 simp only [Option.some.injEq] at h
 subst h
 refine ⟨L1, h1, h2, fun o ho e => ?_⟩
 have := allB_mem ha o ho
 rw [e] at this
 cases this
theorem MlF.mono (hrm : RecMono rec) (hsm : SumMono sm) (f : MlF P sm rec ro N ops os C x d A env ds h0 nx b R W L i m since clk es car q0 q T R2 n2) : ∀ o ∈ L, Mono ⟨h0.set i none, n2, b, R2, W⟩ o.2.2.2 := by
 obtain ⟨L1, h1, h2, _⟩ := f.out
 intro o ho
 obtain ⟨p, hp, lx, e1, e2⟩ := (mapB_mem h2).2 o ho
 exact (exL_mono hrm hsm h1 p hp).trans (hrm _ _ _ _ _ _ _ e1 o e2)
theorem MlF.ne (hrn : RecNE rec) (f : MlF P sm rec ro N ops os C x d A env ds h0 nx b R W L i m since clk es car q0 q T R2 n2) : L ≠ [] := by
 obtain ⟨L1, h1, h2, _⟩ := f.out
 exact mapB_ne h2 (exL_ne hrn h1) (fun p lx e => hrn _ _ _ _ _ _ _ e)
theorem MlF.mono0 (hrm : RecMono rec) (hsm : SumMono sm) (f : MlF P sm rec ro N ops os C x d A env ds h0 nx b R W L i m since clk es car q0 q T R2 n2) : ∀ o ∈ L, Mono ⟨h0, nx, b, R, W⟩ o.2.2.2 := by
 intro o ho
 refine Mono.trans ?_ (f.mono hrm hsm o ho)
 obtain ⟨_, h2, h3⟩ := f.rows
 refine ⟨h3, rfl, fun y hy => h2 y (by rw [insK_eq]; exact ins_sub _ _ _ _ hy), fun y hy => ?_⟩
 show KeepL (h0.get y) ((h0.set i none).get y)
 rw [Tr.get_set]
 by_cases e : y = i
 ·rw [if_pos e, e, f.hi]
  exact ⟨fun r hr => (by cases hr), fun hr => (by cases hr)⟩
 ·rw [if_neg e]; exact KeepL.refl _
end
end
end Go.TX
namespace Go.TX
open Go Go.TH
noncomputable section
variable {P : Program} {sm : Sums} {rec : Rec} {ρ ρ' : Ren} {D : Nat → Prop} {st st' : St} {w w' : World} {N : Nat}
theorem ins_mem {b x y : Nat} {l : List Nat} (h : y ∈ ins b x l) : y = x ∨ y ∈ l := by
 unfold ins at h
 cases h1 : Nat.blt x b with
 | false => rw [h1] at h; exact .inr h
 | true =>
  cases h2 : memb x l with
  | true => rw [h1, h2] at h; exact .inr h
  | false => rw [h1, h2] at h; exact List.mem_cons.1 h
theorem getT_raw (env : Tr SV) : ∀ (car : List Nat) (q : CV), getT env car = some q → ∀ t, t ∈ car → ∃ v, env.get t = some (.raw v)
 | [], _, _, t, h => by cases h
 | c :: r, q, h, t, ht => by
  simp only [getT] at h
  split at h
  case h_2 => cases h
  rename_i v hv
  split at h
  case h_2 => cases h
  rename_i l hl
  rcases List.mem_cons.1 ht with rfl | ht
  ·exact ⟨v, hv⟩
  ·exact getT_raw env r l hl t ht
theorem dlt_eq {G : CV → SEnt → Option (CV × List Nat × Nat)} {es : List SEnt} {q q' : CV} {k n : Nat} {e : SEnt} {Rr : List Nat} (h1 : es[k]? = some e) (h2 : G q e = some (q', Rr, n)) : dlt G es q k = q' := by
 simp only [dlt, h1, h2]
theorem setset (h : Tr SO) (i : Nat) (a b : Option SO) (x : Nat) : ((h.set i a).set i b).get x = (h.set i b).get x := by
 rw [Tr.get_set (h.set i a), Tr.get_set h i x b]
 by_cases e : x = i
 ·rw [if_pos e, if_pos e]
 ·rw [if_neg e, if_neg e, Tr.get_set, if_neg e]
section
variable {ro : Option Nat} {os : List Oper} {C : Code} {x d : Nat} {A : List Nat} {env : Tr SV} {ds : List Nat} {h0 : Tr SO} {nx b : Nat} {R W : List Nat} {L : List Out} {i m since clk : Nat} {es : List SEnt} {car : List Nat} {q0 q : CV} {T : List (CV × List CV)} {R2 : List Nat} {n2 : Nat}
theorem nx_val {V : List Nat} (h1 : h0.get i = some (.iter (some m) since V clk)) (h2 : h0.get m = some (.map es clk)) (sc : since ≤ clk) (old : oldB since es = true) : nxS (.ptr i 0) ⟨h0, nx, nx, [], []⟩ = match leftS V es with
 | [] => some [(.tup [.raw (.bool false)], ⟨h0, nx, nx, ins nx i (ins nx m []), []⟩)]
 | e :: r => outsS i m since clk V ⟨h0, nx, nx, ins nx m [], []⟩ (e :: r) := by
 simp only [nxS, h1, Nat.ble_eq.mpr sc, cond_true, rdMK, h2, insK_eq, old]
 cases leftS V es <;> rfl
theorem MlF.ok (hen : Enters P) (hrm : RecMono rec) (hrn : RecNE rec) (hr : CodeOK P rec) (hsm : SumOK P sm) {o : Oper} {id : Nat} (f : MlF P sm rec ro N (o :: os) os C x d A env ds h0 nx b R W L i m since clk es car q0 q T R2 n2) (hop : o.op = .next (.tmp x) false) (hog : o.guard = none) (hod : o.dst = some d) {a : Act} {rb : Option Nat} (he : EnvR ρ N env a.tmps) (hds : DsR ρ ds a.defers) (hro : RoR ρ ro rb) (hs : Sim ρ D ⟨h0, nx, b, R, W⟩ w) (hD : ∀ o ∈ L, ∀ x, x ∈ o.2.2.2.R ∨ b ≤ x → D x) (hf : ∀ o ∈ L, Free ρ nx o.2.2.2.nx) : LoopIn (fwd rb) P (.seq (.region id (o :: os).toArray false) C) (fun e' a' w' => ∃ o ∈ L, PostC ρ D N ⟨h0, nx, b, R, W⟩ w o e' a' w') a w := by
 obtain ⟨hrows, hR2, hn2⟩ := f.rows
 obtain ⟨L1, hL1, hL, hne⟩ := f.out
 obtain ⟨o1, r1, hLc⟩ := List.exists_cons_of_ne_nil (f.ne hrn)
 have ho1 : o1 ∈ L := by rw [hLc]; simp
 have hmo := f.mono hrm hsm.1 o1 ho1
 have hDR : ∀ y, y ∈ R2 ∨ b ≤ y → D y := fun y hy => hD o1 ho1 y (hy.imp (hmo.R y) _root_.id)
 have hfn : Free ρ nx n2 := fun y h1 h2 => hf o1 ho1 y h1 (Nat.lt_of_lt_of_le h2 hmo.nx)
 have hDi : D i := hDR i (.inr f.bi)
 have hDm : D m := hDR m (by rw [insK_eq] at hR2; exact (ins_has b m R).imp (hR2 m) _root_.id)
 have hbi := f.bi
 obtain ⟨Bi, si, obi, hρi, hwi, horel⟩ := hs.live i _ hDi f.hi
 have hilt : i < nx := hs.lt i (by simp only [f.hi]; simp)
 have hDn : ∀ y, nx ≤ y → D y := fun y hy => hDR y (.inr (by omega))
 have hDD : (fun y => D y ∨ nx ≤ y) = D := funext fun y => propext ⟨fun q => q.elim _root_.id (hDn y), .inl⟩
 obtain ⟨envN, henvN⟩ : ∃ E, E = anyT env A := ⟨_, rfl⟩
 obtain ⟨G, hG⟩ : ∃ G, G = rndS P sm rec ro N (o :: os) os C d car (keptL A N) ds i m since clk (anyT env A) h0 nx := ⟨_, rfl⟩
 rw [← hG] at hrows
 rw [← henvN] at hL1
 have hT := rows_of hrows f.com
 have hSd : ∀ q k, (∃ row, (q, row) ∈ T) → k < es.length → ∃ row, (dlt G es q k, row) ∈ T := by
  rintro q k ⟨row, hq⟩ hk
  obtain ⟨_, g2, g3⟩ := hT q row hq
  obtain ⟨r', hr'⟩ := g3 _ (List.mem_of_getElem? (g2 k hk))
  exact ⟨r', lookT_mem hr'⟩
 have hS0 : ∃ row, (q0, row) ∈ T := by
  have h1 := f.run
  have h2 := f.big
  obtain ⟨n, hn⟩ : ∃ n, es.length = n + 1 := ⟨es.length - 1, by omega⟩
  rw [hn] at h1
  simp only [runT] at h1
  split at h1
  case h_2 => cases h1
  rename_i row hr
  exact ⟨row, lookT_mem hr⟩
 have hfold := runT_ok hT (by omega) f.run
 have hSI : ∀ Is : List Nat, (∀ k ∈ Is, k < es.length) → ∃ row, (Is.foldr (fun k q => dlt G es q k) q0, row) ∈ T := by
  intro Is
  induction Is with
  | nil => intro _; exact hS0
  | cons k Is ih => intro hk; exact hSd _ k (ih fun j hj => hk j (by simp [hj])) (hk k (by simp))
 have hxc : x ∉ car := fun hh => by
  rcases (carL_ok env A [] car f.hcar).2.1 x hh with q | q
  ·exact f.hxA q
  ·cases q
 have hcA : ∀ t, t ∈ car → t ∈ A := fun t hh => by
  rcases (carL_ok env A [] car f.hcar).2.1 t hh with q | q
  ·exact q
  ·cases q
 have hgN : ∀ t, t ∉ A → envN.get t = env.get t := fun t ht => by rw [henvN, anyT_get, if_neg (fun q => ht q.2)]
 have hgx : ∀ q, svOp (putT envN car q) (.tmp x) = .ptr i 0 := fun q => by
  simp only [svOp]
  rw [putT_out _ _ _ _ hxc, hgN x f.hxA, f.hx]
 have hmi : m ≠ i := fun e => by
  have h1 := f.hi
  rw [← e, f.hm] at h1
  cases h1
 obtain ⟨bn, hbn⟩ : ∃ bn : Nat → Nat, ∀ k e, es[k]? = some e → bn k = e.born := ⟨fun k => (es[k]?.map (·.born)).getD 0, fun k e hk => by simp [hk]⟩
 have hwant : ∀ E : Tr SV, wantS (o :: os) E o = some true := fun E => by unfold wantS; rw [hog]
 have key : ∀ (n : Nat) (Is : List Nat) (a1 : Act) (w1 : World), (leftS (Is.map bn) es).length = n → (∀ k ∈ Is, k < es.length) → Is.Nodup → EnvR ρ N (putT envN car (Is.foldr (fun k q => dlt G es q k) q0)) a1.tmps → DsR ρ ds a1.defers → Sim ρ D ⟨h0.set i (some (.iter (some m) since (Is.map bn) clk)), nx, b, R, W⟩ w1 → Frm w w1 Bi → LoopIn (fwd rb) P (.seq (.region id (o :: os).toArray false) C) (fun e' a' w' => ∃ o ∈ L, PostC ρ D N ⟨h0, nx, b, R, W⟩ w o e' a' w') a1 w1 := by
  intro n
  induction n using Nat.strongRecOn with
  | _ n ih =>
  intro Is a1 w1 hn hIs hnd he1 hd1 hs1 hfr
  refine LoopIn.of (wpIn_seq (wpIn_region_lit ?_))
  simp only [wpListIn]
  rw [if_pos (by rw [wantS_ok he1 (hwant _)])]
  have gi : (h0.set i (some (.iter (some m) since (Is.map bn) clk))).get i = some (.iter (some m) since (Is.map bn) clk) := by rw [Tr.get_set, if_pos rfl]
  have gm : (h0.set i (some (.iter (some m) since (Is.map bn) clk))).get m = some (.map es clk) := by rw [Tr.get_set, if_neg hmi]; exact f.hm
  have hs1' : Sim ρ D ⟨h0.set i (some (.iter (some m) since (Is.map bn) clk)), nx, nx, [], []⟩ w1 := hs1.congr (fun _ => rfl) rfl
  have hnv := nx_val (nx := nx) gi gm f.sc f.old
  have hex : exO P sm rec (putT envN car (Is.foldr (fun k q => dlt G es q k) q0)) o ⟨h0.set i (some (.iter (some m) since (Is.map bn) clk)), nx, nx, [], []⟩ = nxS (.ptr i 0) ⟨h0.set i (some (.iter (some m) since (Is.map bn) clk)), nx, nx, [], []⟩ := by
   obtain ⟨dst, op, ty, pos, af, g⟩ := o
   simp only at hop
   subst hop
   simp only [exO, hgx]
  rw [hnv] at hex
  have hDt : ∀ y, y ∈ ins nx i (ins nx m []) ∨ nx ≤ y → D y := by
   rintro y (hy | hy)
   ·rcases ins_mem hy with rfl | hy
    ·exact hDi
    ·rcases ins_mem hy with rfl | hy
     ·exact hDm
     ·cases hy
   ·exact hDn y hy
  have hfr0 : Free ρ nx nx := fun y h1 h2 => absurd h1 (by omega)
  cases hl : leftS (Is.map bn) es with
  | cons e0 r0 =>
   rw [hl] at hex
   obtain ⟨Lx, hLx, hLm⟩ := outsS_some (st := ⟨h0.set i (some (.iter (some m) since (Is.map bn) clk)), nx, nx, ins nx m [], []⟩) (q := i) (m := m) (since := since) (clk := clk) (seen := Is.map bn) (e0 :: r0)
   have h1 := hex.trans hLx
   refine exO_ok hen hrm hrn hr hsm h1 ρ D w1 a1 _ _ he1 hs1' (fun p hp y hy => ?_) (fun p hp => ?_) ?_
   ·obtain ⟨e, _, rfl⟩ := hLm p hp
    exact hDt y hy
   ·obtain ⟨e, _, rfl⟩ := hLm p hp
    exact hfr0
   intro p hp u w2 ρ1 hv hst
   obtain ⟨e, hel, rfl⟩ := hLm p hp
   have hρ1 : ρ1 = ρ := funext fun y => hst.ext y (by show y < nx ∨ nx ≤ y; omega)
   rw [hρ1] at hv hst
   have hev := leftS_mem.1 (show e ∈ leftS (Is.map bn) es by rw [hl]; exact hel)
   obtain ⟨k, hk, hke⟩ := List.getElem_of_mem hev.1
   have hke? : es[k]? = some e := by rw [List.getElem?_eq_getElem hk, hke]
   have hbk := hbn k e hke?
   have hfr2 : Frm w1 w2 Bi := by
    refine ⟨hst.os, hst.tape, hst.output, hst.size, fun bb hb hB => ?_⟩
    rcases hst.keep bb hb with q | ⟨y, s, p1, p2, p3, p4⟩
    ·exact q
    ·exfalso
     rcases p4 with p4 | p4
     ·rcases ins_mem p4 with rfl | p4
      ·rw [hρi] at p1; cases p1; exact hB rfl
      ·cases p4
     ·have := hs1'.lt y p3
      exact absurd this (by show ¬ y < nx; have : nx ≤ y := p4; omega)
   obtain ⟨row, hrow⟩ := hSI Is hIs
   obtain ⟨q', Rr, nr, hG1, _, hRr, hnr⟩ := (hrows _ row hrow).2 k e hke?
   have hq' : dlt G es (Is.foldr (fun k q => dlt G es q k) q0) k = q' := dlt_eq hke? hG1
   rw [congrFun (congrFun hG (Is.foldr (fun k q => dlt G es q k) q0)) e, ← henvN] at hG1
   simp only [rndS] at hG1
   split at hG1
   case h_2 => cases hG1
   rename_i env2 st2 hx2
   split at hG1
   case h_2 => cases hG1
   rename_i e3 env3 ds3 st3 hx3
   have hcs := (bif_of hG1).1
   replace hG1 := (bif_of hG1).2
   simp only [Bool.and_eq_true] at hcs
   obtain ⟨c1, c2, c3, c4, c5⟩ := hcs
   split at hG1
   case h_2 => cases hG1
   rename_i q2 hgt
   simp only [Option.some.injEq, Prod.mk.injEq] at hG1
   obtain ⟨g1, g2, g3⟩ := hG1
   have hn3 := isNrm_eq c1
   have hd3 := eqN_eq c2
   have hW3 := isNl_eq c3
   rw [hn3, hd3] at hx3
   rw [g1] at hgt
   have hstm : Mono st2 st3 := hrm _ _ _ _ _ _ _ hx3 _ List.mem_cons_self
   have hR3 : ∀ y, y ∈ st3.R ∨ nx ≤ y → D y := by
    rintro y (hy | hy)
    ·exact hDR y (hRr y (by rw [← g2]; exact hy))
    ·exact hDn y hy
   have hN3 : Free ρ nx st3.nx := fun y a1 a2 => hfn y a1 (by rw [← g3] at hnr; omega)
   have hsE : Sim ρ D ⟨h0.set i (some (.itl m since e.born clk)), nx, nx, [], []⟩ w2 := by
    have h1 := hst.sim.sub (D' := D) fun y hy => .inl hy
    have h2 := h1.told (x := i) (o := .itl m since e.born clk) (n := nx) (b := nx) (R := []) (W := []) (by show ((h0.set i _).set i _).get i ≠ none; rw [Tr.get_set, if_pos rfl]; simp) (fun _ bb s ob q1 q2 q3 => by
     have q4 := q3 _ (show ((h0.set i _).set i _).get i = some _ by rw [Tr.get_set, if_pos rfl])
     obtain ⟨z0, mb, z1, B, zz, z2, z3⟩ := q4
     refine ⟨z0, B, zz, (Is.map bn).reverse, z2, ?_⟩
     rw [z1, z3]; simp) (Nat.le_refl nx)
    refine h2.congr (fun y => ?_) rfl
    show (h0.set i _).get y = (((h0.set i _).set i _).set i _).get y
    rw [setset, setset]
   have heE : EnvR ρ N ((putT envN car (Is.foldr (fun k q => dlt G es q k) q0)).set d (some (.tup [.raw (.bool true), e.key, e.val]))) (a1.put o.dst u).tmps := by
    rw [hod]; exact he1.put f.hdN hv
   refine exL_ok hen hrm hrn hr hsm (ro := rb) hx2 heE hsE (fun p hp y hy => ?_) (fun p hp => ?_) ?_
   ·rw [List.mem_singleton] at hp
    subst hp
    exact hR3 y (hy.imp (hstm.R y) _root_.id)
   ·rw [List.mem_singleton] at hp
    subst hp
    exact fun y a1 a2 => hN3 y a1 (Nat.lt_of_lt_of_le a2 hstm.nx)
   intro p hp a' w3 ρ3 hd3' he3 hst3
   rw [List.mem_singleton] at hp
   subst hp
   have hle3 : ρ.Le ρ3 := hst3.le fun y a1 a2 => hN3 y a1 (Nat.lt_of_lt_of_le a2 hstm.nx)
   have hdef : a'.defers = a1.defers := by rw [hd3', hod]; rfl
   show C.wpIn (fwd rb) 0 P _ a' w3
   refine wpIn_mono (hr ro N C env2 ds st2 _ hx3 ρ3 (fun y => D y ∨ nx ≤ y) w3 a' rb he3 (by rw [hdef]; exact hd1.mono hle3) (hro.mono hle3) hst3.sim ?_ ?_) ?_
   ·intro o4 ho4 y hy
    rw [List.mem_singleton] at ho4
    subst ho4
    have hb2 : st2.base = nx := hst3.base
    rw [hb2] at hy
    exact .inl (hR3 y hy)
   ·intro o4 ho4
    rw [List.mem_singleton] at ho4
    subst ho4
    exact hst3.free hN3
   rintro e' a4 w4 ⟨o4, ho4, rfl, ρ4, he4, hd4, hst4⟩
   rw [List.mem_singleton] at ho4
   subst ho4
   have hst34 := hst3.trans hst4
   have hle4 : ρ.Le ρ4 := hst34.le hN3
   have hback : ∀ y, ρ y ≠ none → ρ4 y = ρ y := fun y hy => by
    cases hρ : ρ y with
    | none => exact absurd hρ hy
    | some v => exact hle4 y v hρ
   have hk4 : ∀ bb, bb < w2.heap.size → w4.heap[bb]? = w2.heap[bb]? := by
    intro bb hb
    rcases hst34.keep bb hb with q | ⟨y, s, p1, p2, p3, p4⟩
    ·exact q
    ·exfalso
     rcases p4 with p4 | p4
     ·have p4 : y ∈ st3.W := p4
      rw [hW3] at p4; cases p4
     ·have := hsE.lt y p3
      exact absurd this (by show ¬ y < nx; have : nx ≤ y := p4; omega)
   show LoopIn (fwd rb) P _ _ a4 w4
   refine ih _ ?_ (k :: Is) a4 w4 rfl ?_ ?_ ?_ ?_ ?_ ?_
   ·rw [List.map_cons, hbk, ← hn]
    exact leftS_lt (show e ∈ leftS (Is.map bn) es by rw [hl]; exact hel)
   ·intro j hj
    rcases List.mem_cons.1 hj with rfl | hj
    ·exact hk
    ·exact hIs j hj
   ·rw [List.nodup_cons]
    refine ⟨fun hh => hev.2 ?_, hnd⟩
    rw [← hbk]; exact List.mem_map_of_mem hh
   ·show EnvR ρ N (putT envN car (dlt G es (Is.foldr (fun k q => dlt G es q k) q0) k)) a4.tmps
    rw [hq']
    refine ⟨he4.1, fun t => ?_⟩
    have h4 := he4.2 t
    have h4 : Rel ρ4 ((env3.get t).getD (.raw undef)) (a4.tmps.getD t undef) := h4
    by_cases htc : t ∈ car
    ·rw [getT_put envN env3 car q' hgt t htc]
     obtain ⟨v, hv3⟩ := getT_raw env3 car q' hgt t htc
     rw [hv3] at h4 ⊢
     rw [Option.getD_some, Rel] at h4 ⊢
     exact h4
    ·rw [putT_out _ _ _ _ htc]
     by_cases htA : t ∈ A
     ·have hnone := ((carL_ok env A [] car f.hcar).1 t htA).resolve_right htc
      rw [henvN, anyT_get, if_pos ⟨hnone, htA⟩, Option.getD_some, Rel]
      exact True.intro
     ·rw [hgN t htA]
      by_cases htN : t < N
      ·have hkp := keptB_ok c5 t (keptL_ok A N t htN htA)
       rw [putT_out _ _ _ _ htc, hgN t htA] at hkp
       rw [← hkp] at h4
       exact Rel.back hback (he.2 t) h4
      ·have h5 := he.2 t
       have e1 : a.tmps.getD t undef = undef := by
        have := he.1
        simp [Array.getD_eq_getD_getElem?, Array.getElem?_eq_none (show a.tmps.size ≤ t by omega)]
       have e2 : a4.tmps.getD t undef = undef := by
        have := he4.1
        simp [Array.getD_eq_getD_getElem?, Array.getElem?_eq_none (show a4.tmps.size ≤ t by omega)]
       rw [e1] at h5
       rw [e2]; exact h5
   ·exact hds.back hback hd4
   ·have h1 := (hst.sim.sub (D' := D) fun y hy => .inl hy).world hk4
    refine h1.congr (fun y => ?_) rfl
    rw [List.map_cons, hbk]
    exact (setset _ _ _ _ _).symm
   ·exact hfr.trans (hfr2.trans ⟨hst34.os, hst34.tape, hst34.output, hst34.size, fun bb hb _ => hk4 bb hb⟩)
  | nil =>
   rw [hl] at hex
   refine exO_ok hen hrm hrn hr hsm hex ρ D w1 a1 _ _ he1 hs1' (fun p hp y hy => ?_) (fun p hp => ?_) ?_
   ·rw [List.mem_singleton] at hp
    subst hp
    exact hDt y hy
   ·rw [List.mem_singleton] at hp
    subst hp
    exact hfr0
   intro p hp u w2 ρ1 hv hst
   rw [List.mem_singleton] at hp
   subst hp
   have hρ1 : ρ1 = ρ := funext fun y => hst.ext y (by show y < nx ∨ nx ≤ y; omega)
   rw [hρ1] at hv hst
   have hfr2 : Frm w w2 Bi := by
    refine hfr.trans ⟨hst.os, hst.tape, hst.output, hst.size, fun bb hb hB => ?_⟩
    rcases hst.keep bb hb with q | ⟨y, s, p1, p2, p3, p4⟩
    ·exact q
    ·exfalso
     rcases p4 with p4 | p4
     ·cases p4
     ·have := hs1'.lt y p3
      exact absurd this (by show ¬ y < nx; have : nx ≤ y := p4; omega)
   have hall : Is.reverse.Perm (List.range' 0 es.length) := by
    rw [List.perm_ext_iff_of_nodup (List.pairwise_reverse.2 (List.Pairwise.imp (fun h => Ne.symm h) hnd)) (List.nodup_range' 1)]
    intro k
    rw [List.mem_reverse, List.mem_range']
    constructor
    ·intro hk; exact ⟨k, hIs k hk, by omega⟩
    ·rintro ⟨k', hk', rfl⟩
     have ek : es[0 + 1 * k']? = some es[k'] := by rw [show 0 + 1 * k' = k' by omega]; exact List.getElem?_eq_getElem hk'
     have hin : es[k'].born ∈ Is.map bn := by
      by_cases hh : es[k'].born ∈ Is.map bn
      ·exact hh
      ·have := leftS_mem.2 ⟨List.getElem_mem hk', hh⟩
       rw [hl] at this; cases this
     obtain ⟨j, hj, hje⟩ := List.mem_map.1 hin
     have hjl := hIs j hj
     rw [hbn j es[j] (List.getElem?_eq_getElem hjl)] at hje
     have hnb := (nodupB_pl f.nd).1
     have : j = k' := by
      have e1 : (es.map (·.born))[j]'(by simpa using hjl) = (es.map (·.born))[k']'(by simpa using hk') := by simpa using hje
      exact (List.getElem_inj hnb).1 e1
     rw [show 0 + 1 * k' = k' by omega, ← this]
     exact hj
   have hq : Is.foldr (fun k q => dlt G es q k) q0 = q := by
    rw [hfold, ← foldl_perm (S := fun q => ∃ row, (q, row) ∈ T) (n := es.length) (fun q k hq hk => hSd q k hq hk) (fun q i j ⟨row, hq⟩ hi hj => com_ok hT f.com hq hi hj) hall (fun k hk => hIs k (List.mem_reverse.1 hk)) q0 hS0]
    rw [List.foldl_reverse]
   have hsE : Sim ρ D ⟨h0.set i none, n2, b, R2, W⟩ w2 := by
    have h1 := (hst.sim.sub (D' := D) fun y hy => .inl hy).untold (x := i) (n := n2) (b := b) (R := R2) (W := W) hn2
    refine h1.congr (fun y => ?_) rfl
    exact (setset _ _ _ _ _).symm
   have heE : EnvR ρ N ((putT envN car q).set d (some (.tup [.raw (.bool false)]))) (a1.put o.dst u).tmps := by
    rw [hod, ← hq]; exact he1.put f.hdN hv
   have hf2 : ∀ o ∈ L, Free ρ n2 o.2.2.2.nx := fun o ho y a1 a2 => hf o ho y (Nat.le_trans hn2 a1) a2
   obtain ⟨d1, f1⟩ := mapB_fst (ρ := ρ) (D := D) (st := ⟨h0.set i none, n2, b, R2, W⟩) (s := fun p : Tr SV × St => p.2) (t := fun o : Out => o.2.2.2) hL (fun p lx e => hrn _ _ _ _ _ _ _ e) (fun p lx e o ho => hrm _ _ _ _ _ _ _ e o ho) hD hf2
   refine exL_ok hen hrm hrn hr hsm (ro := rb) hL1 heE hsE d1 f1 ?_
   intro p hp a' w3 ρ3 hd3 he3 hst3
   obtain ⟨lx, e1, e2⟩ := (mapB_mem hL).1 p hp
   have hle3 : ρ.Le ρ3 := hst3.le (f1 p hp)
   have hdef : a'.defers = a1.defers := by rw [hd3, hod]; rfl
   show C.wpIn (fwd rb) 0 P _ a' w3
   refine wpIn_mono (hr ro N C p.1 ds p.2 lx e1 ρ3 _ w3 a' rb he3 (by rw [hdef]; exact hd1.mono hle3) (hro.mono hle3) hst3.sim (fun o ho => (hst3.snd (hD o (e2 o ho)) (hf2 o (e2 o ho))).1) (fun o ho => (hst3.snd (hD o (e2 o ho)) (hf2 o (e2 o ho))).2)) ?_
   rintro e' a4 w4 ⟨o4, ho4, rfl, ρ4, he4, hd4, hst4⟩
   have hin := e2 o4 ho4
   have hbase : Step ρ ρ D ⟨h0, nx, b, R, W⟩ ⟨h0.set i none, n2, b, R2, W⟩ w w2 := by
    refine ⟨hfr2.os, hfr2.tape, hfr2.output, hfr2.size, hn2, rfl, fun y hy => hR2 y (by rw [insK_eq]; exact ins_sub _ _ _ _ hy), fun y hy => hy, fun _ _ => rfl, ?_, ?_, ?_, ?_, ?_⟩
    ·intro bb hb
     by_cases e : bb = Bi
     ·refine .inr ⟨i, si, by rw [e]; exact hρi, hDi, ?_, .inr hbi⟩
      show h0.get i ≠ none
      rw [f.hi]; simp
     ·exact .inl (hfr2.keep bb hb e)
    ·intro y _ hy
     show (h0.set i none).get y = none
     rw [Tr.get_set]
     by_cases e : y = i
     ·rw [if_pos e]
     ·rw [if_neg e]; exact hy
    ·intro y _
     by_cases e : y = i
     ·exact .inl (.inr (by rw [e]; exact hbi))
     ·refine .inr ?_
      show (h0.set i none).get y = h0.get y
      rw [Tr.get_set, if_neg e]
    ·intro y bb s hy hg _
     exfalso
     have hg : (h0.set i none).get y ≠ none := hg
     rw [Tr.get_set] at hg
     by_cases e : y = i
     ·rw [if_pos e] at hg; exact hg rfl
     ·rw [if_neg e] at hg
      have := hs.lt y hg
      exact absurd this (by show ¬ y < nx; have : nx ≤ y := hy; omega)
    ·show Sim ρ (fun y => D y ∨ nx ≤ y) _ w2
     rw [hDD]; exact hsE
   have hrest : Step ρ ρ4 (fun y => D y ∨ nx ≤ y) ⟨h0.set i none, n2, b, R2, W⟩ o4.2.2.2 w2 w4 := by
    rw [hDD]; exact hst3.trans hst4
   have hfin : ∃ o ∈ L, PostC ρ D N ⟨h0, nx, b, R, W⟩ w o (exOf o4.1) a4 w4 := ⟨o4, hin, rfl, ρ4, he4, hd4, hbase.trans hrest⟩
   have hnn := hne o4 hin
   obtain ⟨ex, env4, ds4, st4⟩ := o4
   cases ex with
   | nrm => exact absurd rfl hnn
   | ext id => exact hfin
   | gto l => exact hfin
   | ret => exact hfin
 refine key _ [] a w rfl (fun k hk => by cases hk) List.nodup_nil ?_ hds ?_ (Frm.refl w Bi)
 ·
  show EnvR ρ N (putT envN car q0) a.tmps
  refine ⟨he.1, fun t => ?_⟩
  have h5 := he.2 t
  by_cases htc : t ∈ car
  ·rw [getT_put envN env car q0 f.hq0 t htc]; exact h5
  ·rw [putT_out _ _ _ _ htc]
   by_cases htA : t ∈ A
   ·have hnone := ((carL_ok env A [] car f.hcar).1 t htA).resolve_right htc
    rw [henvN, anyT_get, if_pos ⟨hnone, htA⟩, Option.getD_some, Rel]
    exact True.intro
   ·rw [hgN t htA]; exact h5
 ·refine hs.congr (fun y => ?_) rfl
  show (h0.set i _).get y = h0.get y
  rw [Tr.get_set]
  by_cases e : y = i
  ·rw [if_pos e, e, f.hi]; rfl
  ·rw [if_neg e]
end
end
end Go.TX
namespace Go.TX
open Go Go.TH
noncomputable section
variable {P : Program} {sm : Sums} {rec : Rec} {N : Nat}
theorem mlS_some {ro : Option Nat} {c : Code} {env : Tr SV} {ds : List Nat} {st : St} {L : List Out} (h : mlS P sm rec ro N c env ds st = some L) : ∃ (id : Nat) (o : Oper) (os : List Oper) (C : Code) (x d : Nat) (A : List Nat), c = .loop (.seq (.region id (o :: os).toArray false) C) ∧ o.op = .next (.tmp x) false ∧ o.guard = none ∧ o.dst = some d ∧ mlGo P sm rec ro N (o :: os) os C x d A env ds st = some L := by
 unfold mlS at h
 split at h
 case h_2 => cases h
 rename_i b
 split at h
 case h_2 => cases h
 rename_i a C
 split at h
 case h_2 => cases h
 rename_i id ops draw
 split at h
 case h_2 => cases h
 split at h
 case h_2 => cases h
 rename_i o os hops
 split at h
 case h_2 => cases h
 rename_i xx s hop
 split at h
 case h_2 => cases h
 split at h
 case h_2 => cases h
 rename_i x
 split at h
 case h_2 => cases h
 rename_i hg
 split at h
 case h_2 => cases h
 rename_i d hd
 obtain ⟨l⟩ := ops
 have e : l = o :: os := hops
 subst e
 exact ⟨id, o, os, C, x, d, _, rfl, hop, hg, hd, h⟩
theorem mlS_MlF {ro : Option Nat} {c : Code} {env : Tr SV} {ds : List Nat} {st : St} {L : List Out} (h : mlS P sm rec ro N c env ds st = some L) : ∃ (id : Nat) (o : Oper) (os : List Oper) (C : Code) (x d : Nat) (A : List Nat) (i m since clk : Nat) (es : List SEnt) (car : List Nat) (q0 q : CV) (T : List (CV × List CV)) (R2 : List Nat) (n2 : Nat), c = .loop (.seq (.region id (o :: os).toArray false) C) ∧ o.op = .next (.tmp x) false ∧ o.guard = none ∧ o.dst = some d ∧ MlF P sm rec ro N (o :: os) os C x d A env ds st.h st.nx st.base st.R st.W L i m since clk es car q0 q T R2 n2 := by
 obtain ⟨id, o, os, C, x, d, A, h1, h2, h3, h4, h5⟩ := mlS_some h
 obtain ⟨h0, nx, b, R, W⟩ := st
 obtain ⟨i, m, since, clk, es, car, q0, q, T, R2, n2, f⟩ := mlGo_some h5
 exact ⟨id, o, os, C, x, d, A, i, m, since, clk, es, car, q0, q, T, R2, n2, h1, h2, h3, h4, f⟩
theorem mlS_mono (hr : RecMono rec) (hsm : SumMono sm) {ro : Option Nat} {c : Code} {env : Tr SV} {ds : List Nat} {st : St} {L : List Out} (h : mlS P sm rec ro N c env ds st = some L) : ∀ o ∈ L, Mono st o.2.2.2 := by
 obtain ⟨id, o, os, C, x, d, A, i, m, since, clk, es, car, q0, q, T, R2, n2, h1, h2, h3, h4, f⟩ := mlS_MlF h
 exact f.mono0 hr hsm
theorem mlS_ne (hr : RecNE rec) {ro : Option Nat} {c : Code} {env : Tr SV} {ds : List Nat} {st : St} {L : List Out} (h : mlS P sm rec ro N c env ds st = some L) : L ≠ [] := by
 obtain ⟨id, o, os, C, x, d, A, i, m, since, clk, es, car, q0, q, T, R2, n2, h1, h2, h3, h4, f⟩ := mlS_MlF h
 exact f.ne hr
theorem stepM_some {ro : Option Nat} {c : Code} {env : Tr SV} {ds : List Nat} {st : St} {L : List Out} (h : stepM P sm rec ro N c env ds st = some L) : mlS P sm rec ro N c env ds st = some L ∨ stepC P sm rec ro N c env ds st = some L := by
 unfold stepM at h
 split at h
 ·rename_i L' hL
  simp only [Option.some.injEq] at h
  rw [h] at hL
  exact .inl hL
 ·exact .inr h
theorem stepM_mono (hr : RecMono rec) (hsm : SumMono sm) : RecMono (stepM P sm rec) := by
 intro ro N c env ds st L h
 rcases stepM_some h with h | h
 ·exact mlS_mono hr hsm h
 ·exact stepC_mono hr hsm _ _ _ _ _ _ _ h
theorem stepM_ne (hr : RecNE rec) : RecNE (stepM P sm rec) := by
 intro ro N c env ds st L h
 rcases stepM_some h with h | h
 ·exact mlS_ne hr h
 ·exact stepC_ne hr _ _ _ _ _ _ _ h
theorem stepM_ok (hm : P.follows .mixedOrders = true) (hen : Enters P) (hrm : RecMono rec) (hrn : RecNE rec) (hr : CodeOK P rec) (hl : LoopOK P rec) (hsm : SumOK P sm) : CodeOK P (stepM P sm rec) ∧ LoopOK P (stepM P sm rec) := by
 have hs := stepC_ok hm hen hrm hrn hr hl hsm
 have hloop : ∀ {ro : Option Nat} {N : Nat} {c : Code} {env : Tr SV} {ds : List Nat} {st : St} {L : List Out}, mlS P sm rec ro N (.loop c) env ds st = some L → ∀ (ρ : Ren) (D : Nat → Prop) (w : World) (a : Act) (rb : Option Nat), EnvR ρ N env a.tmps → DsR ρ ds a.defers → RoR ρ ro rb → Sim ρ D st w → (∀ o ∈ L, ∀ x, x ∈ o.2.2.2.R ∨ st.base ≤ x → D x) → (∀ o ∈ L, Free ρ st.nx o.2.2.2.nx) →
  LoopIn (fwd rb) P c (fun e' a' w' => ∃ o ∈ L, PostC ρ D N st w o e' a' w') a w := by
  intro ro N c env ds st L h ρ D w a rb he hds hro hs hD hf
  obtain ⟨id, o, os, C, x, d, A, i, m, since, clk, es, car, q0, q, T, R2, n2, h1, h2, h3, h4, f⟩ := mlS_MlF h
  cases h1
  obtain ⟨h0, nx, b, R, W⟩ := st
  exact f.ok hen hrm hrn hr hsm h2 h3 h4 he hds hro hs hD hf
 constructor
 ·intro ro N c env ds st L h
  rcases stepM_some h with h | h
  ·obtain ⟨id, o, os, C, x, d, A, h1, _⟩ := mlS_some h
   subst h1
   intro ρ D w a rb he hds hro hs hD hf
   exact LoopIn.wp (hloop h ρ D w a rb he hds hro hs hD hf)
  ·exact hs.1 _ _ _ _ _ _ _ h
 ·intro ro N c env ds st L h
  rcases stepM_some h with h | h
  ·exact hloop h
  ·exact hs.2 _ _ _ _ _ _ _ h
end
end Go.TX
namespace Go.TX
open Go Go.TH
noncomputable section
variable {P : Program} {sm : Sums} {rec : Rec} {N : Nat} {st st' : St}
def lmPat (_ : Array Oper) : Bool := false
def exD2 (_ : Program) (_ : Sums) (_ : Rec) (_ : Nat) (_ : Array Oper) (_ : Tr SV) (_ : St) : Option (Tr SV × St) := none
theorem exD2_no {P : Program} {sm : Sums} {rec : Rec} {N : Nat} {ops : Array Oper} {env : Tr SV} {st : St} {p : Tr SV × St} {Q : Prop} (h : exD2 P sm rec N ops env st = some p) : Q := by cases (show (none : Option (Tr SV × St)) = some p from h)
def lmS (P : Program) (sm : Sums) (rec : Rec) (N : Nat) (ops : Array Oper) (env : Tr SV) (ds : List Nat) (st : St) : Option (List Out) := match exD2 P sm rec N ops env st with
  | some p => nrmS ds p
  | none => none
def stepN (P : Program) (sm : Sums) (rec : Rec) : Rec := fun ro N c env ds st => match c with
  | .region id ops draw => match draw && lmPat ops with
    | true => lmS P sm rec N ops env ds st
    | false => stepM P sm rec ro N (.region id ops draw) env ds st
  | c => stepM P sm rec ro N c env ds st
def exN (P : Program) (sm : Sums) (n : Nat) : Rec := Nat.rec (motive := fun _ => Rec) (fun _ _ _ _ _ _ => none) (fun _ ih => stepN P sm ih) n
theorem stepN_some {ro : Option Nat} {c : Code} {env : Tr SV} {ds : List Nat} {L : List Out} (h : stepN P sm rec ro N c env ds st = some L) : (∃ id ops p, c = .region id ops true ∧ exD2 P sm rec N ops env st = some p ∧ L = [(.nrm, p.1, ds, p.2)]) ∨ stepM P sm rec ro N c env ds st = some L := by
  unfold stepN at h
  split at h
  · rename_i id ops draw
    split at h
    · rename_i hd
      rw [Bool.and_eq_true] at hd
      unfold lmS at h
      split at h
      case h_2 => cases h
      rename_i p hp
      simp only [nrmS, Option.some.injEq] at h
      exact .inl ⟨id, ops, p, by rw [hd.1], hp, h.symm⟩
    · exact .inr h
  · exact .inr h
theorem stepN_mono (hr : RecMono rec) (hsm : SumMono sm) : RecMono (stepN P sm rec) := by
  intro ro N c env ds st L h
  rcases stepN_some h with ⟨id, ops, p, rfl, hp, rfl⟩ | h
  · exact exD2_no hp
  · exact stepM_mono hr hsm _ _ _ _ _ _ _ h
theorem stepN_ne (hr : RecNE rec) : RecNE (stepN P sm rec) := by
  intro ro N c env ds st L h
  rcases stepN_some h with ⟨id, ops, p, rfl, hp, rfl⟩ | h
  · simp
  · exact stepM_ne hr _ _ _ _ _ _ _ h
theorem exN_mono (hsm : SumMono sm) : ∀ n, RecMono (exN P sm n)
  | 0 => fun ro N c env ds st L h => by (cases h)
  | n + 1 => stepN_mono (exN_mono hsm n) hsm
theorem exN_ne : ∀ n, RecNE (exN P sm n)
  | 0 => fun ro N c env ds st L h => by (cases h)
  | n + 1 => stepN_ne (exN_ne n)
theorem stepN_ok (hm : P.follows .mixedOrders = true) (hen : Enters P) (hrm : RecMono rec) (hrn : RecNE rec) (hr : CodeOK P rec) (hl : LoopOK P rec) (hsm : SumOK P sm) : CodeOK P (stepN P sm rec) ∧ LoopOK P (stepN P sm rec) := by
  have hs := stepM_ok hm hen hrm hrn hr hl hsm
  constructor
  · intro ro N c env ds st L h
    rcases stepN_some h with ⟨id, ops, p, rfl, hp, rfl⟩ | h
    · exact exD2_no hp
    · exact hs.1 _ _ _ _ _ _ _ h
  · intro ro N c env ds st L h
    rcases stepN_some h with ⟨id, ops, p, h1, _⟩ | h
    · cases h1
    · exact hs.2 _ _ _ _ _ _ _ h
theorem exN_ok (hm : P.follows .mixedOrders = true) (hen : Enters P) (hsm : SumOK P sm) : ∀ n, CodeOK P (exN P sm n) ∧ LoopOK P (exN P sm n)
  | 0 => ⟨fun ro N c env ds st L h => by (cases h), fun ro N c env ds st L h => by (cases h)⟩
  | n + 1 => stepN_ok hm hen (exN_mono hsm.1 n) (exN_ne n) (exN_ok hm hen hsm n).1 (exN_ok hm hen hsm n).2 hsm
/-- a function without arguments that answers yes -/
def yesN (P : Program) (sm : Sums) (n : Nat) (f : FuncId) : Bool := match exF P sm (exN P sm n) f [] st0 with
  | some L => allT L
  | _ => false
theorem yesN_ok (hm : P.follows .mixedOrders = true) (hen : Enters P) (hsm : SumOK P sm) {n : Nat} {f : FuncId} (h : yesN P sm n f = true) (w : World) : CallsIn Fence.wide 0 P f #[] w (fun e w' => e = .returned (.bool true) ∧ Kept w w') := by
  unfold yesN at h
  split at h
  case h_2 => cases h
  rename_i L hx
  have hn : ∀ x, st0.h.get x = none := fun x => Tr.get_lf x
  have hs : Sim (fun _ => none) (fun _ => True) st0 w := ⟨fun x o _ g => (by rw [hn x] at g; cases g), fun x y b s s' _ _ g => absurd (hn x) g, fun x g => absurd (hn x) g⟩
  have := (exF_ok (exN_mono hsm.1 n) (exN_ne n) (exN_ok hm hen hsm n).1 hsm hx).1 (fun _ => none) (fun _ => True) w [] RelL.nil hs (fun _ _ _ _ => trivial) (fun _ _ _ _ _ => rfl)
  refine CallsIn.mono this ?_
  rintro e w' ⟨p, hp, u, ρ', rfl, h1, h2⟩
  rw [allT_ok h p hp, Rel] at h1
  refine ⟨by rw [h1], h2.os, h2.tape, h2.output, h2.size, fun b hb => ?_⟩
  rcases h2.keep b hb with q | ⟨x, s, q, _⟩
  · exact q
  · cases q
end
end Go.TX
