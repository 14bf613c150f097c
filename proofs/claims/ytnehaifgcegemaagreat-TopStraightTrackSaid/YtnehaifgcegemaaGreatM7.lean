/-
  What is defined here: an evaluator for functions, out of what it reckons for each operation. Conditions: none.
  What is proved here: what an evaluator reckons for an operation that calls nothing is what the operation does. Conditions: none; each lemma states its own.
  What is proved here: what an evaluator checks of a region that draws its order, and the order in which it reckons. Conditions: none; each lemma states its own.
  What is proved here: steps of a region that draws its order. Conditions: none; each lemma states its own.
  What is proved here: a region that draws its order does what an evaluator reckons in the text's order. Conditions: none; each lemma states its own.
  What is proved here: a region that draws its order does what an evaluator reckons in the text's order. Conditions: none; each lemma states its own.
  What is proved here: behind an operation an evaluator has touched no less, and named no less. Conditions: none; each lemma states its own.
  What is proved here: behind a code an evaluator has touched no less, and named no less. Conditions: none; each lemma states its own.
-/
import Derived.Test.YtnehaifgcegemaaGreatM6
set_option linter.unusedVariables false
set_option linter.unusedSimpArgs false
namespace Go.TX
open Go Go.TH
noncomputable section
def ncS (x : SV) : Option SV := match x with
 | .ptr b o => some (.ptr b o)
 | .fn f l m => some (.fn f l m)
 | .yield b => some (.yield b)
 | .raw (.func f l m) => match f with
  | .func _ => some (.raw (.func f l m))
  | _ => none
 | _ => none
def pkS (c x y : SV) : Option SV := match c with
 | .raw (.bool true) => some x
 | .raw (.bool false) => some y
 | _ => none
def withS (v : Option SV) (st : St) : Option (SV × St) := match v with
 | some v => some (v, st)
 | none => none
def mxS (P : Program) (mx : Bool) (ats : List TypeId) (ty : TypeId) (xs : List SV) : Option SV := match raws xs with
 | some vs => match pv P (match mx with | true => Builtin.max_ ats.toArray ty vs.toArray | false => Builtin.min_ ats.toArray ty vs.toArray) with
  | some v => valV v
  | none => none
 | none => none
def biS (P : Program) (b : Builtin) (ats : List TypeId) (ty : TypeId) (xs : List SV) (st : St) : Option (SV × St) := match b with
 | .len => match ats with
  | [T] => match xs with
   | [x] => lnS P T x st
   | _ => none
  | _ => none
 | .append => match ats with
  | [T, T'] => match xs with
   | [x, y] => apS P T T' x y st
   | _ => none
  | _ => none
 | .copy => match ats with
  | T :: _ => match xs with
   | [x, y] => cpS P T x y st
   | _ => none
  | _ => none
 | .max => withS (mxS P true ats ty xs) st
 | .min => withS (mxS P false ats ty xs) st
 | .delete => match ats with
  | T :: _ => match xs with
   | [x, i] => deS P T x i st
   | _ => none
  | _ => none
 | .clear => match ats with
  | T :: _ => match xs with
   | [x] => clS P T x st
   | _ => none
  | _ => none
 | _ => none
def opS (P : Program) (env : Tr SV) (op : Op) (st : St) : Option (SV × St) := match op with
 | .move x => some (svOp env x, st)
 | .assign x => some (svOp env x, st)
 | .pick c x y => withS (pkS (svOp env c) (svOp env x) (svOp env y)) st
 | .alloc T => alS P T st
 | .box T x => bxS T (svOp env x) st
 | .build T parts => withS (bdS P T (svParts env parts.toList)) st
 | .buildSlice T len parts => bsS P T len (svParts env parts.toList) st
 | .load T x => ldS P T (svOp env x) st
 | .store T x v => stS P T (svOp env x) (svOp env v) st
 | .nilCheck x => withS (ncS (svOp env x)) st
 | .binOp op T x y _ => withS (boS P op T x y (svOp env x) (svOp env y)) st
 | .unOp op _ x => withS (unS P op (svOp env x)) st
 | .convert T T' x => withS (cvS P T T' (svOp env x)) st
 | .makeFunc f first cap => match f with
  | .func f => some (.fn f (svOps env first.toList) (svOps env cap.toList), st)
  | _ => none
 | .makeMap _ r => match r with
  | none => mmS none st
  | some _ => none
 | .makeSlice T l c => mkS P T (svOp env l) (svOp env c) st
 | .slice T x lo hi mx => slS P T (svOp env x) (lo.map (svOp env)) (hi.map (svOp env)) (mx.map (svOp env)) st
 | .fieldAddr T x f => withS (faS P T f (svOp env x)) st
 | .field T x f => withS (fdS P T f (svOp env x)) st
 | .indexAddr T x i => withS (iaS P T (svOp env x) (svOp env i)) st
 | .index T x i => withS (ixS P T (svOp env x) (svOp env i)) st
 | .lookup T x i ok => lkS P T (svOp env x) (svOp env i) ok st
 | .mapUpdate T x i v => muS P T (svOp env x) (svOp env i) (svOp env v) st
 | .insert T x i v => muS P T (svOp env x) (svOp env i) (svOp env v) st
 | .mapEntry T x i => meS P T (svOp env x) (svOp env i) st
 | .entryStore _ x i v => esS (svOp env x) (svOp env i) (svOp env v) st
 | .extract x i => withS (exS (svOp env x) i) st
 | .range T x => rgS P T (svOp env x) st
 | .entry x => enS (svOp env x) st
 | _ => none
def eqL {α : Type} (f : α → α → Bool) : List α → List α → Bool
 | [], [] => true
 | x :: l, y :: r => bif f x y then eqL f l r else false
 | _, _ => false
def eqC : Cap → Cap → Bool
 | .kn n, .kn m => Nat.beq n m
 | .rest n, .rest m => Nat.beq n m
 | _, _ => false
def eqW : Value → Value → Bool
 | .pointer none, .pointer none => true
 | .slice none n k, .slice none n' k' => Nat.beq n n' && Nat.beq k k'
 | .map none, .map none => true
 | .nilFunc, .nilFunc => true
 | .nilIface, .nilIface => true
 | .tuple ⟨[]⟩, .tuple ⟨[]⟩ => true
 | v, u => veq v u
mutual
def eqV : SV → SV → Bool
 | .raw v, .raw u => eqW v u
 | .ptr b o, .ptr b' o' => Nat.beq b b' && Nat.beq o o'
 | .sl b o n c, .sl b' o' n' c' => Nat.beq b b' && Nat.beq o o' && Nat.beq n n' && eqC c c'
 | .sl0, .sl0 => true
 | .map b, .map b' => Nat.beq b b'
 | .fn f l m, .fn f' l' m' => Nat.beq f f' && eqVs l l' && eqVs m m'
 | .yield b, .yield b' => Nat.beq b b'
 | .agg l, .agg l' => eqVs l l'
 | .tup l, .tup l' => eqVs l l'
 | _, _ => false
def eqVs : List SV → List SV → Bool
 | [], [] => true
 | x :: l, y :: r => bif eqV x y then eqVs l r else false
 | _, _ => false
end
def eqE (x y : SEnt) : Bool := eqV x.key y.key && eqV x.val y.val && Nat.beq x.born y.born
def eqB : Bool → Bool → Bool
 | true, true => true
 | false, false => true
 | _, _ => false
def eqO : SO → SO → Bool
 | .cells l e op, .cells l' e' op' => eqVs l l' && Nat.beq e e' && eqB op op'
 | .map es c, .map es' c' => eqL eqE es es' && Nat.beq c c'
 | .dfr a, .dfr b => eqB a b
 | .iter (some m) s l t, .iter (some m') s' l' t' => Nat.beq m m' && Nat.beq s s' && eqL Nat.beq l l' && Nat.beq t t'
 | .iter none s l t, .iter none s' l' t' => Nat.beq s s' && eqL Nat.beq l l' && Nat.beq t t'
 | _, _ => false
def eqS : LoopState → LoopState → Bool
 | .ready, .ready => true
 | .busy, .busy => true
 | .done, .done => true
 | .exhausted, .exhausted => true
 | _, _ => false
def eqJ : Option Code → Option Code → Bool
 | none, none => true
 | some (.exit a), some (.exit b) => Nat.beq a b
 | some (.goto a), some (.goto b) => Nat.beq a b
 | some .ret, some .ret => true
 | _, _ => false
def eqLp : SO → SO → Bool
 | .loop r, .loop r' => eqS r.state r'.state && eqJ r.pending r'.pending
 | _, _ => false
def meetK {β : Type} (n0 : Nat) (h1 h2 : Tr SO) : Nat → Tr SO → (Tr SO → Option β) → Option β
 | 0, h, k => k h
 | n + 1, h, k => match h1.get n with
  | some o1 => match h2.get n with
   | some o2 => bif eqO o1 o2 || (Nat.blt n n0 && eqLp o1 o2) then h.setK n (some o1) fun h' => meetK n0 h1 h2 n h' k else (bif Nat.ble n0 n then meetK n0 h1 h2 n h k else none)
   | none => bif Nat.ble n0 n then meetK n0 h1 h2 n h k else none
  | none => match h2.get n with
   | some _ => bif Nat.ble n0 n then meetK n0 h1 h2 n h k else none
   | none => meetK n0 h1 h2 n h k
def join2 (n0 : Nat) (p q : SV × St) : Option (SV × St) := match p with
 |(v, ⟨h, nx, b, R, W⟩) => match q with
  |(v', ⟨h', nx', b', R', W'⟩) => bif eqV v v' then (bif Nat.beq nx nx' then (bif Nat.beq b b' then meetK n0 h h' nx .lf fun h2 => appK R R' fun R2 => appK W W' fun W2 => some (v, ⟨h2, nx, b, R2, W2⟩) else none) else none) else none
def joinA (n0 : Nat) : SV × St → List (SV × St) → Option (SV × St)
 | p, [] => some p
 | p, q :: r => match join2 n0 p q with
  | some p' => joinA n0 p' r
  | none => none
def joinL (n0 : Nat) : List (SV × St) → List (SV × St)
 | [] => []
 | p :: l => match l with
  | [] => [p]
  | q :: r => match joinA n0 p (q :: r) with
   | some p' => [p']
   | none => p :: q :: r
inductive Ex where
 | nrm
 | ext (id : Nat)
 | gto (l : Nat)
 | ret
abbrev Out := Ex × Tr SV × List Nat × St
abbrev Rec := Option Nat → Nat → Code → Tr SV → List Nat → St → Option (List Out)
abbrev Sums := FuncId → Option (List SV → St → Option (SV × St))
def mapB {α β : Type} (f : α → Option (List β)) : List α → Option (List β)
 | [] => some []
 | x :: r => match f x with
  | some l => match r with
   | [] => some l
   | y :: r' => match mapB f (y :: r') with
    | some l' => some (l ++ l')
    | none => none
  | none => none
def oneL {α : Type} (r : Option α) : Option (List α) := match r with
 | some p => some [p]
 | none => none
section
variable (P : Program) (sm : Sums) (rec : Rec)
def envK {β : Type} : List SV → Nat → Tr SV → (Tr SV → Option β) → Option β
 | [], _, env, k => k env
 | x :: r, i, env, k => env.setK i (some x) fun env' => envK r (Nat.succ i) env' k
def shutK {β : Type} : List Nat → St → (St → Option β) → Option β
 | [], st, k => k st
 | d :: r, st, k => match st.h.get d with
  | some (.dfr false) => wtK st d (.dfr true) fun st' => shutK r st' k
  | _ => none
def rvK (env : Tr SV) (r : ResultVar) (st : St) : Option (SV × St) := match r with
 | .tmp t => some (svOp env (.tmp t), st)
 | .cell a T => ldS P T (svOp env (.tmp a)) st
def resK (env : Tr SV) : List ResultVar → St → (List SV → St → Option (SV × St)) → Option (SV × St)
 | [], st, k => k [] st
 | r :: rs, st, k => match rvK P env r st with
  | some (v, st') => resK env rs st' fun vs st2 => k (v :: vs) st2
  | none => none
def oneOf (vs : List SV) : SV := match vs with
 | [v] => v
 | vs => .tup vs
def finS (fn : Func) (o : Out) : Option (SV × St) := match o with
 |(e, env, ds, st) => match e with
  | .nrm => shutK ds st fun st2 => resK P env fn.results.toList st2 fun vs st3 => some (oneOf vs, st3)
  | .ret => shutK ds st fun st2 => resK P env fn.results.toList st2 fun vs st3 => some (oneOf vs, st3)
  | _ => none
def exF (f : FuncId) (args : List SV) (st : St) : Option (List (SV × St)) := match sm f with
 | some s => oneL (s args st)
 | none => match P.funcs[f]? with
  | some fn => match fn.body with
   | some c => bif Nat.ble (llen args) fn.ntmps then envK args 0 .lf fun env => match rec none fn.ntmps c env [] st with
    | some L => match mapB (fun o => oneL (finS P fn o)) L with
     | some R => some (joinL st.nx R)
     | none => none
    | none => none
    else none
   | none => none
  | none => none
def jmpOf : Ex → Option Code
 | .nrm => none
 | .ext id => some (.exit id)
 | .gto l => some (.goto l)
 | .ret => some .ret
def putsK {β : Type} : List Tmp → List SV → Nat → Tr SV → (Tr SV → Option β) → Option β
 | [], [], _, env, k => k env
 | t :: ts, x :: xs, N, env, k => bif Nat.blt t N then env.setK t (some x) fun env' => putsK ts xs N env' k else none
 | _, _, _, _, _ => none
def yEnd (l : Nat) (o : Out) : Option (SV × St) := match o with
 |(e3, _, _, st3) => match st3.h.get l with
  | some (.loop r3) => match jmpOf e3 with
   | none => wtK st3 l (.loop { r3 with state := .ready, pending := none }) fun st4 => some (.raw (.bool true), st4)
   | some c => wtK st3 l (.loop { r3 with state := .done, pending := some c }) fun st4 => some (.raw (.bool false), st4)
  | _ => none
def exYb (l : Nat) (r : SLoop) (env : Tr SV) (st : St) : Option (List (SV × St)) := match rec (some l) r.N r.assign env [] st with
 | some [(e, env1, ds1, st1)] => match e with
  | .nrm => match st1.h.get l with
   | some (.loop r1) => match r1.state with
    | .ready => wtK st1 l (.loop { r1 with state := .busy }) fun st2 => match rec (some l) r.N r.body env1 ds1 st2 with
     | some L => mapB (fun o => oneL (yEnd l o)) L
     | none => none
    | _ => none
   | _ => none
  | _ => none
 | _ => none
def exY (l : Nat) (args : List SV) (st : St) : Option (List (SV × St)) := match st.h.get l with
 | some (.loop r) => putsK r.params.toList args r.N r.tmps fun env => exYb rec l r env st
 | _ => none
def appS : List SV → List SV → List SV
 | [], r => r
 | x :: l, r => x :: appS l r
def exO (env : Tr SV) (o : Oper) (st : St) : Option (List (SV × St)) := match o.op with
 | .call c => match c.callee with
  | .builtin b => oneL (biS P b c.argTypes.toList o.type (svOps env c.args.toList) st)
  | .value x => match svOp env x with
   | .fn f first cap => exF P sm rec f (appS first (appS (svOps env c.args.toList) cap)) st
   | .yield l => exY rec l (svOps env c.args.toList) st
   | _ => none
  | _ => none
 | .next x s => match s with
  | false => nxS (svOp env x) st
  | true => none
 | op => oneL (opS P env op st)
def putK {β : Type} (N : Nat) (env : Tr SV) (d : Option Tmp) (v : SV) (k : Tr SV → Option β) : Option β := match d with
 | none => k env
 | some d => bif Nat.blt d N then env.setK d (some v) k else none
def beqB : Bool → Bool → Bool
 | true, true => true
 | false, false => true
 | _, _ => false
def wantS (ops : List Oper) (env : Tr SV) (o : Oper) : Option Bool := match o.guard with
 | none => some true
 | some (j, want) => match nth ops j with
  | some oj => match oj.dst with
   | some d => match env.get d with
    | some (.raw v) => match v with
     | .bool b => some (beqB b want)
     | _ => some false
    | some (.tup _) => some false
    | _ => none
   | none => none
  | none => none
def exL (N : Nat) (ops : List Oper) : List Oper → Tr SV → St → Option (List (Tr SV × St))
 | [], env, st => some [(env, st)]
 | o :: r, env, st => match wantS ops env o with
  | some true => match exO P sm rec env o st with
   | some L => mapB (fun p => putK N env o.dst p.1 fun env' => exL N ops r env' p.2) L
   | none => none
  | some false => putK N env o.dst (.raw undef) fun env' => exL N ops r env' st
  | none => none
structure Tc where
 R : List Nat
 W : List Nat
 a : Nat
 b : Nat
 /-- nothing is written or made -/
 q : Bool
def quietB : List Nat → Nat → Nat → Bool
 | [], a, b => Nat.beq a b
 | _ :: _, _, _ => false
def mrgK {β : Type} (h' : Tr SO) : List Nat → Tr SO → (Tr SO → Option β) → Option β
 | [], h, k => k h
 | x :: r, h, k => match h'.get x with
  | some o => h.setK x (some o) fun h2 => mrgK h' r h2 k
  | none => h.setK x none fun h2 => mrgK h' r h2 k
def rngK {β : Type} (h' : Tr SO) : Nat → Nat → Tr SO → (Tr SO → Option β) → Option β
 | 0, _, h, k => k h
 | n + 1, x, h, k => match h'.get x with
  | some o => h.setK x (some o) fun h2 => natK (Nat.succ x) fun x' => rngK h' n x' h2 k
  | none => h.setK x none fun h2 => natK (Nat.succ x) fun x' => rngK h' n x' h2 k
def okW (nx : Nat) (R : List Nat) : List Nat → Bool
 | [] => true
 | x :: r => bif Nat.blt x nx then (bif memb x R then okW nx R r else false) else false
def endK {β : Type} (h : Tr SO) (nx : Nat) (st' : St) (k : Tr SO → Nat → Tc → Option β) : Option β := match st' with
 | ⟨h', nx', _, R, W⟩ => bif quietB W nx nx' then k h nx ⟨R, [], nx, nx, true⟩ else
  (bif Nat.ble nx nx' then (bif okW nx R W then mrgK h' W h fun h1 => rngK h' (nx' - nx) nx h1 fun h2 => k h2 nx' ⟨R, W, nx, nx', false⟩ else none) else none)
def exR (N : Nat) (ops : List Oper) : List Oper → Tr SV → Tr SO → Nat → List Tc → Option (Tr SV × Tr SO × Nat × List Tc)
 | [], env, h, nx, acc => some (env, h, nx, acc)
 | o :: r, env, h, nx, acc => match wantS ops env o with
  | some true => match exO P sm rec env o ⟨h, nx, nx, [], []⟩ with
   | some [(v, st')] => endK h nx st' fun h2 nx2 t => putK N env o.dst v fun env' => exR N ops r env' h2 nx2 (t :: acc)
   | _ => none
  | some false => putK N env o.dst (.raw undef) fun env' => exR N ops r env' h nx (⟨[], [], nx, nx, true⟩ :: acc)
  | none => none
def disj : List Nat → List Nat → Bool
 | [], _ => true
 | x :: r, l => bif memb x l then false else disj r l
def outR (a b : Nat) : List Nat → Bool
 | [] => true
 | x :: r => bif Nat.ble a x && Nat.blt x b then false else outR a b r
def sepF (t u : Tc) : Bool := disj t.W u.R && disj t.W u.W && disj t.R u.W && outR t.a t.b u.R
def sepT (t u : Tc) : Bool := match t.q with
 | true => match u.q with
  | true => true
  | false => sepF t u
 | false => sepF t u
def allQ : List Tc → Bool
 | [] => true
 | t :: r => match t.q with
  | true => allQ r
  | false => false
def bitB (m i : Nat) : Bool := Nat.beq (Nat.land (Nat.shiftRight m i) 1) 1
def cloB : List (List Nat) → List Nat → List Nat
 | [], acc => acc
 | af :: r, acc => cloB r (natK (go acc (llen acc) af 0) fun m => m :: acc)
where
 /-- the bits of those that it names, and of theirs -/
 go (acc : List Nat) (n : Nat) : List Nat → Nat → Nat
  | [], m => m
  | j :: js, m => match nth acc (n - 1 - j) with
   | some mj => go acc n js (Nat.lor m (Nat.lor mj (Nat.shiftLeft 1 j)))
   | none => go acc n js m
def sepAll : List Tc → List Nat → Bool
 | [], _ => true
 | u :: r, m :: ms => sepU u m r (llen r) && sepAll r ms
 | _ :: _, [] => false
where
 sepU (u : Tc) (m : Nat) : List Tc → Nat → Bool
  | [], _ => true
  | t :: r, n => bif sepT t u then sepU u m r (n - 1) else (bif bitB m (n - 1) then sepU u m r (n - 1) else false)
def afsL (o : Oper) : List Nat := go o.after.toList
where
 go : List Edge → List Nat
  | [] => []
  | e :: r => match e.ground with
   | .textOnly _ => go r
   | .gcOnly _ => go r
   | _ => e.on :: go r
def afsAll : List Oper → List (List Nat)
 | [] => []
 | o :: r => afsL o :: afsAll r
def cloO (ops : List Oper) : List Nat := cloB (afsAll ops) []
def apAll (ops : Array Oper) : List Oper → List Nat → Bool
 | [], _ => true
 | u :: r, m :: ms => apU u m r (llen r) && apAll ops r ms
 | _ :: _, [] => false
where
 apU (u : Oper) (m : Nat) : List Oper → Nat → Bool
  | [], _ => true
  | t :: r, n => bif bitB m (n - 1) then apU u m r (n - 1) else (bif t.apart ops u then apU u m r (n - 1) else false)
def ltAll : List Nat → Nat → Bool
 | [], _ => true
 | j :: r, i => bif Nat.blt j i then ltAll r i else false
def backAll : List (List Nat) → Nat → Bool
 | [], _ => true
 | a :: r, i => bif ltAll a i then backAll r (Nat.succ i) else false
def revK {α : Type} : List α → List α → List α
 | [], acc => acc
 | x :: r, acc => revK r (x :: acc)
def statD (ops : Array Oper) : Bool := backAll (afsAll ops.toList) 0 && apAll ops (revK ops.toList []) (cloO ops.toList)
def insAllK {β : Type} (b : Nat) : List Nat → List Nat → (List Nat → β) → β
 | [], R, k => k R
 | x :: r, R, k => insK b x R fun R' => insAllK b r R' k
def tellK {β : Type} (b : Nat) : List Tc → List Nat → List Nat → (List Nat → List Nat → β) → β
 | [], R, W, k => k R W
 | t :: r, R, W, k => insAllK b t.R R fun R' => insAllK b t.W W fun W' => tellK b r R' W' k
def exD (N : Nat) (ops : Array Oper) (env : Tr SV) (st : St) : Option (Tr SV × St) := match st with
 | ⟨h, nx, b, R, W⟩ => bif statD ops then (match exR P sm rec N ops.toList ops.toList env h nx [] with
  | some (env', h', nx', ts) => bif allQ ts || sepAll ts (cloO ops.toList) then tellK b ts R W fun R' W' => some (env', ⟨h', nx', b, R', W'⟩) else none
  | none => none) else none
def rfE (ro : Option Nat) (N : Nat) (env : Tr SV) (ds0 : List Nat) (l : Nat) (st3 : St) : Option (List Out) := match st3.h.get l with
 | some (.loop r) => match r.state with
  | .busy => none
  | _ => wtK st3 l (.loop { r with state := .exhausted }) fun st4 => match r.pending with
   | none => some [(.nrm, env, ds0, st4)]
   | some c => rec ro N c env ds0 st4
 | _ => none
def rfB (ro : Option Nat) (N : Nat) (g : Operand) (env : Tr SV) (ds0 : List Nat) (l : Nat) (st2 : St) : Option (List Out) := match svOp env g with
 | .fn f first cap => match exF P sm rec f (appS first (.yield l :: cap)) st2 with
  | some L => mapB (fun p => rfE rec ro N env ds0 l p.2) L
  | none => none
 | _ => none
def rfS (ro : Option Nat) (N : Nat) (g : Operand) (ps : Array Tmp) (assign body : Code) (env : Tr SV) (ds : List Nat) (st : St) : Option (List Out) := match ro with
 | none => newK st (.dfr false) fun d st1 => newK st1 (.loop ⟨.ready, none, N, env, ps, assign, body, d⟩) fun l st2 => rfB P sm rec none N g env (d :: ds) l st2
 | some l0 => match st.h.get l0 with
  | some (.loop r0) => insK st.base l0 st.R fun R' => newK ⟨st.h, st.nx, st.base, R', st.W⟩ (.loop ⟨.ready, none, N, env, ps, assign, body, r0.defers⟩) fun l st2 => rfB P sm rec (some l0) N g env ds l st2
  | _ => none
def thnS (ro : Option Nat) (N : Nat) (y : Code) (o : Out) : Option (List Out) := match o with
 |(e, env', ds', st') => match e with
  | .nrm => rec ro N y env' ds' st'
  | e => some [(e, env', ds', st')]
def blkS (id : Nat) (o : Out) : Option (List Out) := match o with
 |(e, env', ds', st') => match e with
  | .ext i => bif Nat.beq i id then some [(.nrm, env', ds', st')] else some [(.ext i, env', ds', st')]
  | e => some [(e, env', ds', st')]
def scoS (o : Out) : Option (List Out) := match o with
 |(e, env', ds', st') => match e with
  | .gto _ => none
  | e => some [(e, env', ds', st')]
def nrmS (ds : List Nat) (p : Tr SV × St) : Option (List Out) := some [(.nrm, p.1, ds, p.2)]
def stepC (ro : Option Nat) (N : Nat) (c : Code) (env : Tr SV) (ds : List Nat) (st : St) : Option (List Out) := match c with
 | .skip => some [(.nrm, env, ds, st)]
 | .region _ ops draw => match draw with
  | false => match exL P sm rec N ops.toList ops.toList env st with
   | some L => mapB (nrmS ds) L
   | none => none
  | true => match exD P sm rec N ops env st with
   | some p => nrmS ds p
   | none => none
 | .seq x y => match rec ro N x env ds st with
  | some L => mapB (thnS rec ro N y) L
  | none => none
 | .cond c x y => match svOp env c with
  | .raw (.bool true) => rec ro N x env ds st
  | .raw (.bool false) => rec ro N y env ds st
  | _ => none
 | .block id b => match rec ro N b env ds st with
  | some L => mapB (blkS id) L
  | none => none
 | .loop b => match rec ro N b env ds st with
  | some L => mapB (thnS rec ro N (.loop b)) L
  | none => none
 | .rangeFunc g ps assign body => rfS P sm rec ro N g ps assign body env ds st
 | .exit id => some [(.ext id, env, ds, st)]
 | .scope b => match rec ro N b env ds st with
  | some L => mapB scoS L
  | none => none
 | .label _ => some [(.nrm, env, ds, st)]
 | .goto l => some [(.gto l, env, ds, st)]
 | .ret => some [(.ret, env, ds, st)]
 | _ => none
end
def exC (P : Program) (sm : Sums) (n : Nat) : Rec := Nat.rec (motive := fun _ => Rec) (fun _ _ _ _ _ _ => none) (fun _ ih => stepC P sm ih) n
def st0 : St := ⟨.lf, 0, 0, [], []⟩
def allT : List (SV × St) → Bool
 | [] => true
 | p :: r => match p.1 with
  | .raw (.bool true) => allT r
  | _ => false
def yes (P : Program) (sm : Sums) (n : Nat) (f : FuncId) : Bool := match exF P sm (exC P sm n) f [] st0 with
 | some L => allT L
 | _ => false
end
end Go.TX
namespace Go.TX
open Go Go.TH
noncomputable section
variable {ρ : Ren} {N : Nat} {env : Tr SV} {a : Act} {P : Program} {D : Nat → Prop} {st st' : St} {w : World}
def OpDid (P : Program) (ρ : Ren) (D : Nat → Prop) (st st' : St) (w : World) (v : SV) (s : Sem Next) : Prop :=
 ∃ u w' ρ', (s.run P w = .ok (.value u) w' ∨ (s.run P w = .ok .skip w' ∧ u = undef)) ∧ Rel ρ' v u ∧ Step ρ ρ' D st st' w w'
theorem OpDid.of {v : SV} {s : Sem Value} (h : Did P ρ D st st' w v s) : OpDid P ρ D st st' w v (do pure (.value (← s))) := by
 obtain ⟨u, w', ρ', h1, h2, h3⟩ := h
 exact ⟨u, w', ρ', .inl (by simp [h1]), h2, h3⟩
theorem OpDid.pure (hs : Sim ρ D st w) {v : SV} {u : Value} (h : Rel ρ v u) : OpDid P ρ D st st w v (Pure.pure (.value u)) := ⟨u, w, ρ, .inl rfl, h, Step.refl hs⟩
theorem OpDid.unit {v : SV} {s : Sem Unit} (h : v = .raw undef ∧ ∃ w', s.run P w = .ok () w' ∧ Step ρ ρ D st st' w w') : OpDid P ρ D st st' w v (do s; Pure.pure .skip) := by
 obtain ⟨rfl, w', h1, h2⟩ := h
 exact ⟨undef, w', ρ, .inr ⟨by simp [h1], rfl⟩, by rw [Rel], h2⟩
theorem withS_some {x : Option SV} {v : SV} (h : withS x st = some (v, st')) : x = some v ∧ st = st' := by
 unfold withS at h
 split at h
 ·simp only [Option.some.injEq, Prod.mk.injEq] at h
  obtain ⟨rfl, rfl⟩ := h
  exact ⟨rfl, rfl⟩
 ·cases h
theorem Did.read (hs : Sim ρ D st w) {v : SV} {s : Sem Value} (h : ∃ u, s.run P w = .ok u w ∧ Rel ρ v u) : Did P ρ D st st w v s := by
 obtain ⟨u, h1, h2⟩ := h
 exact Did.pure hs h1 h2
theorem ncS_ok {x v : SV} {u : Value} (hx : Rel ρ x u) (h : ncS x = some v) : v = x ∧ ((∃ b o, u = .pointer (some ⟨b, o, none⟩)) ∨ (∃ f l m, u = .func (.func f) l m) ∨ ∃ b, u = .func (.yield b) #[] #[]) := by
 unfold ncS at h
 split at h
 ·simp only [Option.some.injEq] at h; subst h
  rw [Rel] at hx; obtain ⟨b, s, _, rfl⟩ := hx
  exact ⟨rfl, .inl ⟨_, _, rfl⟩⟩
 ·simp only [Option.some.injEq] at h; subst h
  rw [Rel] at hx; obtain ⟨us, vs, _, _, rfl⟩ := hx
  exact ⟨rfl, .inr (.inl ⟨_, _, _, rfl⟩)⟩
 ·simp only [Option.some.injEq] at h; subst h
  rw [Rel] at hx; obtain ⟨b, s, _, rfl⟩ := hx
  exact ⟨rfl, .inr (.inr ⟨_, rfl⟩)⟩
 ·split at h
  ·simp only [Option.some.injEq] at h; subst h
   rw [Rel] at hx; subst hx
   exact ⟨rfl, .inr (.inl ⟨_, _, _, rfl⟩)⟩
  ·cases h
 ·cases h
theorem pkS_ok {c x y v : SV} {uc ux uy : Value} (hc : Rel ρ c uc) (hx : Rel ρ x ux) (hy : Rel ρ y uy) (h : pkS c x y = some v) : ∃ b : Bool, uc = .bool b ∧ Rel ρ v (if b then ux else uy) := by
 unfold pkS at h
 split at h
 ·simp only [Option.some.injEq] at h; subst h
  rw [Rel] at hc; exact ⟨true, hc, hx⟩
 ·simp only [Option.some.injEq] at h; subst h
  rw [Rel] at hc; exact ⟨false, hc, hy⟩
 ·cases h
theorem mxS_ok {mx : Bool} {ats : List TypeId} {ty : TypeId} {xs : List SV} {us : List Value} {v : SV} (hx : RelL ρ xs us) (h : mxS P mx ats ty xs = some v) : ∃ r, (match mx with | true => Builtin.max_ ats.toArray ty us.toArray | false => Builtin.min_ ats.toArray ty us.toArray).run P w = .ok r w ∧ Rel ρ v r := by
 unfold mxS at h
 split at h
 ·rename_i vs hv
  have := raws_rel hv hx
  subst this
  split at h
  ·rename_i r hr
   exact ⟨r, pv_run hr w, valV_rel h⟩
  ·cases h
 ·cases h
theorem fn_ok (he : EnvR ρ N env a.tmps) {f : FuncId} {xs ys : List Operand} : ∃ u, (Instr.makeFunc (.func f) (xs.toArray.map a.eval) (ys.toArray.map a.eval)).run P w = .ok u w ∧ Rel ρ (.fn f (svOps env xs) (svOps env ys)) u := by
 refine ⟨.func (.func f) (xs.toArray.map a.eval) (ys.toArray.map a.eval), by simp [Instr.makeFunc], ?_⟩
 rw [Rel]
 exact ⟨_, _, svOps_rel he xs, svOps_rel he ys, by simp⟩
theorem biS_ok {b : Builtin} {ats : List TypeId} {ty : TypeId} {xs : List SV} {us : List Value} {cs : Array Bool} {v : SV} (hx : RelL ρ xs us) (h : biS P b ats ty xs st = some (v, st')) (hs : Sim ρ D st w) (hD : ∀ x, x ∈ st'.R ∨ st.base ≤ x → D x) (hf : Free ρ st.nx st'.nx) :
 OpDid P ρ D st st' w v (builtin b ats.toArray ty cs us.toArray) := by
 unfold biS at h
 split at h
 ·split at h
  ·split at h
   ·rename_i x
    rw [RelL] at hx; obtain ⟨u, r, rfl, h1, h2⟩ := hx
    rw [RelL] at h2; subst h2
    exact OpDid.of (lnS_ok h1 h hs hD)
   ·cases h
  ·cases h
 ·split at h
  ·split at h
   ·rename_i x y
    rw [RelL] at hx; obtain ⟨u, r, rfl, h1, h2⟩ := hx
    rw [RelL] at h2; obtain ⟨u2, r2, rfl, h3, h4⟩ := h2
    rw [RelL] at h4; subst h4
    exact OpDid.of (apS_ok h1 h3 h hs hD hf)
   ·cases h
  ·cases h
 ·split at h
  ·split at h
   ·rename_i x y
    rw [RelL] at hx; obtain ⟨u, r, rfl, h1, h2⟩ := hx
    rw [RelL] at h2; obtain ⟨u2, r2, rfl, h3, h4⟩ := h2
    rw [RelL] at h4; subst h4
    exact OpDid.of (cpS_ok h1 h3 h hs hD)
   ·cases h
  ·cases h
 ·obtain ⟨hw, rfl⟩ := withS_some h
  exact OpDid.of (Did.read hs (mxS_ok (mx := true) hx hw))
 ·obtain ⟨hw, rfl⟩ := withS_some h
  exact OpDid.of (Did.read hs (mxS_ok (mx := false) hx hw))
 ·split at h
  ·split at h
   ·rename_i x i
    rw [RelL] at hx; obtain ⟨u, r, rfl, h1, h2⟩ := hx
    rw [RelL] at h2; obtain ⟨u2, r2, rfl, h3, h4⟩ := h2
    rw [RelL] at h4; subst h4
    exact OpDid.of (deS_ok h1 h3 h hs hD)
   ·cases h
  ·cases h
 ·split at h
  ·split at h
   ·rename_i x
    rw [RelL] at hx; obtain ⟨u, r, rfl, h1, h2⟩ := hx
    rw [RelL] at h2; subst h2
    exact OpDid.of (clS_ok h1 h hs hD)
   ·cases h
  ·cases h
 ·cases h
theorem opS_ok {o : Oper} {v : SV} (he : EnvR ρ N env a.tmps) (h : opS P env o.op st = some (v, st')) (hs : Sim ρ D st w) (hD : ∀ x, x ∈ st'.R ∨ st.base ≤ x → D x) (hf : Free ρ st.nx st'.nx) : OpDid P ρ D st st' w v (execOp a.eval o) := by
 obtain ⟨dst, op, ty, pos, af, g⟩ := o
 cases op <;> simp only [opS] at h <;> try (cases h; done)
 ·rename_i x
  simp only [Option.some.injEq, Prod.mk.injEq] at h
  obtain ⟨rfl, rfl⟩ := h
  exact OpDid.pure hs (svOp_rel he x)
 ·rename_i x
  simp only [Option.some.injEq, Prod.mk.injEq] at h
  obtain ⟨rfl, rfl⟩ := h
  exact OpDid.pure hs (svOp_rel he x)
 ·rename_i c x y
  obtain ⟨hw, rfl⟩ := withS_some h
  obtain ⟨b, h1, h2⟩ := pkS_ok (svOp_rel he c) (svOp_rel he x) (svOp_rel he y) hw
  refine ⟨_, w, ρ, .inl ?_, h2, Step.refl hs⟩
  simp [execOp, h1, asBool]
 ·exact OpDid.of (alS_ok h hs hf)
 ·rename_i T x
  exact OpDid.of (bxS_ok (svOp_rel he x) h hs hf)
 ·rename_i T ps
  obtain ⟨hw, rfl⟩ := withS_some h
  exact OpDid.of (Did.read hs (bdS_ok (parts := ps.toList) he hw))
 ·rename_i T n ps
  exact OpDid.of (bsS_ok (parts := ps.toList) he h hs hf)
 ·rename_i T x i v'
  exact OpDid.unit (muS_ok (svOp_rel he x) (svOp_rel he i) (svOp_rel he v') h hs hD)
 ·rename_i T x
  exact OpDid.of (ldS_ok (svOp_rel he x) h hs hD)
 ·rename_i T x v'
  exact OpDid.unit (stS_ok (svOp_rel he x) (svOp_rel he v') h hs hD)
 ·rename_i x
  obtain ⟨hw, rfl⟩ := withS_some h
  have hx := svOp_rel he x
  obtain ⟨rfl, h1⟩ := ncS_ok hx hw
  refine ⟨a.eval x, w, ρ, .inl ?_, hx, Step.refl hs⟩
  rcases h1 with ⟨b, o, e⟩ | ⟨f, l, m, e⟩ | ⟨b, e⟩ <;> simp [execOp, e]
 ·rename_i op T x y yt
  obtain ⟨hw, rfl⟩ := withS_some h
  exact OpDid.of (Did.read hs (boS_ok (svOp_rel he x) (svOp_rel he y) hw))
 ·rename_i op T x
  obtain ⟨hw, rfl⟩ := withS_some h
  exact OpDid.of (Did.read hs (unS_ok (svOp_rel he x) hw))
 ·rename_i T T' x
  obtain ⟨hw, rfl⟩ := withS_some h
  exact OpDid.of (Did.read hs (cvS_ok (svOp_rel he x) hw))
 ·rename_i f xs ys
  split at h
  ·simp only [Option.some.injEq, Prod.mk.injEq] at h
   obtain ⟨rfl, rfl⟩ := h
   exact OpDid.of (Did.read hs (fn_ok (xs := xs.toList) (ys := ys.toList) he))
  ·cases h
 ·rename_i T r
  split at h
  ·exact OpDid.of (mmS_ok (r := none) (env := env) h hs hf)
  ·cases h
 ·rename_i T l c
  exact OpDid.of (mkS_ok (svOp_rel he l) (svOp_rel he c) h hs hf)
 ·rename_i T x lo hi mx
  exact OpDid.of (slS_ok he (svOp_rel he x) h hs hD)
 ·rename_i T x f
  obtain ⟨hw, rfl⟩ := withS_some h
  exact OpDid.of (Did.read hs (faS_ok (svOp_rel he x) hw))
 ·rename_i T x f
  obtain ⟨hw, rfl⟩ := withS_some h
  exact OpDid.of (Did.read hs (fdS_ok (svOp_rel he x) hw))
 ·rename_i T x i
  obtain ⟨hw, rfl⟩ := withS_some h
  exact OpDid.of (Did.read hs (iaS_ok (svOp_rel he x) (svOp_rel he i) hw))
 ·rename_i T x i
  obtain ⟨hw, rfl⟩ := withS_some h
  exact OpDid.of (Did.read hs (ixS_ok (svOp_rel he x) (svOp_rel he i) hw))
 ·rename_i T x i ok
  exact OpDid.of (lkS_ok (svOp_rel he x) (svOp_rel he i) h hs hD)
 ·rename_i T x i v'
  exact OpDid.unit (muS_ok (svOp_rel he x) (svOp_rel he i) (svOp_rel he v') h hs hD)
 ·rename_i T x i
  exact OpDid.of (meS_ok (svOp_rel he x) (svOp_rel he i) h hs hD)
 ·rename_i T x i v'
  exact OpDid.unit (esS_ok (svOp_rel he x) (svOp_rel he i) (svOp_rel he v') h hs hD)
 ·rename_i T x
  exact OpDid.of (rgS_ok (svOp_rel he x) h hs hD hf)
 ·rename_i x
  exact OpDid.of (enS_ok (svOp_rel he x) h hs hD)
 ·rename_i x i
  obtain ⟨hw, rfl⟩ := withS_some h
  exact OpDid.of (Did.read hs (exS_ok (svOp_rel he x) hw))
end
end Go.TX
namespace Go.TX
open Go Go.TH
noncomputable section
section cur
open Classical
variable {α : Type} (f : Nat → Nat → α) (tch : Nat → Nat → Prop) (S : Nat → Prop)
def cur : Nat → Nat → α
  | 0, x => f 0 x
  | i + 1, x => if S i ∧ tch i x then f (i + 1) x else cur i x
theorem cur_at {n x : Nat} (hf : ∀ i, i < n → ∀ x, ¬ tch i x → f (i + 1) x = f i x) : ∀ {t : Nat}, t ≤ n → (∀ i, i < t → tch i x → S i) → cur f tch S t x = f t x
  | 0, _, _ => rfl
  | t + 1, ht, h1 => by
    have ih := cur_at hf (t := t) (by omega) (fun i hi => h1 i (by omega))
    simp only [cur]
    by_cases h : tch t x
    · rw [if_pos ⟨h1 t (by omega) h, h⟩]
    · rw [if_neg (fun q => h q.2), ih, hf t (by omega) x h]
theorem cur_stay {t x : Nat} : ∀ {n : Nat}, t ≤ n → (∀ i, t ≤ i → i < n → S i → ¬ tch i x) → cur f tch S n x = cur f tch S t x
  | 0, ht, _ => by have : t = 0 := by omega
                   rw [this]
  | n + 1, ht, h => by
    by_cases e : t = n + 1
    · rw [e]
    · have ih := cur_stay (n := n) (t := t) (by omega) (fun i h1 h2 => h i h1 (by omega))
      simp only [cur]
      rw [if_neg (fun q => h n (by omega) (by omega) q.1 q.2), ih]
theorem cur_is {n t x : Nat} (hf : ∀ i, i < n → ∀ x, ¬ tch i x → f (i + 1) x = f i x) (ht : t ≤ n) (h1 : ∀ i, i < t → tch i x → S i) (h2 : ∀ i, t ≤ i → i < n → S i → ¬ tch i x) : cur f tch S n x = f t x := by
  rw [cur_stay f tch S ht h2, cur_at f tch S hf ht h1]
theorem cur_other {t x : Nat} (S' : Nat → Prop) (hS : ∀ i, i ≠ t → (S' i ↔ S i)) (hx : ¬ tch t x) : ∀ n, cur f tch S' n x = cur f tch S n x
  | 0 => rfl
  | n + 1 => by
    simp only [cur, cur_other S' hS hx n]
    by_cases e : n = t
    · subst e; rw [if_neg (fun q => hx q.2), if_neg (fun q => hx q.2)]
    · rw [hS n e]
theorem cur_none {x : Nat} (h : ∀ i, ¬ S i) : ∀ n, cur f tch S n x = f 0 x
  | 0 => rfl
  | n + 1 => by simp only [cur]; rw [if_neg (fun q => h n q.1), cur_none h n]
end cur
theorem mem_afsL {o : Oper} {j : Nat} : j ∈ afsL o ↔ ∃ e ∈ o.after.toList, Region.binds .any e = true ∧ e.on = j := by
  unfold afsL
  generalize o.after.toList = l
  induction l with
  | nil => simp [afsL.go]
  | cons e l ih =>
    simp only [afsL.go]
    cases hg : e.ground <;> simp [ih, Region.binds, hg] <;> constructor <;> intro h <;> rcases h with h | h <;> first | exact .inl h.symm | exact .inr h | (exact absurd h (by decide))
def Good (A : List (List Nat)) (k m : Nat) : Prop := ∀ S : Nat → Prop, (∀ i af, A[i]? = some af → S i → ∀ j ∈ af, S j) → (∀ af, A[k]? = some af → ∀ j ∈ af, S j) → ∀ j, bitB m j = true → S j
theorem bitB_testBit (m i : Nat) : bitB m i = m.testBit i := by
  unfold bitB
  have h : Nat.beq (Nat.land (Nat.shiftRight m i) 1) 1 = ((m >>> i) &&& 1 == 1) := by
    show Nat.beq ((m >>> i) &&& 1) 1 = ((m >>> i) &&& 1 == 1)
    generalize (m >>> i) &&& 1 = z
    rw [Bool.eq_iff_iff]; simp
  rw [h, Nat.testBit, Nat.and_comm]
  have := Nat.and_one_is_mod (m >>> i)
  rw [Nat.and_comm 1, this]
  rcases Nat.mod_two_eq_zero_or_one (m >>> i) with h | h <;> simp [h]
theorem cloGo_ok {A : List (List Nat)} {acc : List Nat} (hA : ∀ k m, k < acc.length → acc[acc.length - 1 - k]? = some m → Good A k m) {S : Nat → Prop} (hS : ∀ i af, A[i]? = some af → S i → ∀ j ∈ af, S j) :
    ∀ (js : List Nat) (m0 : Nat), (∀ j ∈ js, j < acc.length) → (∀ j ∈ js, S j) → (∀ j, bitB m0 j = true → S j) → ∀ j, bitB (cloB.go acc acc.length js m0) j = true → S j
  | [], m0, _, _, h0, j, hj => by simp only [cloB.go] at hj; exact h0 j hj
  | x :: js, m0, hlt, hjs, h0, j, hj => by
    simp only [cloB.go] at hj
    split at hj
    · rename_i mj hm
      rw [nth_eq] at hm
      have hx : S x := hjs x (by simp)
      refine cloGo_ok hA hS js _ (fun j hj => hlt j (by simp [hj])) (fun j hj => hjs j (by simp [hj])) ?_ j hj
      intro j hj
      rw [bitB_testBit] at hj
      have e : Nat.lor m0 (Nat.lor mj (Nat.shiftLeft 1 x)) = m0 ||| (mj ||| (1 <<< x)) := rfl
      rw [e, Nat.testBit_or, Nat.testBit_or, Bool.or_eq_true, Bool.or_eq_true] at hj
      rcases hj with hj | hj | hj
      · exact h0 j (by rw [bitB_testBit]; exact hj)
      · exact hA x mj (hlt x (by simp)) hm S hS (fun af haf => hS x af haf hx) j (by rw [bitB_testBit]; exact hj)
      · rw [Nat.one_shiftLeft, Nat.testBit_two_pow] at hj
        have : x = j := by simpa using hj
        subst this; exact hx
    · exact cloGo_ok hA hS js _ (fun j hj => hlt j (by simp [hj])) (fun j hj => hjs j (by simp [hj])) h0 j hj
theorem ltAll_ok : ∀ {l : List Nat} {i : Nat}, ltAll l i = true → ∀ j ∈ l, j < i
  | [], _, _, j, hj => by cases hj
  | x :: r, i, h, j, hj => by
    simp only [ltAll] at h
    cases hb : Nat.blt x i with
    | false => rw [hb] at h; cases h
    | true =>
      rw [hb, cond_true] at h
      rcases List.mem_cons.1 hj with rfl | hj
      · exact Nat.blt_eq.mp hb
      · exact ltAll_ok h j hj
theorem backAll_ok : ∀ {A : List (List Nat)} {i0 : Nat}, backAll A i0 = true → ∀ i af, A[i]? = some af → ∀ j ∈ af, j < i0 + i
  | [], _, _, i, af, h, _, _ => by simp at h
  | a :: r, i0, h, i, af, ha, j, hj => by
    simp only [backAll] at h
    cases hb : ltAll a i0 with
    | false => rw [hb] at h; cases h
    | true =>
      rw [hb, cond_true] at h
      cases i with
      | zero => simp only [List.getElem?_cons_zero, Option.some.injEq] at ha; subst ha; exact ltAll_ok hb j hj
      | succ i =>
        simp only [List.getElem?_cons_succ] at ha
        have := backAll_ok h i af ha j hj
        omega
def Masks (A : List (List Nat)) (ms : List Nat) : Prop := ∀ k m, k < ms.length → ms[ms.length - 1 - k]? = some m → Good A k m
theorem cloB_ok {A : List (List Nat)} (hback : ∀ (i : Nat) (af : List Nat), A[i]? = some af → ∀ j ∈ af, j < i) : ∀ (r : List (List Nat)) (acc : List Nat), A.drop acc.length = r → Masks A acc → Masks A (cloB r acc) ∧ (cloB r acc).length = acc.length + r.length
  | [], acc, _, h => ⟨h, rfl⟩
  | af :: r, acc, hd, h => by
    simp only [cloB, natK_eq]
    have haf : A[acc.length]? = some af := by
      have := congrArg (fun l => l[0]?) hd
      simpa [List.getElem?_drop] using this
    have hr : A.drop (acc.length + 1) = r := by
      have := congrArg (List.drop 1) hd
      simpa [List.drop_drop] using this
    have hm : Masks A (cloB.go acc (llen acc) af 0 :: acc) := by
      intro k m hk hm
      rw [List.length_cons] at hk hm
      by_cases e : k = acc.length
      · subst e
        have e1 : acc.length + 1 - 1 - acc.length = 0 := by omega
        rw [e1, List.getElem?_cons_zero, Option.some.injEq] at hm
        subst hm
        intro S hS hk2 j hj
        rw [llen_eq] at hj
        exact cloGo_ok h hS af 0 (fun j hj => hback _ af haf j hj) (fun j hj => hk2 af haf j hj) (fun j hj => by rw [bitB_testBit, Nat.zero_testBit] at hj; cases hj) j hj
      · have e1 : acc.length + 1 - 1 - k = (acc.length - 1 - k) + 1 := by omega
        rw [e1, List.getElem?_cons_succ] at hm
        exact h k m (by omega) hm
    obtain ⟨h1, h2⟩ := cloB_ok hback r _ (by simpa using hr) hm
    exact ⟨h1, by rw [h2]; simp; omega⟩
theorem afsAll_eq : ∀ (l : List Oper), afsAll l = l.map afsL
  | [] => rfl
  | o :: r => by simp [afsAll, afsAll_eq r]
theorem revK_eq {α : Type} : ∀ (l acc : List α), revK l acc = l.reverse ++ acc
  | [], _ => rfl
  | x :: r, acc => by simp [revK, revK_eq r]
theorem apU_ok {ops : Array Oper} {u : Oper} {m : Nat} : ∀ {r : List Oper}, apAll.apU ops u m r r.length = true → ∀ i t, i < r.length → r[r.length - 1 - i]? = some t → bitB m i = true ∨ t.apart ops u = true
  | [], _, i, t, hi, _ => by simp at hi
  | x :: r, h, i, t, hi, ht => by
    simp only [List.length_cons, apAll.apU, Nat.add_sub_cancel] at h
    simp only [List.length_cons] at hi ht
    by_cases e : i = r.length
    · subst e
      have e1 : r.length + 1 - 1 - r.length = 0 := by omega
      rw [e1, List.getElem?_cons_zero, Option.some.injEq] at ht
      subst ht
      cases hb : bitB m r.length with
      | true => exact .inl rfl
      | false =>
        rw [hb, cond_false] at h
        cases ha : x.apart ops u with
        | true => exact .inr rfl
        | false => rw [ha] at h; cases h
    · have e1 : r.length + 1 - 1 - i = (r.length - 1 - i) + 1 := by omega
      rw [e1, List.getElem?_cons_succ] at ht
      have h' : apAll.apU ops u m r r.length = true := by
        cases hb : bitB m r.length with
        | true => rw [hb, cond_true] at h; exact h
        | false =>
          rw [hb, cond_false] at h
          cases ha : x.apart ops u with
          | true => rw [ha, cond_true] at h; exact h
          | false => rw [ha] at h; cases h
      exact apU_ok h' i t (by omega) ht
theorem apAll_ok {ops : Array Oper} : ∀ {r : List Oper} {ms : List Nat}, r.length = ms.length → apAll ops r ms = true → ∀ i j t u m, i < j → j < r.length → r[r.length - 1 - i]? = some t → r[r.length - 1 - j]? = some u → ms[ms.length - 1 - j]? = some m → bitB m i = true ∨ t.apart ops u = true
  | [], _, _, _, i, j, t, u, m, _, hj, _, _, _ => by simp at hj
  | x :: r, [], hl, _, _, _, _, _, _, _, _, _, _, _ => by simp at hl
  | x :: r, y :: ms, hl, h, i, j, t, u, m, hij, hj, ht, hu, hm => by
    simp only [apAll, Bool.and_eq_true] at h
    obtain ⟨h1, h2⟩ := h
    rw [llen_eq] at h1
    simp only [List.length_cons] at hj ht hu hm hl
    have hl' : r.length = ms.length := by omega
    have ei : r.length + 1 - 1 - i = (r.length - 1 - i) + 1 := by omega
    rw [ei, List.getElem?_cons_succ] at ht
    by_cases e : j = r.length
    · subst e
      have e1 : r.length + 1 - 1 - r.length = 0 := by omega
      rw [e1, List.getElem?_cons_zero, Option.some.injEq] at hu
      rw [← hl', e1, List.getElem?_cons_zero, Option.some.injEq] at hm
      subst hu; subst hm
      exact apU_ok h1 i t (by omega) ht
    · have e1 : r.length + 1 - 1 - j = (r.length - 1 - j) + 1 := by omega
      rw [e1, List.getElem?_cons_succ] at hu
      rw [← hl', e1, List.getElem?_cons_succ] at hm
      rw [hl'] at hm
      exact apAll_ok hl' h2 i j t u m hij (by omega) ht hu hm
theorem sepU_ok {u : Tc} {m : Nat} : ∀ {r : List Tc}, sepAll.sepU u m r r.length = true → ∀ i t, i < r.length → r[r.length - 1 - i]? = some t → bitB m i = true ∨ sepT t u = true
  | [], _, i, t, hi, _ => by simp at hi
  | x :: r, h, i, t, hi, ht => by
    simp only [List.length_cons, sepAll.sepU, Nat.add_sub_cancel] at h
    simp only [List.length_cons] at hi ht
    have h' : (sepT x u = true ∨ bitB m r.length = true) ∧ sepAll.sepU u m r r.length = true := by
      cases ha : sepT x u with
      | true => rw [ha, cond_true] at h; exact ⟨.inl rfl, h⟩
      | false =>
        rw [ha, cond_false] at h
        cases hb : bitB m r.length with
        | true => rw [hb, cond_true] at h; exact ⟨.inr rfl, h⟩
        | false => rw [hb] at h; cases h
    by_cases e : i = r.length
    · subst e
      have e1 : r.length + 1 - 1 - r.length = 0 := by omega
      rw [e1, List.getElem?_cons_zero, Option.some.injEq] at ht
      subst ht
      exact h'.1.symm
    · have e1 : r.length + 1 - 1 - i = (r.length - 1 - i) + 1 := by omega
      rw [e1, List.getElem?_cons_succ] at ht
      exact sepU_ok h'.2 i t (by omega) ht
theorem sepAll_ok : ∀ {r : List Tc} {ms : List Nat}, r.length = ms.length → sepAll r ms = true → ∀ i j t u m, i < j → j < r.length → r[r.length - 1 - i]? = some t → r[r.length - 1 - j]? = some u → ms[ms.length - 1 - j]? = some m → bitB m i = true ∨ sepT t u = true
  | [], _, _, _, i, j, t, u, m, _, hj, _, _, _ => by simp at hj
  | x :: r, [], hl, _, _, _, _, _, _, _, _, _, _, _ => by simp at hl
  | x :: r, y :: ms, hl, h, i, j, t, u, m, hij, hj, ht, hu, hm => by
    simp only [sepAll, Bool.and_eq_true] at h
    obtain ⟨h1, h2⟩ := h
    rw [llen_eq] at h1
    simp only [List.length_cons] at hj ht hu hm hl
    have hl' : r.length = ms.length := by omega
    have ei : r.length + 1 - 1 - i = (r.length - 1 - i) + 1 := by omega
    rw [ei, List.getElem?_cons_succ] at ht
    by_cases e : j = r.length
    · subst e
      have e1 : r.length + 1 - 1 - r.length = 0 := by omega
      rw [e1, List.getElem?_cons_zero, Option.some.injEq] at hu
      rw [← hl', e1, List.getElem?_cons_zero, Option.some.injEq] at hm
      subst hu; subst hm
      exact sepU_ok h1 i t (by omega) ht
    · have e1 : r.length + 1 - 1 - j = (r.length - 1 - j) + 1 := by omega
      rw [e1, List.getElem?_cons_succ] at hu
      rw [← hl', e1, List.getElem?_cons_succ] at hm
      rw [hl'] at hm
      exact sepAll_ok hl' h2 i j t u m hij (by omega) ht hu hm
theorem allQ_ok : ∀ {l : List Tc}, allQ l = true → ∀ t ∈ l, t.q = true
  | [], _, t, ht => by cases ht
  | x :: r, h, t, ht => by
    simp only [allQ] at h
    split at h
    · rename_i hq
      rcases List.mem_cons.1 ht with rfl | ht
      · exact hq
      · exact allQ_ok h t ht
    · cases h
theorem memb_no {x : Nat} : ∀ {l : List Nat}, memb x l = false → x ∉ l
  | [], _, hx => by cases hx
  | y :: r, h, hx => by
    simp only [memb] at h
    cases hb : Nat.beq x y with
    | true => rw [hb] at h; cases h
    | false =>
      rw [hb, cond_false] at h
      rcases List.mem_cons.1 hx with rfl | hx
      · rw [Nat.beq_refl] at hb; cases hb
      · exact memb_no h hx
theorem disj_ok : ∀ {l m : List Nat}, disj l m = true → ∀ x ∈ l, x ∉ m
  | [], _, _, x, hx => by cases hx
  | y :: r, m, h, x, hx => by
    simp only [disj] at h
    cases hb : memb y m with
    | true => rw [hb] at h; cases h
    | false =>
      rw [hb, cond_false] at h
      rcases List.mem_cons.1 hx with rfl | hx
      · exact memb_no hb
      · exact disj_ok h x hx
theorem outR_ok {a b : Nat} : ∀ {l : List Nat}, outR a b l = true → ∀ x ∈ l, ¬ (a ≤ x ∧ x < b)
  | [], _, x, hx => by cases hx
  | y :: r, h, x, hx => by
    simp only [outR] at h
    cases hb : (Nat.ble a y && Nat.blt y b) with
    | true => rw [hb] at h; cases h
    | false =>
      rw [hb, cond_false] at h
      rcases List.mem_cons.1 hx with rfl | hx
      · intro ⟨h1, h2⟩
        rw [Nat.ble_eq.mpr h1, Nat.blt_eq.mpr h2] at hb
        cases hb
      · exact outR_ok h x hx
theorem sepT_ok {t u : Tc} (h : sepT t u = true) : (t.q = true ∧ u.q = true) ∨ ((∀ x ∈ t.W, x ∉ u.R) ∧ (∀ x ∈ t.W, x ∉ u.W) ∧ (∀ x ∈ t.R, x ∉ u.W) ∧ ∀ x ∈ u.R, ¬ (t.a ≤ x ∧ x < t.b)) := by
  have hf : sepF t u = true → (∀ x ∈ t.W, x ∉ u.R) ∧ (∀ x ∈ t.W, x ∉ u.W) ∧ (∀ x ∈ t.R, x ∉ u.W) ∧ ∀ x ∈ u.R, ¬ (t.a ≤ x ∧ x < t.b) := by
    intro h
    unfold sepF at h
    simp only [Bool.and_eq_true] at h
    exact ⟨disj_ok h.1.1.1, disj_ok h.1.1.2, disj_ok h.1.2, outR_ok h.2⟩
  unfold sepT at h
  split at h
  · rename_i h1
    split at h
    · rename_i h2; exact .inl ⟨h1, h2⟩
    · exact .inr (hf h)
  · exact .inr (hf h)
theorem insAllK_eq {β : Type} {b : Nat} : ∀ {l R : List Nat} {k : List Nat → β}, ∃ R', insAllK b l R k = k R' ∧ (∀ x ∈ R, x ∈ R') ∧ ∀ x ∈ l, x ∈ R' ∨ b ≤ x
  | [], R, k => ⟨R, rfl, fun _ h => h, fun x hx => by cases hx⟩
  | y :: l, R, k => by
    simp only [insAllK, insK_eq]
    obtain ⟨R', h1, h2, h3⟩ := insAllK_eq (b := b) (l := l) (R := ins b y R) (k := k)
    refine ⟨R', h1, fun x hx => h2 x (ins_sub _ _ _ x hx), fun x hx => ?_⟩
    rcases List.mem_cons.1 hx with rfl | hx
    · rcases ins_has b x R with h | h
      · exact .inl (h2 _ h)
      · exact .inr h
    · exact h3 x hx
theorem tellK_eq {β : Type} {b : Nat} : ∀ {ts : List Tc} {R W : List Nat} {k : List Nat → List Nat → β}, ∃ R' W', tellK b ts R W k = k R' W' ∧ (∀ x ∈ R, x ∈ R') ∧ (∀ x ∈ W, x ∈ W') ∧ ∀ t ∈ ts, (∀ x ∈ t.R, x ∈ R' ∨ b ≤ x) ∧ ∀ x ∈ t.W, x ∈ W' ∨ b ≤ x
  | [], R, W, k => ⟨R, W, rfl, fun _ h => h, fun _ h => h, fun t ht => by cases ht⟩
  | t :: ts, R, W, k => by
    simp only [tellK]
    obtain ⟨R1, h1, h2, h3⟩ := insAllK_eq (b := b) (l := t.R) (R := R) (k := fun R' => insAllK b t.W W fun W' => tellK b ts R' W' k)
    obtain ⟨W1, g1, g2, g3⟩ := insAllK_eq (b := b) (l := t.W) (R := W) (k := fun W' => tellK b ts R1 W' k)
    obtain ⟨R2, W2, e1, e2, e3, e4⟩ := tellK_eq (b := b) (ts := ts) (R := R1) (W := W1) (k := k)
    refine ⟨R2, W2, by rw [h1, g1, e1], fun x hx => e2 x (h2 x hx), fun x hx => e3 x (g2 x hx), fun t' ht => ?_⟩
    rcases List.mem_cons.1 ht with rfl | ht
    · refine ⟨fun x hx => ?_, fun x hx => ?_⟩
      · rcases h3 x hx with q | q
        · exact .inl (e2 x q)
        · exact .inr q
      · rcases g3 x hx with q | q
        · exact .inl (e3 x q)
        · exact .inr q
    · exact e4 t' ht
end
end Go.TX
namespace Go.TX
open Go Go.TH
noncomputable section
variable {P : Program} {D : Nat → Prop} {ρ0 ρ ρ' : Ren} {w0 w w' : World} {st : St}
theorem Step.before {T Ht : Tr SO} {nE x0 : Nat} {Rf Wf Rt : List Nat} (hI : Step ρ0 ρ D st ⟨T, nE, st.base, Rf, Wf⟩ w0 w)
 (hR : ∀ x ∈ Rt, x < x0 → T.get x = Ht.get x) (hRf : ∀ x ∈ Rt, x ∈ Rf ∨ st.base ≤ x) (hD0 : ∀ x, x ∈ Rf ∨ st.base ≤ x → D x) (hHl : ∀ x, Ht.get x ≠ none → x < x0) :
 Sim ρ (fun x => x ∈ Rt ∨ x0 ≤ x) ⟨Ht, x0, x0, [], []⟩ w := by
 have h1 : ∀ x, (x ∈ Rt ∨ x0 ≤ x) → Ht.get x ≠ none → x ∈ Rt ∧ T.get x = Ht.get x ∧ (D x ∨ st.nx ≤ x) := by
  intro x d g
  have hl := hHl x g
  have hr : x ∈ Rt := d.resolve_right (by omega)
  exact ⟨hr, hR x hr hl, .inl (hD0 x (hRf x hr))⟩
 refine ⟨?_, ?_, hHl⟩
 ·intro x o d g
  have g : Ht.get x = some o := g
  obtain ⟨_, h2, h3⟩ := h1 x d (by rw [g]; simp)
  exact hI.sim.live x o h3 (by show T.get x = some o; rw [h2, g])
 ·intro x y b s s' dx dy gx gy hx hy
  obtain ⟨_, h2, h3⟩ := h1 x dx gx
  obtain ⟨_, h4, h5⟩ := h1 y dy gy
  exact hI.sim.inj x y b s s' h3 h5 (by show T.get x ≠ none; rw [h2]; exact gx) (by show T.get y ≠ none; rw [h4]; exact gy) hx hy
theorem Step.behind {T T' Ht hq : Tr SO} {nE x0 x1 b' : Nat} {Rf Wf Rt Wt : List Nat} (hI : Step ρ0 ρ D st ⟨T, nE, st.base, Rf, Wf⟩ w0 w)
 (hop : Step ρ ρ' (fun x => x ∈ Rt ∨ x0 ≤ x) ⟨Ht, x0, x0, [], []⟩ ⟨hq, x1, b', Rt, Wt⟩ w w') (hx0 : st.nx ≤ x0) (hx1 : x1 ≤ nE)
 (hR : ∀ x ∈ Rt, x < x0 → T.get x = Ht.get x) (hWR : ∀ x ∈ Wt, x ∈ Rt) (hWl : ∀ x ∈ Wt, x < x0) (hRf : ∀ x ∈ Rt, x ∈ Rf ∨ st.base ≤ x) (hWf : ∀ x ∈ Wt, x ∈ Wf ∨ st.base ≤ x)
 (hD0 : ∀ x, x ∈ Rf ∨ st.base ≤ x → D x) (hfree : ∀ x, x0 ≤ x → x < x1 → ρ x = none) (hHl : ∀ x, Ht.get x ≠ none → x < x0)
 (hTa : ∀ x, (x ∈ Wt ∨ (x0 ≤ x ∧ x < x1)) → T'.get x = hq.get x) (hTb : ∀ x, ¬ (x ∈ Wt ∨ (x0 ≤ x ∧ x < x1)) → T'.get x = T.get x) :
 Step ρ0 ρ' D st ⟨T', nE, st.base, Rf, Wf⟩ w0 w' := by
 have hle : ρ.Le ρ' := hop.le (fun x h1 h2 => hfree x h1 h2)
 have hTH : ∀ x ∈ Wt, T.get x = Ht.get x := fun x hx => hR x (hWR x hx) (hWl x hx)
 have hdead : ∀ x ∈ Wt, T.get x = none → hq.get x = none := fun x hx hn => hop.dead x (hWl x hx) (by show Ht.get x = none; rw [← hTH x hx]; exact hn)
 have hgone : ∀ x, x < x0 → T.get x = none → T'.get x = none := by
  intro x hx hn
  by_cases h : x ∈ Wt
  ·rw [hTa x (.inl h)]; exact hdead x h hn
  ·rw [hTb x (by rintro (q | q); exact h q; omega)]; exact hn
 have hext : ∀ x, ¬ (x0 ≤ x ∧ x < x1) → ρ' x = ρ x := fun x hx => hop.ext x (by
  show x < x0 ∨ x1 ≤ x
  omega)
 have hkeep : ∀ b, b < w.heap.size → w'.heap[b]? = w.heap[b]? ∨ ∃ x s, ρ x = some (b, s) ∧ x ∈ Wt ∧ T.get x ≠ none := by
  intro b hb
  rcases hop.keep b hb with e | ⟨x, s, e1, e2, e3, e4⟩
  ·exact .inl e
  ·have hl := hHl x e3
   have hw : x ∈ Wt := e4.resolve_right (by show ¬ x0 ≤ x; omega)
   exact .inr ⟨x, s, e1, hw, by rw [hTH x hw]; exact e3⟩
 have hfresh : ∀ x b s, x0 ≤ x → hq.get x ≠ none → ρ' x = some (b, s) → w.heap.size ≤ b ∨ ∃ z s', z ∈ Wt ∧ ρ z = some (b, s') ∧ T.get z ≠ none ∧ hq.get z = none := by
  intro x b s hx hg hr
  rcases hop.fresh x b s hx hg hr with e | ⟨z, s', e1, e2, e3, e4, e5, e6⟩
  ·exact .inl e
  ·have hl := hHl z e4
   have hw : z ∈ Wt := e6.resolve_right (by show ¬ x0 ≤ z; omega)
   exact .inr ⟨z, s', hw, e2, by rw [hTH z hw]; exact e4, e5⟩
 have hDx : ∀ x ∈ Wt, D x := fun x hx => hD0 x (hRf x (hWR x hx))
 refine ⟨hop.os.trans hI.os, hop.tape.trans hI.tape, hop.output.trans hI.output, Nat.le_trans hI.size hop.size, hI.nx, rfl, hI.sR, hI.sW, ?_, ?_, ?_, ?_, ?_, ?_⟩
 ·intro x hx
  have hx' : x < st.nx ∨ nE ≤ x := hx
  rw [hext x (by omega)]
  exact hI.ext x hx
 ·intro b hb
  rcases hkeep b (Nat.lt_of_lt_of_le hb hI.size) with e | ⟨x, s, e1, e2, e3⟩
  ·rcases hI.keep b hb with e' | ⟨x, s, e1, e2, e3, e4⟩
   ·exact .inl (e.trans e')
   ·exact .inr ⟨x, s, e1, e2, e3, e4⟩
  ·by_cases hx : x < st.nx
   ·refine .inr ⟨x, s, ?_, hDx x e2, fun hn => e3 (hI.dead x hx hn), hWf x e2⟩
    rw [← hI.ext x (.inl hx)]; exact e1
   ·rcases hI.fresh x b s (by omega) e3 e1 with e5 | ⟨z, s', g1, g2, g3, g4, g5, g6⟩
    ·omega
    ·exact .inr ⟨z, s', g2, g3, g4, g6⟩
 ·intro x hx hn
  exact hgone x (by omega) (hI.dead x hx hn)
 ·intro x hx
  by_cases h : x ∈ Wt
  ·exact .inl (hWf x h)
  ·rcases hI.same x hx with e | e
   ·exact .inl e
   ·right
    show T'.get x = _
    rw [hTb x (by rintro (q | q); exact h q; omega)]; exact e
 ·intro x b s hx hg hr
  have hg : T'.get x ≠ none := hg
  by_cases hr1 : x0 ≤ x ∧ x < x1
  ·rw [hTa x (.inr hr1)] at hg
   rcases hfresh x b s hr1.1 hg hr with e | ⟨z, s', e1, e2, e3, e4⟩
   ·exact .inl (Nat.le_trans hI.size e)
   ·by_cases hz : z < st.nx
    ·refine .inr ⟨z, s', hz, by rw [← hI.ext z (.inl hz)]; exact e2, hDx z e1, fun hn => e3 (hI.dead z hz hn), ?_, hWf z e1⟩
     show T'.get z = none
     rw [hTa z (.inl e1)]; exact e4
    ·rcases hI.fresh z b s' (by omega) e3 e2 with e5 | ⟨y, s2, f1, f2, f3, f4, f5, f6⟩
     ·exact .inl e5
     ·exact .inr ⟨y, s2, f1, f2, f3, f4, hgone y (by omega) f5, f6⟩
  ·have hgT : T.get x ≠ none := by
    by_cases h : x ∈ Wt
    ·rw [hTa x (.inl h)] at hg
     exact fun hn => hg (hdead x h hn)
    ·rw [hTb x (by rintro (q | q); exact h q; exact hr1 q)] at hg; exact hg
   rw [hext x hr1] at hr
   rcases hI.fresh x b s hx hgT hr with e5 | ⟨y, s2, f1, f2, f3, f4, f5, f6⟩
   ·exact .inl e5
   ·exact .inr ⟨y, s2, f1, f2, f3, f4, hgone y (by omega) f5, f6⟩
 ·
  have hold : ∀ x, ¬ (x ∈ Wt ∨ (x0 ≤ x ∧ x < x1)) → ∀ o, T.get x = some o → (D x ∨ st.nx ≤ x) → ∃ b s ob, ρ x = some (b, s) ∧ w.heap[b]? = some ob ∧ ORel ρ s o ob ∧ b < w.heap.size ∧ w'.heap[b]? = w.heap[b]? := by
   intro x hx o ho d
   obtain ⟨b, s, ob, e1, e2, e3⟩ := hI.sim.live x o d ho
   have hb := (Array.getElem?_eq_some_iff.1 e2).1
   refine ⟨b, s, ob, e1, e2, e3, hb, ?_⟩
   rcases hkeep b hb with e | ⟨y, s', f1, f2, f3⟩
   ·exact e
   ·have := hI.sim.inj x y b s s' d (.inl (hDx y f2)) (by show T.get x ≠ none; rw [ho]; simp) f3 e1 f1
    subst this
    exact absurd (.inl f2) hx
  refine ⟨?_, ?_, ?_⟩
  ·intro x o d g
   have g : T'.get x = some o := g
   by_cases hx : x ∈ Wt ∨ (x0 ≤ x ∧ x < x1)
   ·rw [hTa x hx] at g
    exact hop.sim.live x o (by rcases hx with q | q; exact .inl (.inl (hWR x q)); exact .inr q.1) g
   ·rw [hTb x hx] at g
    obtain ⟨b, s, ob, e1, e2, e3, e4, e5⟩ := hold x hx o g d
    exact ⟨b, s, ob, hle _ _ e1, by rw [e5]; exact e2, e3.mono hle⟩
  ·have mix : ∀ x y b s s', (x ∈ Wt ∨ (x0 ≤ x ∧ x < x1)) → ¬ (y ∈ Wt ∨ (x0 ≤ y ∧ y < x1)) → (D y ∨ st.nx ≤ y) → T'.get x ≠ none → T'.get y ≠ none → ρ' x = some (b, s) → ρ' y = some (b, s') → False := by
    intro x y b s s' hx hy dy gx gy ex ey
    rw [hTb y hy] at gy
    rw [hext y (fun q => hy (.inr q))] at ey
    obtain ⟨o, ho⟩ := Option.ne_none_iff_exists'.1 gy
    obtain ⟨b2, s2, ob, e1, e2, e3, e4, e5⟩ := hold y hy o ho dy
    rw [ey] at e1; cases e1
    rw [hTa x hx] at gx
    by_cases hxw : x ∈ Wt
    ·rw [hext x (fun q => by have := hWl x hxw; omega)] at ex
     have hxT : T.get x ≠ none := fun hn => gx (hdead x hxw hn)
     have := hI.sim.inj x y b s s' (.inl (hDx x hxw)) dy hxT gy ex ey
     subst this
     exact hy hx
    ·have hxr := hx.resolve_left hxw
     rcases hfresh x b s hxr.1 gx ex with e | ⟨z, s3, f1, f2, f3, f4⟩
     ·omega
     ·have := hI.sim.inj z y b s3 s' (.inl (hDx z f1)) dy f3 gy f2 ey
      subst this
      exact hy (.inl f1)
   intro x y b s s' dx dy gx gy ex ey
   have gx : T'.get x ≠ none := gx
   have gy : T'.get y ≠ none := gy
   by_cases hx : x ∈ Wt ∨ (x0 ≤ x ∧ x < x1) <;> by_cases hy : y ∈ Wt ∨ (x0 ≤ y ∧ y < x1)
   ·rw [hTa x hx] at gx
    rw [hTa y hy] at gy
    exact hop.sim.inj x y b s s' (by rcases hx with q | q; exact .inl (.inl (hWR x q)); exact .inr q.1) (by rcases hy with q | q; exact .inl (.inl (hWR y q)); exact .inr q.1) gx gy ex ey
   ·exact (mix x y b s s' hx hy dy gx gy ex ey).elim
   ·exact (mix y x b s' s hy hx dx gy gx ey ex).elim
   ·rw [hTb x hx] at gx
    rw [hTb y hy] at gy
    rw [hext x (fun q => hx (.inr q))] at ex
    rw [hext y (fun q => hy (.inr q))] at ey
    exact hI.sim.inj x y b s s' dx dy gx gy ex ey
  ·intro x hg
   have hg : T'.get x ≠ none := hg
   show x < nE
   by_cases hx : x ∈ Wt ∨ (x0 ≤ x ∧ x < x1)
   ·rcases hx with q | q
    ·have hTx : T.get x ≠ none := fun hn => hg (by rw [hTa x (.inl q)]; exact hdead x q hn)
     exact hI.sim.lt x hTx
    ·omega
   ·rw [hTb x hx] at hg
    exact hI.sim.lt x hg
end
end Go.TX
namespace Go.TX
open Go Go.TH
noncomputable section
variable {P : Program} {sm : Sums} {rec : Rec} {D : Nat → Prop} {ρ ρ' : Ren} {w w' : World} {st st' : St} {env env2 : Tr SV}
theorem svOps_congr : ∀ {l : List Operand}, (∀ x ∈ l, svOp env x = svOp env2 x) → svOps env l = svOps env2 l
 | [], _ => rfl
 | x :: l, h => by simp only [svOps]; rw [h x (by simp), svOps_congr fun y hy => h y (by simp [hy])]
theorem svParts_congr : ∀ {l : List (Nat × Operand)}, (∀ x ∈ l, svOp env x.2 = svOp env2 x.2) → svParts env l = svParts env2 l
 | [], _ => rfl
 |(i, x) :: l, h => by simp only [svParts]; rw [h (i, x) (by simp), svParts_congr fun y hy => h y (by simp [hy])]
theorem optMap_congr {o : Option Operand} (h : ∀ x ∈ o.toArray, svOp env x = svOp env2 x) : o.map (svOp env) = o.map (svOp env2) := by
 cases o with
 | none => rfl
 | some x => simp only [Option.map_some]; rw [h x (by simp)]
theorem opS_congr {op : Op} (h : ∀ x ∈ op.operands, svOp env x = svOp env2 x) : opS P env op st = opS P env2 op st := by
 cases op
 case build T ps =>
  simp only [opS]
  rw [svParts_congr (env := env) (env2 := env2) fun x hx => h x.2 (by simp only [Op.operands]; simp only [List.mem_toArray, List.mem_map]; exact ⟨x, hx, rfl⟩)]
 case buildSlice T n ps =>
  simp only [opS]
  rw [svParts_congr (env := env) (env2 := env2) fun x hx => h x.2 (by simp only [Op.operands]; simp only [List.mem_toArray, List.mem_map]; exact ⟨x, hx, rfl⟩)]
 case makeFunc f xs ys =>
  simp only [opS]
  rw [svOps_congr (env := env) (env2 := env2) (l := xs.toList) fun x hx => h x (by simp only [Op.operands, Array.mem_append]; exact .inl (Array.mem_toList_iff.1 hx)),
   svOps_congr (env := env) (env2 := env2) (l := ys.toList) fun x hx => h x (by simp only [Op.operands, Array.mem_append]; exact .inr (Array.mem_toList_iff.1 hx))]
 case slice T x lo hi mx =>
  simp only [opS]
  have e1 := h x (by simp [Op.operands])
  rw [e1, optMap_congr (o := lo) fun y hy => h y (by simp only [Op.operands, Array.mem_append]; exact .inl (.inl (.inr hy))),
   optMap_congr (o := hi) fun y hy => h y (by simp only [Op.operands, Array.mem_append]; exact .inl (.inr hy)),
   optMap_congr (o := mx) fun y hy => h y (by simp only [Op.operands, Array.mem_append]; exact .inr hy)]
 all_goals
  simp only [opS]
  try rfl
  try simp only [Op.operands, List.mem_toArray, List.mem_cons, List.not_mem_nil, or_false, forall_eq_or_imp, forall_eq] at h
  try simp only [h]
theorem exO_congr {o : Oper} (h : ∀ x ∈ o.op.operands, svOp env x = svOp env2 x) : exO P sm rec env o st = exO P sm rec env2 o st := by
 obtain ⟨dst, op, ty, pos, af, g⟩ := o
 cases op with
 | call c =>
  obtain ⟨callee, args, ats⟩ := c
  have ha : svOps env args.toList = svOps env2 args.toList := svOps_congr fun x hx => h x (by
   simp only [Op.operands, Call.operands, Array.mem_append]; exact .inr (Array.mem_toList_iff.1 hx))
  cases callee with
  | builtin b => simp only [exO]; rw [ha]
  | value f =>
   have hf := h f (by simp [Op.operands, Call.operands])
   simp only [exO]
   rw [ha, hf]
  | invoke r n => rfl
 | next x s =>
  cases s with
  | true => rfl
  | false => simp only [exO]; rw [h x (by simp [Op.operands])]
 | _ => simp only [exO]; rw [opS_congr h]
theorem look_op {ops : Array Oper} {o : Oper} (h : ∀ d ∈ o.looksAt ops, env.get d = env2.get d) : ∀ x ∈ o.op.operands, svOp env x = svOp env2 x := by
 intro x hx
 cases x with
 | tmp t =>
  have : t ∈ o.looksAt ops := by
   unfold Oper.looksAt
   rw [List.mem_append]
   left
   rw [List.mem_filterMap]
   exact ⟨.tmp t, Array.mem_toList_iff.2 hx, rfl⟩
  simp only [svOp, h t this]
 | const v => rfl
 | global g => rfl
 | func f => rfl
theorem wantS_congr {l : List Oper} {o : Oper} (h : ∀ d ∈ o.looksAt l.toArray, env.get d = env2.get d) : wantS l env o = wantS l env2 o := by
 unfold wantS
 cases hg : o.guard with
 | none => rfl
 | some p =>
  obtain ⟨j, want⟩ := p
  simp only
  cases hn : nth l j with
  | none => rfl
  | some oj =>
   simp only
   cases hd : oj.dst with
   | none => rfl
   | some d =>
    have : d ∈ o.looksAt l.toArray := by
     unfold Oper.looksAt
     rw [List.mem_append]
     right
     rw [hg]
     rw [nth_eq] at hn
     simp [hn, hd]
    simp only [h d this]
theorem wantS_ok {l : List Oper} {o : Oper} {b : Bool} {N : Nat} {a : Act} (he : EnvR ρ N env a.tmps) (h : wantS l env o = some b) : Region.wanted o (yielded l.toArray a.tmps) = b := by
 unfold wantS at h
 unfold Region.wanted
 cases hg : o.guard with
 | none => rw [hg] at h; simp only [Option.some.injEq] at h; exact h
 | some p =>
  obtain ⟨j, want⟩ := p
  rw [hg] at h
  simp only at h ⊢
  cases hn : nth l j with
  | none => rw [hn] at h; cases h
  | some oj =>
   rw [hn] at h
   simp only at h
   cases hd : oj.dst with
   | none => rw [hd] at h; cases h
   | some d =>
    rw [hd] at h
    simp only at h
    have hr := he.2 d
    rw [nth_eq] at hn
    have hy : yielded l.toArray a.tmps j = match a.tmps.getD d undef with | .bool b => some b | _ => none := by
     unfold yielded
     rw [Array.getD_eq_getD_getElem?]
     cases ht : a.tmps[d]? with
     | none => simp [hn, hd, ht]; rfl
     | some u => cases u <;> simp [hn, hd, ht]
    rw [hy]
    cases he2 : env.get d with
    | none => rw [he2] at h; cases h
    | some s =>
     rw [he2] at h hr
     simp only [Option.getD_some] at hr
     cases s <;> simp only at h <;> try (cases h; done)
     ·rename_i v
      rw [Rel] at hr
      rw [hr]
      cases v <;> simp only [Option.some.injEq] at h <;> subst h
      case bool b' => cases b' <;> cases want <;> rfl
      all_goals rfl
     ·rename_i l'
      simp only [Option.some.injEq] at h
      subst h
      rw [Rel] at hr
      obtain ⟨us, _, hr⟩ := hr
      rw [hr]
      rfl
def PutR (N : Nat) (env : Tr SV) (dst : Option Tmp) (v : SV) (env' : Tr SV) : Prop := (∀ d, dst = some d → d < N) ∧ env' = match dst with | none => env | some d => env.set d (some v)
theorem putK_some {β : Type} {N : Nat} {d : Option Tmp} {v : SV} {k : Tr SV → Option β} {r : β} (h : putK N env d v k = some r) : ∃ env', PutR N env d v env' ∧ k env' = some r := by
 unfold putK at h
 cases d with
 | none => exact ⟨env, ⟨(fun d hd => by cases hd), rfl⟩, h⟩
 | some d =>
  simp only at h
  have hb := (bif_of h).1
  replace h := (bif_of h).2
  rw [Tr.setK_eq] at h
  exact ⟨_, ⟨fun d' hd => by cases hd; exact Nat.blt_eq.mp hb, rfl⟩, h⟩
theorem PutR.envR {N : Nat} {d : Option Tmp} {v : SV} {env' : Tr SV} {a : Act} {u : Value} (h : PutR N env d v env') (he : EnvR ρ N env a.tmps) (hv : Rel ρ v u) : EnvR ρ N env' (a.put d u).tmps := by
 obtain ⟨h1, rfl⟩ := h
 cases d with
 | none => exact he
 | some d => exact he.put (h1 d rfl) hv
theorem PutR.other {N : Nat} {d : Option Tmp} {v : SV} {env' : Tr SV} (h : PutR N env d v env') {t : Nat} (ht : ¬ d = some t) : env'.get t = env.get t := by
 obtain ⟨h1, rfl⟩ := h
 cases d with
 | none => rfl
 | some d => show (env.set d (some v)).get t = _; rw [Tr.get_set, if_neg (fun e => ht (by rw [e]))]
theorem PutR.at {N : Nat} {d : Nat} {v : SV} {env' : Tr SV} (h : PutR N env (some d) v env') : env'.get d = some v := by
 obtain ⟨h1, rfl⟩ := h
 show (env.set d (some v)).get d = _
 rw [Tr.get_set, if_pos rfl]
structure StepR (P : Program) (sm : Sums) (rec : Rec) (N : Nat) (ops : List Oper) (o : Oper) (E : Tr SV) (H : Tr SO) (X : Nat) (T : Tc) (E' : Tr SV) (H' : Tr SO) (X' : Nat) : Prop where
 a : T.a = X
 b : T.b = X'
 le : X ≤ X'
 wr : ∀ x ∈ T.W, x ∈ T.R
 wl : ∀ x ∈ T.W, x < X
 q : T.q = true → T.W = [] ∧ X' = X
 out : ∀ x, ¬ (x ∈ T.W ∨ (X ≤ x ∧ x < X')) → H'.get x = H.get x
 eo : ∀ t, ¬ o.dst = some t → E'.get t = E.get t
 is : (wantS ops E o = some false ∧ T.W = [] ∧ X' = X ∧ PutR N E o.dst (.raw undef) E') ∨
  (wantS ops E o = some true ∧ ∃ v hq b, exO P sm rec E o ⟨H, X, X, [], []⟩ = some [(v, ⟨hq, X', b, T.R, T.W⟩)] ∧ (∀ x, (x ∈ T.W ∨ (X ≤ x ∧ x < X')) → H'.get x = hq.get x) ∧ PutR N E o.dst v E')
theorem mrgK_some {β : Type} {h' : Tr SO} : ∀ {l : List Nat} {h : Tr SO} {k : Tr SO → Option β} {r : β}, mrgK h' l h k = some r → ∃ h2, k h2 = some r ∧ (∀ x ∈ l, h2.get x = h'.get x) ∧ ∀ x, x ∉ l → h2.get x = h.get x
 | [], h, k, r, hh => ⟨h, hh, (fun x hx => by cases hx), fun _ _ => rfl⟩
 | y :: l, h, k, r, hh => by
  have hh : mrgK h' l (h.set y (h'.get y)) k = some r := by
   simp only [mrgK] at hh
   split at hh
   ·rename_i o ho; rw [Tr.setK_eq] at hh; rw [ho]; exact hh
   ·rename_i ho; rw [Tr.setK_eq] at hh; rw [ho]; exact hh
  obtain ⟨h2, e1, e2, e3⟩ := mrgK_some hh
  refine ⟨h2, e1, fun x hx => ?_, fun x hx => ?_⟩
  ·by_cases hl : x ∈ l
   ·exact e2 x hl
   ·rcases List.mem_cons.1 hx with rfl | hx
    ·rw [e3 x hl, Tr.get_set, if_pos rfl]
    ·exact absurd hx hl
  ·rw [List.mem_cons, not_or] at hx
   rw [e3 x hx.2, Tr.get_set, if_neg hx.1]
theorem rngK_some {β : Type} {h' : Tr SO} : ∀ {n y : Nat} {h : Tr SO} {k : Tr SO → Option β} {r : β}, rngK h' n y h k = some r → ∃ h2, k h2 = some r ∧ (∀ x, y ≤ x → x < y + n → h2.get x = h'.get x) ∧ ∀ x, ¬ (y ≤ x ∧ x < y + n) → h2.get x = h.get x
 | 0, y, h, k, r, hh => ⟨h, hh, fun x h1 h2 => by omega, fun _ _ => rfl⟩
 | n + 1, y, h, k, r, hh => by
  have hh : rngK h' n (y + 1) (h.set y (h'.get y)) k = some r := by
   simp only [rngK] at hh
   split at hh
   ·rename_i o ho; rw [Tr.setK_eq, natK_eq] at hh; rw [ho]; exact hh
   ·rename_i ho; rw [Tr.setK_eq, natK_eq] at hh; rw [ho]; exact hh
  obtain ⟨h2, e1, e2, e3⟩ := rngK_some hh
  refine ⟨h2, e1, fun x h3 h4 => ?_, fun x hx => ?_⟩
  ·by_cases e : x = y
   ·subst e; rw [e3 x (by omega), Tr.get_set, if_pos rfl]
   ·exact e2 x (by omega) (by omega)
  ·rw [e3 x (by omega), Tr.get_set, if_neg (by omega)]
theorem okW_ok {nx : Nat} {R : List Nat} : ∀ {l : List Nat}, okW nx R l = true → ∀ x ∈ l, x < nx ∧ x ∈ R
 | [], _, x, hx => by cases hx
 | y :: l, h, x, hx => by
  simp only [okW] at h
  cases h1 : Nat.blt y nx with
  | false => rw [h1] at h; cases h
  | true =>
   rw [h1, cond_true] at h
   cases h2 : memb y R with
   | false => rw [h2] at h; cases h
   | true =>
    rw [h2, cond_true] at h
    rcases List.mem_cons.1 hx with rfl | hx
    ·exact ⟨Nat.blt_eq.mp h1, memb_mem h2⟩
    ·exact okW_ok h x hx
theorem quietB_ok {W : List Nat} {a b : Nat} (h : quietB W a b = true) : W = [] ∧ b = a := by
 cases W with
 | nil => exact ⟨rfl, (Nat.eq_of_beq_eq_true h).symm⟩
 | cons x r => cases h
theorem exR_seq {N : Nat} {ops : List Oper} : ∀ {l : List Oper} {env : Tr SV} {h : Tr SO} {nx : Nat} {acc : List Tc} {env' : Tr SV} {h' : Tr SO} {nx' : Nat} {acc' : List Tc}, exR P sm rec N ops l env h nx acc = some (env', h', nx', acc') →
 ∃ (E : Nat → Tr SV) (H : Nat → Tr SO) (X : Nat → Nat) (T : Nat → Tc), E 0 = env ∧ H 0 = h ∧ X 0 = nx ∧ E l.length = env' ∧ H l.length = h' ∧ X l.length = nx' ∧ acc' = ((List.range l.length).map T).reverse ++ acc ∧
  ∀ (i : Nat) (o : Oper), l[i]? = some o → StepR P sm rec N ops o (E i) (H i) (X i) (T i) (E (i + 1)) (H (i + 1)) (X (i + 1))
 | [], env, h, nx, acc, env', h', nx', acc', hh => by
  simp only [exR, Option.some.injEq, Prod.mk.injEq] at hh
  obtain ⟨rfl, rfl, rfl, rfl⟩ := hh
  exact ⟨fun _ => env, fun _ => h, fun _ => nx, fun _ => ⟨[], [], 0, 0, true⟩, rfl, rfl, rfl, rfl, rfl, rfl, by simp, fun i o hi => by simp at hi⟩
 | o :: r, env, h, nx, acc, env', h', nx', acc', hh => by
  have key : ∃ env1 h1 nx1 t, StepR P sm rec N ops o env h nx t env1 h1 nx1 ∧ exR P sm rec N ops r env1 h1 nx1 (t :: acc) = some (env', h', nx', acc') := by
   simp only [exR] at hh
   split at hh
   ·rename_i hw
    split at hh
    ·rename_i v st2 he
     obtain ⟨hq, nq, b, R, W⟩ := st2
     simp only [endK] at hh
     cases hqt : quietB W nx nq with
     | true =>
      rw [hqt, cond_true] at hh
      obtain ⟨env1, p1, hh⟩ := putK_some hh
      obtain ⟨rfl, rfl⟩ := quietB_ok hqt
      exact ⟨env1, h, nq, _, ⟨rfl, rfl, Nat.le_refl _, (fun x hx => by cases hx), (fun x hx => by cases hx), fun _ => ⟨rfl, rfl⟩, fun _ _ => rfl, fun t ht => p1.other ht, .inr ⟨hw, v, hq, b, he, (fun x hx => by rcases hx with q | q; cases q; omega), p1⟩⟩, hh⟩
     | false =>
      rw [hqt, cond_false] at hh
      have hle := Nat.ble_eq.mp (bif_of hh).1
      replace hh := (bif_of hh).2
      have hok := okW_ok (bif_of hh).1
      replace hh := (bif_of hh).2
      obtain ⟨h1, hh, e1, e2⟩ := mrgK_some hh
      obtain ⟨h2, hh, e3, e4⟩ := rngK_some hh
      obtain ⟨env1, p1, hh⟩ := putK_some hh
      refine ⟨env1, h2, nq, _, ⟨rfl, rfl, hle, fun x hx => (hok x hx).2, fun x hx => (hok x hx).1, (fun q => by cases q), fun x hx => ?_, fun t ht => p1.other ht, .inr ⟨hw, v, hq, b, he, fun x hx => ?_, p1⟩⟩, hh⟩
      ·rw [not_or] at hx
       rw [e4 x (by omega), e2 x hx.1]
      ·by_cases hr : nx ≤ x ∧ x < nq
       ·exact e3 x hr.1 (by omega)
       ·rw [e4 x (by omega)]; exact e1 x (hx.resolve_right hr)
    ·cases hh
   ·rename_i hw
    obtain ⟨env1, p1, hh⟩ := putK_some hh
    exact ⟨env1, h, nx, _, ⟨rfl, rfl, Nat.le_refl _, (fun x hx => by cases hx), (fun x hx => by cases hx), fun _ => ⟨rfl, rfl⟩, fun _ _ => rfl, fun t ht => p1.other ht, .inl ⟨hw, rfl, rfl, p1⟩⟩, hh⟩
   ·cases hh
  obtain ⟨env1, h1, nx1, t, s1, hh⟩ := key
  obtain ⟨E, H, X, T, a1, a2, a3, a4, a5, a6, a7, a8⟩ := exR_seq hh
  refine ⟨fun i => match i with | 0 => env | i + 1 => E i, fun i => match i with | 0 => h | i + 1 => H i, fun i => match i with | 0 => nx | i + 1 => X i, fun i => match i with | 0 => t | i + 1 => T i, rfl, rfl, rfl, a4, a5, a6, ?_, ?_⟩
  ·rw [a7, List.length_cons, List.range_succ_eq_map, List.map_cons, List.map_map, List.reverse_cons, List.append_assoc]
   rfl
  ·intro i o' hi
   cases i with
   | zero =>
    simp only [List.getElem?_cons_zero, Option.some.injEq] at hi
    subst hi
    show StepR P sm rec N ops o env h nx t (E 0) (H 0) (X 0)
    rw [a1, a2, a3]; exact s1
   | succ i =>
    simp only [List.getElem?_cons_succ] at hi
    exact a8 i o' hi
end
end Go.TX
namespace Go.TX
open Go Go.TH
noncomputable section
variable {P : Program} {sm : Sums} {rec : Rec}
def OpOK (P : Program) (F : Fence) (N : Nat) (o : Oper) (env : Tr SV) (st : St) (L : List (SV × St)) : Prop :=
  ∀ (ρ : Ren) (D : Nat → Prop) (w : World) (a : Act) (K : Act → World → Prop) (Q : Exit → Act → World → Prop), EnvR ρ N env a.tmps → Sim ρ D st w → (∀ p ∈ L, ∀ x, x ∈ p.2.R ∨ st.base ≤ x → D x) → (∀ p ∈ L, Free ρ st.nx p.2.nx) →
    (∀ p ∈ L, ∀ u w' ρ', Rel ρ' p.1 u → Step ρ ρ' D st p.2 w w' → K (a.put o.dst u) w') → o.wpIn F 0 P a w K Q
structure DInv (l : List Oper) (E : Nat → Tr SV) (H : Nat → Tr SO) (X : Nat → Nat) (T : Nat → Tc) (N : Nat) (ρ0 : Ren) (D : Nat → Prop) (st : St) (Rf Wf : List Nat) (w0 : World) (a0 : Act) (S : Nat → Prop) (a : Act) (w : World) : Prop where
  is : ∃ (ρ : Ren) (M : Tr SO) (B : Tr SV), (∀ x, M.get x = cur (fun i => (H i).get) (fun i x => x ∈ (T i).W ∨ (X i ≤ x ∧ x < X (i + 1))) S l.length x) ∧
    (∀ t, B.get t = cur (fun i => (E i).get) (fun i t => (l[i]?).bind (·.dst) = some t) S l.length t) ∧ EnvR ρ N B a.tmps ∧ a.defers = a0.defers ∧
    Step ρ0 ρ D st ⟨M, X l.length, st.base, Rf, Wf⟩ w0 w ∧ ∀ i, i < l.length → ¬ S i → ∀ x, X i ≤ x → x < X (i + 1) → ρ x = none
theorem mono_nat {X : Nat → Nat} {n : Nat} (h : ∀ i, i < n → X i ≤ X (i + 1)) : ∀ {i j : Nat}, i ≤ j → j ≤ n → X i ≤ X j := by
  intro i j hij hj
  induction j with
  | zero => have : i = 0 := by omega
            rw [this]; exact Nat.le_refl _
  | succ j ih =>
    by_cases e : i = j + 1
    · rw [e]; exact Nat.le_refl _
    · exact Nat.le_trans (ih (by omega) (by omega)) (h j (by omega))
theorem exD_ok {F : Fence} (hFn : ∀ f, F.fn f) (hm : P.follows .mixedOrders = true) {N id : Nat} {ops : Array Oper} {env env' : Tr SV} {st st' : St}
    (hO : ∀ o env st L, exO P sm rec env o st = some L → OpOK P F N o env st L) (h : exD P sm rec N ops env st = some (env', st'))
    {ρ0 : Ren} {D : Nat → Prop} {w0 : World} {a0 : Act} (he : EnvR ρ0 N env a0.tmps) (hs : Sim ρ0 D st w0) (hD : ∀ x, x ∈ st'.R ∨ st.base ≤ x → D x) (hf : Free ρ0 st.nx st'.nx) :
    (Code.region id ops true).wpIn F 0 P (fun e a' w' => e = .normal ∧ ∃ ρ', a'.defers = a0.defers ∧ EnvR ρ' N env' a'.tmps ∧ Step ρ0 ρ' D st st' w0 w') a0 w0 := by
  obtain ⟨l⟩ := ops
  obtain ⟨h0, nx0, bs, R0, W0⟩ := st
  simp only [exD] at h
  have hstat := (bif_of h).1
  replace h := (bif_of h).2
  split at h
  case h_2 => cases h
  rename_i envE hE nxE ts hR
  have hsep := (bif_of h).1
  replace h := (bif_of h).2
  obtain ⟨Rf, Wf, ht, hRf0, hWf0, htold⟩ := tellK_eq (b := bs) (ts := ts) (R := R0) (W := W0) (k := fun R' W' => some (envE, (⟨hE, nxE, bs, R', W'⟩ : St)))
  rw [ht] at h
  simp only [Option.some.injEq, Prod.mk.injEq] at h
  obtain ⟨rfl, rfl⟩ := h
  obtain ⟨E, H, X, T, hE0, hH0, hX0, hEn, hHn, hXn, hts, hst⟩ := exR_seq hR
  have hXs : ∀ i, i < l.length → X i ≤ X (i + 1) := fun i hi => (hst i l[i] (by simp [hi])).le
  have hXm : ∀ {i j : Nat}, i ≤ j → j ≤ l.length → X i ≤ X j := fun {i j} => mono_nat hXs
  simp only [statD, Bool.and_eq_true] at hstat
  obtain ⟨hback, hap⟩ := hstat
  rw [afsAll_eq] at hback
  have hback : ∀ (i : Nat) (af : List Nat), (l.map afsL)[i]? = some af → ∀ j ∈ af, j < i := fun i af hi j hj => by have := backAll_ok hback i af hi j hj; omega
  have hmk : Masks (l.map afsL) (cloO l) ∧ (cloO l).length = l.length := by
    have := cloB_ok hback (l.map afsL) [] rfl (fun k m hk => by simp at hk)
    rw [cloO, afsAll_eq]
    simpa using this
  have hafl : ∀ (i : Nat) (o : Oper), l[i]? = some o → (l.map afsL)[i]? = some (afsL o) := fun i o hi => by simp [hi]
  have hlt1 : ∀ (i : Nat) (o : Oper), l[i]? = some o → ∀ j ∈ afsL o, j < i := fun i o hi j hj => hback i _ (hafl i o hi) j hj
  let Cl : (Nat → Prop) → Prop := fun S => ∀ i o, l[i]? = some o → S i → ∀ j ∈ afsL o, S j
  have hpair : ∀ (S : Nat → Prop), Cl S → ∀ (i j : Nat) (o : Oper), i < j → l[j]? = some o → (∀ k ∈ afsL o, S k) → (S i ∨ (∃ t, l[i]? = some t ∧ t.apart l.toArray o = true)) ∧ (S i ∨ sepT (T i) (T j) = true ∨ ((T i).q = true ∧ (T j).q = true)) := by
    intro S hS i j o hij hj haf
    have hjl := (List.getElem?_eq_some_iff.1 hj).1
    have hm0 : j < (cloO l).length := by rw [hmk.2]; exact hjl
    have hmj : (cloO l)[(cloO l).length - 1 - j]? = some ((cloO l)[(cloO l).length - 1 - j]'(by omega)) := by simp
    have hgood : ∀ i, bitB ((cloO l)[(cloO l).length - 1 - j]'(by omega)) i = true → S i := hmk.1 j _ hm0 hmj S (fun i af hi hSi k hk => by
      rw [List.getElem?_map] at hi
      cases hl : l[i]? with
      | none => rw [hl] at hi; cases hi
      | some o' =>
        rw [hl] at hi
        simp only [Option.map_some, Option.some.injEq] at hi
        subst hi
        exact hS i o' hl hSi k hk) (fun af hi k hk => by
      rw [hafl j o hj] at hi
      simp only [Option.some.injEq] at hi
      subst hi
      exact haf k hk)
    constructor
    · rw [revK_eq, List.append_nil] at hap
      have hil : i < l.length := by omega
      have e1 : l.reverse[l.reverse.length - 1 - i]? = some l[i] := by
        rw [List.getElem?_reverse (by simp; omega)]
        simp only [List.length_reverse]
        have : l.length - 1 - (l.length - 1 - i) = i := by omega
        rw [this]; simp [hil]
      have e2 : l.reverse[l.reverse.length - 1 - j]? = some o := by
        rw [List.getElem?_reverse (by simp; omega)]
        simp only [List.length_reverse]
        have : l.length - 1 - (l.length - 1 - j) = j := by omega
        rw [this]; exact hj
      rcases apAll_ok (by rw [List.length_reverse, hmk.2]) hap i j l[i] o _ hij (by simpa using hjl) e1 e2 hmj with q | q
      · exact .inl (hgood i q)
      · exact .inr ⟨l[i], by simp [hil], q⟩
    · have htl : ts.length = l.length := by rw [hts]; simp
      have hget : ∀ k, k < l.length → ts[ts.length - 1 - k]? = some (T k) := by
        intro k hk
        rw [htl, hts, List.append_nil, List.getElem?_reverse (by simp; omega)]
        simp only [List.length_map, List.length_range]
        have : l.length - 1 - (l.length - 1 - k) = k := by omega
        rw [this]; simp [hk]
      rw [Bool.or_eq_true] at hsep
      rcases hsep with hq | hq
      · have := allQ_ok hq
        refine .inr (.inr ⟨this _ (List.mem_of_getElem? (hget i (by omega))), this _ (List.mem_of_getElem? (hget j hjl))⟩)
      · rcases sepAll_ok (by rw [htl, hmk.2]) hq i j (T i) (T j) _ hij (by omega) (hget i (by omega)) (hget j hjl) hmj with q | q
        · exact .inl (hgood i q)
        · exact .inr (.inl q)
  have hTR : ∀ i, i < l.length → (∀ x ∈ (T i).R, x ∈ Rf ∨ bs ≤ x) ∧ ∀ x ∈ (T i).W, x ∈ Wf ∨ bs ≤ x := by
    intro i hi
    exact htold (T i) (by rw [hts]; simp; exact ⟨i, hi, rfl⟩)
  let tH : Nat → Nat → Prop := fun i x => x ∈ (T i).W ∨ (X i ≤ x ∧ x < X (i + 1))
  let tE : Nat → Nat → Prop := fun i t => (l[i]?).bind (·.dst) = some t
  have hoH : ∀ i, i < l.length → ∀ x, ¬ tH i x → (H (i + 1)).get x = (H i).get x := fun i hi x hx => (hst i l[i] (by simp [hi])).out x hx
  have hoE : ∀ i, i < l.length → ∀ t, ¬ tE i t → (E (i + 1)).get t = (E i).get t := fun i hi t ht => (hst i l[i] (by simp [hi])).eo t (fun q => ht (by simp [tE, hi, q]))
  have hHl : ∀ i, i ≤ l.length → ∀ x, (H i).get x ≠ none → x < X i := by
    intro i
    induction i with
    | zero => intro _ x hx; rw [hH0] at hx; rw [hX0]; exact hs.lt x hx
    | succ i ih =>
      intro hi x hx
      by_cases ht : tH i x
      · rcases ht with q | q
        · have := (hst i l[i] (by simp)).wl x q
          have := hXs i (by omega)
          omega
        · exact q.2
      · rw [hoH i (by omega) x ht] at hx
        have := ih (by omega) x hx
        have := hXs i (by omega)
        omega
  have hsepq : ∀ {i j : Nat}, i < l.length → j < l.length → (sepT (T i) (T j) = true ∨ ((T i).q = true ∧ (T j).q = true)) → ((T i).W = [] ∧ X (i + 1) = X i ∧ (T j).W = [] ∧ X (j + 1) = X j) ∨ ((∀ x ∈ (T i).W, x ∉ (T j).R) ∧ (∀ x ∈ (T i).W, x ∉ (T j).W) ∧ (∀ x ∈ (T i).R, x ∉ (T j).W) ∧ ∀ x ∈ (T j).R, ¬ (X i ≤ x ∧ x < X (i + 1))) := by
    intro i j hi hj h
    have si := hst i l[i] (by simp [hi])
    have sj := hst j l[j] (by simp [hj])
    have hq : ((T i).q = true ∧ (T j).q = true) → (T i).W = [] ∧ X (i + 1) = X i ∧ (T j).W = [] ∧ X (j + 1) = X j := fun q => ⟨(si.q q.1).1, (si.q q.1).2, (sj.q q.2).1, (sj.q q.2).2⟩
    rcases h with h | h
    · rcases sepT_ok h with q | ⟨q1, q2, q3, q4⟩
      · exact .inl (hq q)
      · rw [si.a, si.b] at q4
        exact .inr ⟨q1, q2, q3, q4⟩
    · exact .inl (hq h)
  let S : Array Bool → Nat → Prop := fun ls i => i < l.length ∧ ls.getD i true = true
  refine wpIn_region_any hm ?_
  have main : ∀ (fuel : Nat) (ls : Array Bool) (a : Act) (w : World), ls.size = l.length → ls.toList.count false ≤ fuel → Cl (S ls) → DInv l E H X T N ρ0 D ⟨h0, nx0, bs, R0, W0⟩ Rf Wf w0 a0 (S ls) a w →
      wpAnyIn F 0 P .any l.toArray (fun e a' w' => e = .normal ∧ ∃ ρ', a'.defers = a0.defers ∧ EnvR ρ' N envE a'.tmps ∧ Step ρ0 ρ' D ⟨h0, nx0, bs, R0, W0⟩ ⟨hE, nxE, bs, Rf, Wf⟩ w0 w') fuel ls a w := by
    intro fuel
    have allDone : ∀ (ls : Array Bool), ls.size = l.length → Region.ready .any l.toArray ls = [] → ∀ i, i < l.length → ls.getD i true = true := by
      intro ls hsz hr i
      induction i using Nat.strongRecOn with
      | _ i ih =>
        intro hi
        cases hg : ls.getD i true with
        | true => rfl
        | false =>
          exfalso
          have : i ∈ Region.ready .any l.toArray ls := by
            refine mem_ready.2 ⟨hg, l[i], by simp [hi], fun e he hb => ?_⟩
            have hlt : e.on < i := hlt1 i l[i] (by simp [hi]) _ (mem_afsL.2 ⟨e, by simpa using he, hb, rfl⟩)
            have := ih e.on hlt (by omega)
            have hs' : e.on < ls.size := by omega
            simp only [Array.getD_eq_getD_getElem?, Array.getElem?_eq_getElem hs', Option.getD_some] at this ⊢
            exact this
          rw [hr] at this
          cases this
    have finish : ∀ (ls : Array Bool) a w, ls.size = l.length → Region.ready .any l.toArray ls = [] → DInv l E H X T N ρ0 D ⟨h0, nx0, bs, R0, W0⟩ Rf Wf w0 a0 (S ls) a w →
        (Exit.normal = Exit.normal ∧ ∃ ρ', a.defers = a0.defers ∧ EnvR ρ' N envE a.tmps ∧ Step ρ0 ρ' D ⟨h0, nx0, bs, R0, W0⟩ ⟨hE, nxE, bs, Rf, Wf⟩ w0 w) := by
      intro ls a w hsz hr ⟨ρ, M, B, e1, e2, e3, e4, e5, _⟩
      have hall := allDone ls hsz hr
      have hM : ∀ x, M.get x = hE.get x := fun x => by
        rw [e1 x, ← hHn]
        exact cur_at (fun i => (H i).get) tH (S ls) hoH (Nat.le_refl _) fun i hi _ => ⟨hi, hall i hi⟩
      have hB : ∀ t, B.get t = envE.get t := fun t => by
        rw [e2 t, ← hEn]
        exact cur_at (fun i => (E i).get) tE (S ls) hoE (Nat.le_refl _) fun i hi _ => ⟨hi, hall i hi⟩
      refine ⟨rfl, ρ, e4, ⟨e3.1, fun t => by rw [← hB t]; exact e3.2 t⟩, ?_⟩
      rw [hXn] at e5
      refine ⟨e5.os, e5.tape, e5.output, e5.size, e5.nx, rfl, e5.sR, e5.sW, e5.ext, e5.keep, fun x hx hn => ?_, fun x hx => ?_, fun x b s hx hg hr => ?_, ⟨fun x o d g => ?_, fun x y b s s' d d' g g' => ?_, fun x g => ?_⟩⟩
      · show hE.get x = none; rw [← hM x]; exact e5.dead x hx hn
      · rcases e5.same x hx with q | q
        · exact .inl q
        · right; show hE.get x = _; rw [← hM x]; exact q
      · have hg : hE.get x ≠ none := hg
        rw [← hM x] at hg
        rcases e5.fresh x b s hx hg hr with q | ⟨z, s', q1, q2, q3, q4, q5, q6⟩
        · exact .inl q
        · exact .inr ⟨z, s', q1, q2, q3, q4, by show hE.get z = none; rw [← hM z]; exact q5, q6⟩
      · have g : hE.get x = some o := g
        rw [← hM x] at g
        exact e5.sim.live x o d g
      · have g : hE.get x ≠ none := g
        have g' : hE.get y ≠ none := g'
        rw [← hM x] at g
        rw [← hM y] at g'
        exact e5.sim.inj x y b s s' d d' g g'
      · have g : hE.get x ≠ none := g
        rw [← hM x] at g
        exact e5.sim.lt x g
    induction fuel with
    | zero =>
      intro ls a w hsz hcnt hcl hS
      have hr : Region.ready .any l.toArray ls = [] := by
        cases hr : Region.ready .any l.toArray ls with
        | nil => rfl
        | cons i r =>
          have hi : i ∈ Region.ready .any l.toArray ls := by rw [hr]; simp
          obtain ⟨h1, o, h2, _⟩ := mem_ready.1 hi
          have hlt : i < ls.size := by
            rw [hsz]; have := (Array.getElem?_eq_some_iff.1 h2).1; simpa using this
          have : false ∈ ls.toList := by
            have e : ls[i]? = some false := by
              simp only [Array.getD_eq_getD_getElem?, Array.getElem?_eq_getElem hlt, Option.getD_some] at h1
              rw [Array.getElem?_eq_getElem hlt, h1]
            exact Array.mem_toList_iff.2 (Array.mem_of_getElem? e)
          have := List.count_pos_iff.2 this
          omega
      exact ⟨hr, finish ls a w hsz hr hS⟩
    | succ fuel ih =>
      intro ls a w hsz hcnt hcl hS
      refine ⟨fun hr => finish ls a w hsz hr hS, fun i hi => ?_⟩
      obtain ⟨h1, o, ho, haf⟩ := mem_ready.1 hi
      have ho' : l[i]? = some o := by simpa using ho
      have hil : i < l.length := (List.getElem?_eq_some_iff.1 ho').1
      have his : i < ls.size := by omega
      have hcnt' : (ls.setIfInBounds i true).toList.count false ≤ fuel := by
        have e : ls.toList[i]? = some false := by
          simp only [Array.getD_eq_getD_getElem?, Array.getElem?_eq_getElem his, Option.getD_some] at h1
          simp [his, h1]
        have := count_set ls.toList i e
        rw [Array.toList_setIfInBounds]
        omega
      have hsz' : (ls.setIfInBounds i true).size = l.length := by simp [hsz]
      have hbefore : ∀ j, j ∈ afsL o → S ls j := by
        intro j hj
        have hjl := hlt1 i o ho' j hj
        obtain ⟨e, he, hb, rfl⟩ := mem_afsL.1 hj
        have hh := haf e (by simpa using he) hb
        have hlt : e.on < ls.size := by omega
        refine ⟨by omega, ?_⟩
        simp only [Array.getD_eq_getD_getElem?, Array.getElem?_eq_getElem hlt, Option.getD_some] at hh ⊢
        exact hh
      have hni : ¬ S ls i := fun q => by have := q.2; rw [h1] at this; cases this
      have hS' : ∀ j, S (ls.setIfInBounds i true) j ↔ (S ls j ∨ j = i) := by
        intro j
        simp only [S]
        rw [getD_set ls i j his]
        by_cases e : i = j
        · subst e; simp [hil]
        · have : (i == j) = false := by simp [e]
          rw [this]; simp; omega
      have hcl' : Cl (S (ls.setIfInBounds i true)) := by
        intro i' o' ho2 hl' j hj
        rw [hS'] at hl' ⊢
        rcases hl' with q | rfl
        · exact .inl (hcl i' o' ho2 q j hj)
        · rw [ho'] at ho2
          obtain rfl : o = o' := by simpa using ho2
          exact .inl (hbefore j hj)
      have hsti := hst i o ho'
      obtain ⟨ρ, M, B, e1, e2, e3, e4, e5, e6⟩ := hS
      have hbe : ∀ j, j < i → (S ls j ∨ ∃ t, l[j]? = some t ∧ t.apart l.toArray o = true) ∧ (S ls j ∨ sepT (T j) (T i) = true ∨ ((T j).q = true ∧ (T i).q = true)) := fun j hj => hpair (S ls) hcl j i o hj ho' hbefore
      have haft : ∀ j, i < j → j < l.length → S ls j → (∃ t, l[j]? = some t ∧ o.apart l.toArray t = true) ∧ (sepT (T i) (T j) = true ∨ ((T i).q = true ∧ (T j).q = true)) := by
        intro j hij hj hSj
        obtain ⟨q1, q2⟩ := hpair (S ls) hcl i j l[j] hij (by simp [hj]) (fun k hk => hcl j l[j] (by simp [hj]) hSj k hk)
        refine ⟨?_, q2.resolve_left hni⟩
        obtain ⟨t, ht, q⟩ := q1.resolve_left hni
        rw [ho'] at ht
        simp only [Option.some.injEq] at ht
        subst ht
        exact ⟨l[j], by simp [hj], q⟩
      have hRt : ∀ x ∈ (T i).R, x < X i → M.get x = (H i).get x := by
        intro x hx hxl
        rw [e1 x]
        refine cur_is (fun i => (H i).get) tH (S ls) hoH (by omega) ?_ ?_
        · intro j hj htj
          rcases (hbe j hj).2 with q | q
          · exact q
          · rcases hsepq (by omega) hil q with ⟨q1, q2, _⟩ | ⟨q1, q2, q3, q4⟩
            · rcases htj with r | r
              · rw [q1] at r; cases r
              · omega
            · rcases htj with r | r
              · exact absurd hx (q1 x r)
              · exact absurd r (q4 x hx)
        · intro j hj hjl hSj htj
          by_cases e : j = i
          · subst e; exact hni hSj
          · have hm2 : X (i + 1) ≤ X j := hXm (by omega) (by omega)
            have hm3 := hXs i hil
            rcases hsepq hil hjl (haft j (by omega) hjl hSj).2 with ⟨_, _, q1, q2⟩ | ⟨q1, q2, q3, q4⟩
            · rcases htj with r | r
              · rw [q1] at r; cases r
              · omega
            · rcases htj with r | r
              · exact absurd r (q3 x hx)
              · omega
      have hBt : ∀ t ∈ o.looksAt l.toArray, B.get t = (E i).get t := by
        intro t ht
        rw [e2 t]
        refine cur_is (fun i => (E i).get) tE (S ls) hoE (by omega) ?_ ?_
        · intro j hj htj
          rcases (hbe j hj).1 with q | ⟨u, hu, q⟩
          · exact q
          · simp only [tE, hu, Option.bind_some] at htj
            exact absurd ht ((Oper.apart_spec q).1 t htj)
        · intro j hj hjl hSj htj
          by_cases e : j = i
          · subst e; exact hni hSj
          · obtain ⟨u, hu, q⟩ := (haft j (by omega) hjl hSj).1
            simp only [tE, hu, Option.bind_some] at htj
            exact (Oper.apart_spec q).2.2 t htj ht
      have hB' : ∀ (v : SV) (B' : Tr SV), PutR N (E i) o.dst v (E (i + 1)) → PutR N B o.dst v B' → ∀ t, B'.get t = cur (fun i => (E i).get) tE (S (ls.setIfInBounds i true)) l.length t := by
        intro v B' p1 p2 t
        by_cases htt : tE i t
        · have hd : o.dst = some t := by simpa [tE, ho'] using htt
          have e : cur (fun i => (E i).get) tE (S (ls.setIfInBounds i true)) l.length t = (E (i + 1)).get t := by
            refine cur_is (fun i => (E i).get) tE _ hoE (by omega) ?_ ?_
            · intro j hj htj
              rw [hS']
              by_cases e : j = i
              · exact .inr e
              · left
                rcases (hbe j (by omega)).1 with q | ⟨u, hu, q⟩
                · exact q
                · simp only [tE, hu, Option.bind_some] at htj
                  exact absurd hd ((Oper.apart_spec q).2.1 t htj)
            · intro j hj hjl hSj htj
              rw [hS'] at hSj
              have hSj := hSj.resolve_right (by omega)
              obtain ⟨u, hu, q⟩ := (haft j (by omega) hjl hSj).1
              simp only [tE, hu, Option.bind_some] at htj
              exact (Oper.apart_spec q).2.1 t hd htj
          rw [e]
          rw [hd] at p1 p2
          rw [p1.at, p2.at]
        · have hd : ¬ o.dst = some t := fun q => htt (by simp [tE, ho', q])
          rw [p2.other hd, e2 t]
          exact (cur_other (fun i => (E i).get) tE (S ls) (t := i) (S (ls.setIfInBounds i true)) (fun j hj => by rw [hS']; simp [hj]) htt l.length).symm
      have hput : ∀ (v : SV) (E2 : Tr SV), PutR N (E i) o.dst v E2 → ∃ B', PutR N B o.dst v B' := fun v E2 p => ⟨_, p.1, rfl⟩
      have hstep : ∀ (M' : Tr SO) (hq : Tr SO), (∀ x, (x ∈ (T i).W ∨ (X i ≤ x ∧ x < X (i + 1))) → (H (i + 1)).get x = hq.get x) → (∀ x, (x ∈ (T i).W ∨ (X i ≤ x ∧ x < X (i + 1))) → M'.get x = hq.get x) → (∀ x, ¬ (x ∈ (T i).W ∨ (X i ≤ x ∧ x < X (i + 1))) → M'.get x = M.get x) →
          ∀ x, M'.get x = cur (fun i => (H i).get) tH (S (ls.setIfInBounds i true)) l.length x := by
        intro M' hq g1 g2 g3 x
        by_cases htx : tH i x
        · have e : cur (fun i => (H i).get) tH (S (ls.setIfInBounds i true)) l.length x = (H (i + 1)).get x := by
            refine cur_is (fun i => (H i).get) tH _ hoH (by omega) ?_ ?_
            · intro j hj htj
              rw [hS']
              by_cases e : j = i
              · exact .inr e
              · left
                have hm1 : X (j + 1) ≤ X i := hXm (by omega) (by omega)
                have hm3 := hXs j (by omega)
                rcases htx with hx | hx
                · rcases (hbe j (by omega)).2 with q | q
                  · exact q
                  · rcases hsepq (by omega) hil q with ⟨q1, q2, q3, _⟩ | ⟨q1, q2, q3, q4⟩
                    · rw [q3] at hx; cases hx
                    · rcases htj with r | r
                      · exact absurd hx (q2 x r)
                      · exact absurd r (q4 x (hsti.wr x hx))
                · exfalso
                  rcases htj with r | r
                  · have := (hst j l[j] (by simp)).wl x r
                    omega
                  · omega
            · intro j hj hjl hSj htj
              rw [hS'] at hSj
              have hSj := hSj.resolve_right (by omega)
              have hm2 : X (i + 1) ≤ X j := hXm (by omega) (by omega)
              have hm3 := hXs i hil
              rcases hsepq hil hjl (haft j (by omega) hjl hSj).2 with ⟨q1, q2, q3, q4⟩ | ⟨q1, q2, q3, q4⟩
              · rcases htj with r | r
                · rw [q3] at r; cases r
                · omega
              · rcases htx with hx | hx
                · rcases htj with r | r
                  · exact absurd r (q2 x hx)
                  · have := hsti.wl x hx; omega
                · rcases htj with r | r
                  · exact absurd hx (q4 x ((hst j l[j] (by simp [hjl])).wr x r))
                  · omega
          rw [e, g1 x htx]
          exact g2 x htx
        · rw [g3 x htx, e1 x]
          exact (cur_other (fun i => (H i).get) tH (S ls) (t := i) (S (ls.setIfInBounds i true)) (fun j hj => by rw [hS']; simp [hj]) htx l.length).symm
      have hdfr : ∀ (u : Value), (a.put o.dst u).defers = a0.defers := fun u => by
        rw [← e4]
        cases o.dst <;> rfl
      have hfr : ∀ j, j < l.length → ¬ S (ls.setIfInBounds i true) j → ∀ x, X j ≤ x → x < X (j + 1) → ρ x = none := fun j hj hSj => e6 j hj (fun q => hSj ((hS' j).2 (.inl q)))
      simp only [wpOpIn, List.getElem?_toArray, ho']
      rcases hsti.is with ⟨hw, q1, q2, q3⟩ | ⟨hw, v, hq, b, hx, q1, q3⟩
      · have hwb : wantS l B o = some false := by rw [wantS_congr (env := B) (env2 := E i) hBt]; exact hw
        rw [if_neg (by rw [wantS_ok e3 hwb]; simp)]
        refine ⟨fun f _ => hFn f, ?_⟩
        obtain ⟨B', p⟩ := hput _ _ q3
        refine ih _ _ w hsz' hcnt' hcl' ⟨ρ, M, B', ?_, hB' _ _ q3 p, p.envR e3 (by rw [Rel]), hdfr undef, e5, hfr⟩
        have hno : ∀ x, ¬ (x ∈ (T i).W ∨ (X i ≤ x ∧ x < X (i + 1))) := fun x q => by
          rcases q with q | q
          · rw [q1] at q; cases q
          · omega
        exact hstep M M (fun x hx => absurd hx (hno x)) (fun x hx => absurd hx (hno x)) (fun _ _ => rfl)
      · have hwb : wantS l B o = some true := by rw [wantS_congr (env := B) (env2 := E i) hBt]; exact hw
        rw [if_pos (by rw [wantS_ok e3 hwb])]
        have hx' : exO P sm rec B o ⟨H i, X i, X i, [], []⟩ = some [(v, ⟨hq, X (i + 1), b, (T i).R, (T i).W⟩)] := by
          rw [exO_congr (look_op (ops := l.toArray) hBt)]; exact hx
        have hD0 : ∀ x, x ∈ Rf ∨ bs ≤ x → D x := hD
        have hRf := (hTR i hil).1
        have hWf := (hTR i hil).2
        have hHi := hHl i (by omega)
        have hsim := Step.before (x0 := X i) e5 hRt hRf hD0 hHi
        obtain ⟨B', p⟩ := hput _ _ q3
        refine hO o B _ _ hx' ρ (fun x => x ∈ (T i).R ∨ X i ≤ x) w a _ _ e3 hsim (fun p hp x hx => by rw [List.mem_singleton] at hp; subst hp; exact hx) (fun p hp x h2 h3 => by rw [List.mem_singleton] at hp; subst hp; exact e6 i hil hni x h2 h3) ?_
        intro p0 hp0 u w' ρ' hv hop
        rw [List.mem_singleton] at hp0
        subst hp0
        have hle : ρ.Le ρ' := hop.le (fun x h2 h3 => e6 i hil hni x h2 h3)
        obtain ⟨M', g2, g3⟩ : ∃ M' : Tr SO, (∀ x, (x ∈ (T i).W ∨ (X i ≤ x ∧ x < X (i + 1))) → M'.get x = hq.get x) ∧ ∀ x, ¬ (x ∈ (T i).W ∨ (X i ≤ x ∧ x < X (i + 1))) → M'.get x = M.get x := by
          have b1 : ∀ (l : List Nat) (M : Tr SO), ∃ M' : Tr SO, (∀ x ∈ l, M'.get x = hq.get x) ∧ ∀ x, x ∉ l → M'.get x = M.get x := by
            intro l
            induction l with
            | nil => exact fun M => ⟨M, (fun x hx => by cases hx), fun _ _ => rfl⟩
            | cons y l ih =>
              intro M
              obtain ⟨M', f1, f2⟩ := ih (M.set y (hq.get y))
              refine ⟨M', fun x hx => ?_, fun x hx => ?_⟩
              · by_cases hl : x ∈ l
                · exact f1 x hl
                · rcases List.mem_cons.1 hx with rfl | hx
                  · rw [f2 x hl, Tr.get_set, if_pos rfl]
                  · exact absurd hx hl
              · rw [List.mem_cons, not_or] at hx
                rw [f2 x hx.2, Tr.get_set, if_neg hx.1]
          obtain ⟨M', f1, f2⟩ := b1 ((T i).W ++ (List.range (X (i + 1) - X i)).map (X i + ·)) M
          have hmem : ∀ x, x ∈ (T i).W ++ (List.range (X (i + 1) - X i)).map (X i + ·) ↔ (x ∈ (T i).W ∨ (X i ≤ x ∧ x < X (i + 1))) := by
            intro x
            rw [List.mem_append, List.mem_map]
            constructor
            · rintro (q | ⟨k, hk, rfl⟩)
              · exact .inl q
              · rw [List.mem_range] at hk; right; omega
            · rintro (q | q)
              · exact .inl q
              · right; exact ⟨x - X i, by rw [List.mem_range]; omega, by omega⟩
          exact ⟨M', fun x hx => f1 x ((hmem x).2 hx), fun x hx => f2 x (fun q => hx ((hmem x).1 q))⟩
        refine ih _ _ w' hsz' hcnt' hcl' ⟨ρ', M', B', ?_, hB' _ _ q3 p, p.envR (e3.mono hle) hv, hdfr u, ?_, ?_⟩
        · exact hstep M' hq q1 g2 g3
        · have hx0 : nx0 ≤ X i := by rw [← hX0]; exact hXm (Nat.zero_le _) (by omega)
          have hx1 : X (i + 1) ≤ X l.length := hXm (by omega) (Nat.le_refl _)
          exact Step.behind e5 hop hx0 hx1 hRt hsti.wr hsti.wl hRf hWf hD0 (fun x h2 h3 => e6 i hil hni x h2 h3) hHi g2 g3
        · intro j hj hSj x h2 h3
          have hji : j ≠ i := fun q => hSj ((hS' j).2 (.inr q))
          have e : ρ' x = ρ x := hop.ext x (by
            show x < X i ∨ X (i + 1) ≤ x
            rcases Nat.lt_or_gt_of_ne hji with q | q
            · have := hXm (i := j + 1) (j := i) (by omega) (by omega); omega
            · have := hXm (i := i + 1) (j := j) (by omega) (by omega); omega)
          rw [e]
          exact hfr j hj hSj x h2 h3
  have hnone : ∀ i, ¬ S (Array.replicate (Array.mk l).size false) i := by
    rintro i ⟨q1, q2⟩
    simp [q1] at q2
  refine main _ _ _ _ (by simp) (by simp) ?_ ⟨ρ0, h0, env, ?_, ?_, he, rfl, ?_, ?_⟩
  · intro i o _ hi; exact absurd hi (hnone i)
  · intro x; rw [cur_none _ _ _ hnone, hH0]
  · intro t; rw [cur_none _ _ _ hnone, hE0]
  · have hle : nx0 ≤ X l.length := by rw [← hX0]; exact hXm (Nat.zero_le _) (Nat.le_refl _)
    refine ⟨rfl, rfl, rfl, Nat.le_refl _, hle, rfl, hRf0, hWf0, fun _ _ => rfl, fun _ _ => .inl rfl, fun _ _ h => h, fun _ _ => .inr rfl, fun x b s hx hg _ => absurd (hs.lt x hg) (Nat.not_lt.2 hx), ⟨fun x o d g => ?_, fun x y b s s' d d' g g' => ?_, fun x g => ?_⟩⟩
    · exact hs.live x o (d.resolve_right (by have := hs.lt x (by show h0.get x ≠ none; rw [show h0.get x = some o from g]; simp); exact Nat.not_le.2 this)) g
    · exact hs.inj x y b s s' (d.resolve_right (Nat.not_le.2 (hs.lt x g))) (d'.resolve_right (Nat.not_le.2 (hs.lt y g'))) g g'
    · have := hs.lt x g; exact Nat.lt_of_lt_of_le this hle
  · intro i hi _ x h1 h2
    refine hf x ?_ ?_
    · show nx0 ≤ x
      have := hXm (i := 0) (j := i) (by omega) (by omega)
      rw [hX0] at this; omega
    · show x < nxE
      have := hXm (i := i + 1) (j := l.length) (by omega) (Nat.le_refl _)
      rw [hXn] at this; omega
end
end Go.TX
namespace Go.TX
open Go Go.TH
noncomputable section
structure Imm (r r' : SLoop) : Prop where
 N : r'.N = r.N
 tmps : r'.tmps = r.tmps
 params : r'.params = r.params
 assign : r'.assign = r.assign
 body : r'.body = r.body
 defers : r'.defers = r.defers
def KeepL (o o' : Option SO) : Prop := (∀ r', o' = some (.loop r') → ∃ r, o = some (.loop r) ∧ Imm r r') ∧ (o = none → o' = none)
theorem KeepL.refl (o : Option SO) : KeepL o o := ⟨fun r' h => ⟨r', h, rfl, rfl, rfl, rfl, rfl, rfl⟩, fun h => h⟩
theorem KeepL.trans {o o1 o2 : Option SO} (h : KeepL o o1) (h' : KeepL o1 o2) : KeepL o o2 := by
 refine ⟨fun r2 e => ?_, fun e => h'.2 (h.2 e)⟩
 obtain ⟨r1, e1, i1⟩ := h'.1 r2 e
 obtain ⟨r, e0, i0⟩ := h.1 r1 e1
 exact ⟨r, e0, i1.N.trans i0.N, i1.tmps.trans i0.tmps, i1.params.trans i0.params, i1.assign.trans i0.assign, i1.body.trans i0.body, i1.defers.trans i0.defers⟩
structure Mono (st st' : St) : Prop where
 nx : st.nx ≤ st'.nx
 base : st'.base = st.base
 R : ∀ x, x ∈ st.R → x ∈ st'.R
 lp : ∀ x, x < st.nx → KeepL (st.h.get x) (st'.h.get x)
variable {P : Program} {T n : Nat} {ps : List (Nat × SV)} {st st' st1 : St} {v x y z : SV} {ox lo hi mx : Option SV} {ok : Bool}
theorem Mono.refl (st : St) : Mono st st := ⟨Nat.le_refl _, rfl, fun _ h => h, fun _ _ => KeepL.refl _⟩
theorem Mono.trans (h : Mono st st1) (h' : Mono st1 st') : Mono st st' := ⟨Nat.le_trans h.nx h'.nx, h'.base.trans h.base, fun x hx => h'.R x (h.R x hx), fun x hx => (h.lp x hx).trans (h'.lp x (Nat.lt_of_lt_of_le hx h.nx))⟩
theorem Mono.fin {v v' : SV} (h : some (v, st) = some (v', st')) : Mono st st' := by
 simp only [Option.some.injEq, Prod.mk.injEq] at h
 rw [h.2]; exact Mono.refl _
theorem KeepL.set {h : Tr SO} {x : Nat} {o : SO} (hx : h.get x ≠ none) (ho : ∀ r', o = .loop r' → ∃ r, h.get x = some (.loop r) ∧ Imm r r') (y : Nat) : KeepL (h.get y) ((h.set x (some o)).get y) := by
 rw [Tr.get_set]
 by_cases e : y = x
 ·subst e
  rw [if_pos rfl]
  refine ⟨fun r' e => ?_, fun e => absurd e hx⟩
  simp only [Option.some.injEq] at e
  exact ho r' e
 ·rw [if_neg e]; exact KeepL.refl _
theorem KeepL.new {h : Tr SO} {n x : Nat} {o : Option SO} (hx : x < n) : KeepL (h.get x) ((h.set n o).get x) := by
 rw [Tr.get_set, if_neg (by omega)]; exact KeepL.refl _
theorem Mono.rd {β : Type} {x : Nat} {k : List SV → TypeId → Bool → St → Option β} {r : β} (h : rdK st x k = some r) (hk : ∀ l e op s, s.h = st.h → st.h.get x = some (.cells l e op) → k l e op s = some r → Mono s st') : Mono st st' := by
 obtain ⟨l, e, op, hg, h⟩ := rdK_some h
 have h2 := hk l e op ⟨st.h, st.nx, st.base, ins st.base x st.R, st.W⟩ rfl hg h
 exact ⟨h2.nx, h2.base, fun y hy => h2.R y (ins_sub _ _ _ y hy), h2.lp⟩
theorem Mono.rdM {β : Type} {x : Nat} {k : List SEnt → Nat → St → Option β} {r : β} (h : rdMK st x k = some r) (hk : ∀ l c s, s.h = st.h → st.h.get x = some (.map l c) → k l c s = some r → Mono s st') : Mono st st' := by
 obtain ⟨l, c, hg, h⟩ := rdMK_some h
 have h2 := hk l c ⟨st.h, st.nx, st.base, ins st.base x st.R, st.W⟩ rfl hg h
 exact ⟨h2.nx, h2.base, fun y hy => h2.R y (ins_sub _ _ _ y hy), h2.lp⟩
theorem Mono.wt {β : Type} {x : Nat} {o : SO} {k : St → Option β} {r : β} (h : wtK st x o k = some r) (hx : st.h.get x ≠ none) (ho : ∀ r', o = .loop r' → ∃ r, st.h.get x = some (.loop r) ∧ Imm r r') (hk : ∀ s, k s = some r → Mono s st') : Mono st st' := by
 rw [wtK_eq] at h
 have h2 := hk _ h
 exact ⟨h2.nx, h2.base, fun y hy => h2.R y (ins_sub _ _ _ y hy), fun y hy => (KeepL.set hx ho y).trans (h2.lp y hy)⟩
theorem Mono.new {β : Type} {o : SO} {k : Nat → St → Option β} {r : β} (h : newK st o k = some r) (hk : ∀ n s, k n s = some r → Mono s st') : Mono st st' := by
 rw [newK_eq] at h
 have h2 := hk _ _ h
 exact ⟨Nat.le_trans (Nat.le_succ _) h2.nx, h2.base, h2.R, fun x hx => (KeepL.new hx).trans (h2.lp x (Nat.lt_succ_of_lt hx))⟩
theorem Mono.src {β : Type} {sz : Nat} {k : Nat → List SV → St → Option β} {r : β} (h : srcK sz y st k = some r) (hk : ∀ n l s, k n l s = some r → Mono s st') : Mono st st' := by
 unfold srcK at h
 split at h
 ·exact hk _ _ _ h
 ·exact hk _ _ _ h
 ·refine Mono.rd h ?_
  intro l _ _ s hsh hg h
  obtain ⟨_, h⟩ := subK_some h
  exact hk _ _ _ h
 ·cases h
theorem Mono.bif {α : Type} {b : Bool} {p q : Option α} {r : α} {G : Prop} (h : (bif b then p else q) = some r) (hp : p = some r → G) (hq : q = some r → G) : G := by
 cases b with
 | true => exact hp h
 | false => exact hq h
theorem Mono.sub {α β : Type} {l : List α} {o n : Nat} {k : List α → Option β} {r : β} {G : Prop} (h : subK l o n k = some r) (hk : ∀ l', k l' = some r → G) : G := hk _ (subK_some h).2
theorem Mono.wr {α β : Type} {l vs : List α} {o : Nat} {k : List α → Option β} {r : β} {G : Prop} (h : wrK l o vs k = some r) (hk : ∀ l', k l' = some r → G) : G := hk _ (wrK_some h).2
theorem Mono.putE {β : Type} {es : List SEnt} {j : Nat} {e : SEnt} {k : List SEnt → Option β} {r : β} {G : Prop} (h : putEK es j e k = some r) (hk : ∀ l', k l' = some r → G) : G := hk _ (putEK_some h).2
theorem Mono.delE {β : Type} {es : List SEnt} {j : Nat} {k : List SEnt → Option β} {r : β} {G : Prop} (h : delEK es j k = some r) (hk : ∀ l', k l' = some r → G) : G := hk _ (delEK_some h).2
theorem apC_mono {e sz by' m : Nat} {news : List SV} (h : apC e sz by' x m news st = some (v, st')) : Mono st st' := by
 unfold apC at h
 split at h
 ·split at h
  ·exact Mono.fin h
  ·refine Mono.bif h ?_ ?_ <;> intro h
   ·exact Mono.fin h
   ·cases h
  ·cases h
 ·refine Mono.bif h ?_ ?_ <;> intro h
  ·split at h
   ·refine Mono.bif h ?_ ?_ <;> intro h
    ·refine Mono.new h ?_
     intro _ _ h
     rw [natK_eq] at h
     exact Mono.fin h
    ·cases h
   ·refine Mono.bif h ?_ ?_ <;> intro h
    ·refine Mono.rd h ?_
     intro _ _ _ _ hsh hg h
     refine Mono.wr h ?_
     intro _ h
     refine Mono.wt h (by rw [hsh, hg]; simp) (fun _ e => by cases e) ?_
     intro _ h
     rw [natK_eq] at h
     exact Mono.fin h
    ·refine Mono.bif h ?_ ?_ <;> intro h
     ·refine Mono.rd h ?_
      intro _ _ _ _ hsh hg h
      refine Mono.sub h ?_
      intro _ h
      rw [appK_eq] at h
      refine Mono.new h ?_
      intro _ _ h
      rw [natK_eq] at h
      exact Mono.fin h
     ·cases h
   ·refine Mono.bif h ?_ ?_ <;> intro h
    ·refine Mono.bif h ?_ ?_ <;> intro h
     ·refine Mono.rd h ?_
      intro _ _ _ s hsh hg h
      refine Mono.bif h ?_ ?_ <;> intro h
      ·refine Mono.bif h ?_ ?_ <;> intro h
       ·cases h
       ·refine Mono.sub h ?_
        intro _ h
        rw [appK_eq] at h
        obtain ⟨h0, n0, b0, R0, W0⟩ := s
        simp only [Tr.setK_eq, natK_eq, insK_eq, Option.some.injEq, Prod.mk.injEq] at h
        rw [← h.2]
        refine ⟨Nat.le_succ _, rfl, fun _ h => h, fun x hx => ?_⟩
        have hx : x < n0 := hx
        have hsh : h0 = _ := hsh
        show KeepL (h0.get x) (((h0.set _ none).set n0 _).get x)
        rw [Tr.get_set, if_neg (by omega), Tr.get_set]
        split
        ·rename_i e
         refine ⟨fun r' q => (by cases q), fun _ => rfl⟩
        ·exact KeepL.refl _
      ·cases h
     ·cases h
    ·cases h
   ·cases h
  ·cases h
theorem apS_mono {T' : TypeId} (h : apS P T T' x y st = some (v, st')) : Mono st st' := by
 unfold apS at h
 refine Mono.bif h ?_ ?_ <;> intro h
 ·split at h
  ·refine Mono.src h ?_
   intro _ _ _ h
   exact apC_mono h
  ·cases h
 ·cases h
theorem lnS_mono (h : lnS P T x st = some (v, st')) : Mono st st' := by
 unfold lnS at h
 split at h
 ·split at h <;> first | exact Mono.fin h | cases h
 ·split at h
  ·exact Mono.fin h
  ·obtain ⟨h0, n0, b0, R0, W0⟩ := st
   simp only at h
   split at h
   ·rw [insK_eq, natK_eq] at h
    simp only [Option.some.injEq, Prod.mk.injEq] at h
    rw [← h.2]
    exact ⟨Nat.le_refl _, rfl, ins_sub _ _ _, fun _ _ => KeepL.refl _⟩
   ·cases h
  ·cases h
 ·cases h
theorem withS_mono (h : withS ox st = some (v, st')) : Mono st st' := by
 rw [(withS_some h).2]; exact Mono.refl _
theorem alS_mono (h : alS P T st = some (v, st')) : Mono st st' := by
 unfold alS at h
 repeat' (first
  |(cases h; done)
  | exact Mono.fin h
  |(refine Mono.rd h ?_; intro _ _ _ _ hsh hg h)
  |(refine Mono.rdM h ?_; intro _ _ _ hsh hg h)
  |(refine Mono.wt h (by rw [hsh, hg]; simp) (fun _ e => by cases e) ?_; intro _ h)
  |(refine Mono.new h ?_; intro _ _ h)
  |(refine Mono.src h ?_; intro _ _ _ h)
  |(rw [natK_eq] at h)
  |(rw [appK_eq] at h)
  |(refine Mono.bif h ?_ ?_ <;> intro h)
  |(refine Mono.sub h ?_; intro _ h)
  |(refine Mono.wr h ?_; intro _ h)
  |(refine Mono.putE h ?_; intro _ h)
  |(refine Mono.delE h ?_; intro _ h)
  | split at h)
theorem bxS_mono (h : bxS T x st = some (v, st')) : Mono st st' := by
 unfold bxS at h
 repeat' (first
  |(cases h; done)
  | exact Mono.fin h
  |(refine Mono.rd h ?_; intro _ _ _ _ hsh hg h)
  |(refine Mono.rdM h ?_; intro _ _ _ hsh hg h)
  |(refine Mono.wt h (by rw [hsh, hg]; simp) (fun _ e => by cases e) ?_; intro _ h)
  |(refine Mono.new h ?_; intro _ _ h)
  |(refine Mono.src h ?_; intro _ _ _ h)
  |(rw [natK_eq] at h)
  |(rw [appK_eq] at h)
  |(refine Mono.bif h ?_ ?_ <;> intro h)
  |(refine Mono.sub h ?_; intro _ h)
  |(refine Mono.wr h ?_; intro _ h)
  |(refine Mono.putE h ?_; intro _ h)
  |(refine Mono.delE h ?_; intro _ h)
  | split at h)
theorem bsS_mono (h : bsS P T n ps st = some (v, st')) : Mono st st' := by
 unfold bsS at h
 repeat' (first
  |(cases h; done)
  | exact Mono.fin h
  |(refine Mono.rd h ?_; intro _ _ _ _ hsh hg h)
  |(refine Mono.rdM h ?_; intro _ _ _ hsh hg h)
  |(refine Mono.wt h (by rw [hsh, hg]; simp) (fun _ e => by cases e) ?_; intro _ h)
  |(refine Mono.new h ?_; intro _ _ h)
  |(refine Mono.src h ?_; intro _ _ _ h)
  |(rw [natK_eq] at h)
  |(rw [appK_eq] at h)
  |(refine Mono.bif h ?_ ?_ <;> intro h)
  |(refine Mono.sub h ?_; intro _ h)
  |(refine Mono.wr h ?_; intro _ h)
  |(refine Mono.putE h ?_; intro _ h)
  |(refine Mono.delE h ?_; intro _ h)
  | split at h)
theorem ldS_mono (h : ldS P T x st = some (v, st')) : Mono st st' := by
 unfold ldS at h
 repeat' (first
  |(cases h; done)
  | exact Mono.fin h
  |(refine Mono.rd h ?_; intro _ _ _ _ hsh hg h)
  |(refine Mono.rdM h ?_; intro _ _ _ hsh hg h)
  |(refine Mono.wt h (by rw [hsh, hg]; simp) (fun _ e => by cases e) ?_; intro _ h)
  |(refine Mono.new h ?_; intro _ _ h)
  |(refine Mono.src h ?_; intro _ _ _ h)
  |(rw [natK_eq] at h)
  |(rw [appK_eq] at h)
  |(refine Mono.bif h ?_ ?_ <;> intro h)
  |(refine Mono.sub h ?_; intro _ h)
  |(refine Mono.wr h ?_; intro _ h)
  |(refine Mono.putE h ?_; intro _ h)
  |(refine Mono.delE h ?_; intro _ h)
  | split at h)
theorem stS_mono (h : stS P T x y st = some (v, st')) : Mono st st' := by
 unfold stS at h
 repeat' (first
  |(cases h; done)
  | exact Mono.fin h
  |(refine Mono.rd h ?_; intro _ _ _ _ hsh hg h)
  |(refine Mono.rdM h ?_; intro _ _ _ hsh hg h)
  |(refine Mono.wt h (by rw [hsh, hg]; simp) (fun _ e => by cases e) ?_; intro _ h)
  |(refine Mono.new h ?_; intro _ _ h)
  |(refine Mono.src h ?_; intro _ _ _ h)
  |(rw [natK_eq] at h)
  |(rw [appK_eq] at h)
  |(refine Mono.bif h ?_ ?_ <;> intro h)
  |(refine Mono.sub h ?_; intro _ h)
  |(refine Mono.wr h ?_; intro _ h)
  |(refine Mono.putE h ?_; intro _ h)
  |(refine Mono.delE h ?_; intro _ h)
  | split at h)
theorem mmS_mono (h : mmS ox st = some (v, st')) : Mono st st' := by
 unfold mmS at h
 repeat' (first
  |(cases h; done)
  | exact Mono.fin h
  |(refine Mono.rd h ?_; intro _ _ _ _ hsh hg h)
  |(refine Mono.rdM h ?_; intro _ _ _ hsh hg h)
  |(refine Mono.wt h (by rw [hsh, hg]; simp) (fun _ e => by cases e) ?_; intro _ h)
  |(refine Mono.new h ?_; intro _ _ h)
  |(refine Mono.src h ?_; intro _ _ _ h)
  |(rw [natK_eq] at h)
  |(rw [appK_eq] at h)
  |(refine Mono.bif h ?_ ?_ <;> intro h)
  |(refine Mono.sub h ?_; intro _ h)
  |(refine Mono.wr h ?_; intro _ h)
  |(refine Mono.putE h ?_; intro _ h)
  |(refine Mono.delE h ?_; intro _ h)
  | split at h)
theorem mkS_mono (h : mkS P T x y st = some (v, st')) : Mono st st' := by
 unfold mkS at h
 repeat' (first
  |(cases h; done)
  | exact Mono.fin h
  |(refine Mono.rd h ?_; intro _ _ _ _ hsh hg h)
  |(refine Mono.rdM h ?_; intro _ _ _ hsh hg h)
  |(refine Mono.wt h (by rw [hsh, hg]; simp) (fun _ e => by cases e) ?_; intro _ h)
  |(refine Mono.new h ?_; intro _ _ h)
  |(refine Mono.src h ?_; intro _ _ _ h)
  |(rw [natK_eq] at h)
  |(rw [appK_eq] at h)
  |(refine Mono.bif h ?_ ?_ <;> intro h)
  |(refine Mono.sub h ?_; intro _ h)
  |(refine Mono.wr h ?_; intro _ h)
  |(refine Mono.putE h ?_; intro _ h)
  |(refine Mono.delE h ?_; intro _ h)
  | split at h)
theorem slS_mono (h : slS P T x lo hi mx st = some (v, st')) : Mono st st' := by
 unfold slS at h
 repeat' (first
  |(cases h; done)
  | exact Mono.fin h
  |(refine Mono.rd h ?_; intro _ _ _ _ hsh hg h)
  |(refine Mono.rdM h ?_; intro _ _ _ hsh hg h)
  |(refine Mono.wt h (by rw [hsh, hg]; simp) (fun _ e => by cases e) ?_; intro _ h)
  |(refine Mono.new h ?_; intro _ _ h)
  |(refine Mono.src h ?_; intro _ _ _ h)
  |(rw [natK_eq] at h)
  |(rw [appK_eq] at h)
  |(refine Mono.bif h ?_ ?_ <;> intro h)
  |(refine Mono.sub h ?_; intro _ h)
  |(refine Mono.wr h ?_; intro _ h)
  |(refine Mono.putE h ?_; intro _ h)
  |(refine Mono.delE h ?_; intro _ h)
  | split at h)
theorem lkS_mono (h : lkS P T x y ok st = some (v, st')) : Mono st st' := by
 unfold lkS at h
 repeat' (first
  |(cases h; done)
  | exact Mono.fin h
  |(refine Mono.rd h ?_; intro _ _ _ _ hsh hg h)
  |(refine Mono.rdM h ?_; intro _ _ _ hsh hg h)
  |(refine Mono.wt h (by rw [hsh, hg]; simp) (fun _ e => by cases e) ?_; intro _ h)
  |(refine Mono.new h ?_; intro _ _ h)
  |(refine Mono.src h ?_; intro _ _ _ h)
  |(rw [natK_eq] at h)
  |(rw [appK_eq] at h)
  |(refine Mono.bif h ?_ ?_ <;> intro h)
  |(refine Mono.sub h ?_; intro _ h)
  |(refine Mono.wr h ?_; intro _ h)
  |(refine Mono.putE h ?_; intro _ h)
  |(refine Mono.delE h ?_; intro _ h)
  | split at h)
theorem muS_mono (h : muS P T x y z st = some (v, st')) : Mono st st' := by
 unfold muS at h
 repeat' (first
  |(cases h; done)
  | exact Mono.fin h
  |(refine Mono.rd h ?_; intro _ _ _ _ hsh hg h)
  |(refine Mono.rdM h ?_; intro _ _ _ hsh hg h)
  |(refine Mono.wt h (by rw [hsh, hg]; simp) (fun _ e => by cases e) ?_; intro _ h)
  |(refine Mono.new h ?_; intro _ _ h)
  |(refine Mono.src h ?_; intro _ _ _ h)
  |(rw [natK_eq] at h)
  |(rw [appK_eq] at h)
  |(refine Mono.bif h ?_ ?_ <;> intro h)
  |(refine Mono.sub h ?_; intro _ h)
  |(refine Mono.wr h ?_; intro _ h)
  |(refine Mono.putE h ?_; intro _ h)
  |(refine Mono.delE h ?_; intro _ h)
  | split at h)
theorem meS_mono (h : meS P T x y st = some (v, st')) : Mono st st' := by
 unfold meS at h
 repeat' (first
  |(cases h; done)
  | exact Mono.fin h
  |(refine Mono.rd h ?_; intro _ _ _ _ hsh hg h)
  |(refine Mono.rdM h ?_; intro _ _ _ hsh hg h)
  |(refine Mono.wt h (by rw [hsh, hg]; simp) (fun _ e => by cases e) ?_; intro _ h)
  |(refine Mono.new h ?_; intro _ _ h)
  |(refine Mono.src h ?_; intro _ _ _ h)
  |(rw [natK_eq] at h)
  |(rw [appK_eq] at h)
  |(refine Mono.bif h ?_ ?_ <;> intro h)
  |(refine Mono.sub h ?_; intro _ h)
  |(refine Mono.wr h ?_; intro _ h)
  |(refine Mono.putE h ?_; intro _ h)
  |(refine Mono.delE h ?_; intro _ h)
  | split at h)
theorem esS_mono (h : esS x y z st = some (v, st')) : Mono st st' := by
 unfold esS at h
 repeat' (first
  |(cases h; done)
  | exact Mono.fin h
  |(refine Mono.rd h ?_; intro _ _ _ _ hsh hg h)
  |(refine Mono.rdM h ?_; intro _ _ _ hsh hg h)
  |(refine Mono.wt h (by rw [hsh, hg]; simp) (fun _ e => by cases e) ?_; intro _ h)
  |(refine Mono.new h ?_; intro _ _ h)
  |(refine Mono.src h ?_; intro _ _ _ h)
  |(rw [natK_eq] at h)
  |(rw [appK_eq] at h)
  |(refine Mono.bif h ?_ ?_ <;> intro h)
  |(refine Mono.sub h ?_; intro _ h)
  |(refine Mono.wr h ?_; intro _ h)
  |(refine Mono.putE h ?_; intro _ h)
  |(refine Mono.delE h ?_; intro _ h)
  | split at h)
theorem deS_mono (h : deS P T x y st = some (v, st')) : Mono st st' := by
 unfold deS at h
 repeat' (first
  |(cases h; done)
  | exact Mono.fin h
  |(refine Mono.rd h ?_; intro _ _ _ _ hsh hg h)
  |(refine Mono.rdM h ?_; intro _ _ _ hsh hg h)
  |(refine Mono.wt h (by rw [hsh, hg]; simp) (fun _ e => by cases e) ?_; intro _ h)
  |(refine Mono.new h ?_; intro _ _ h)
  |(refine Mono.src h ?_; intro _ _ _ h)
  |(rw [natK_eq] at h)
  |(rw [appK_eq] at h)
  |(refine Mono.bif h ?_ ?_ <;> intro h)
  |(refine Mono.sub h ?_; intro _ h)
  |(refine Mono.wr h ?_; intro _ h)
  |(refine Mono.putE h ?_; intro _ h)
  |(refine Mono.delE h ?_; intro _ h)
  | split at h)
theorem clS_mono (h : clS P T x st = some (v, st')) : Mono st st' := by
 unfold clS at h
 repeat' (first
  |(cases h; done)
  | exact Mono.fin h
  |(refine Mono.rd h ?_; intro _ _ _ _ hsh hg h)
  |(refine Mono.rdM h ?_; intro _ _ _ hsh hg h)
  |(refine Mono.wt h (by rw [hsh, hg]; simp) (fun _ e => by cases e) ?_; intro _ h)
  |(refine Mono.new h ?_; intro _ _ h)
  |(refine Mono.src h ?_; intro _ _ _ h)
  |(rw [natK_eq] at h)
  |(rw [appK_eq] at h)
  |(refine Mono.bif h ?_ ?_ <;> intro h)
  |(refine Mono.sub h ?_; intro _ h)
  |(refine Mono.wr h ?_; intro _ h)
  |(refine Mono.putE h ?_; intro _ h)
  |(refine Mono.delE h ?_; intro _ h)
  | split at h)
theorem cpS_mono (h : cpS P T x y st = some (v, st')) : Mono st st' := by
 unfold cpS at h
 repeat' (first
  |(cases h; done)
  | exact Mono.fin h
  |(refine Mono.rd h ?_; intro _ _ _ _ hsh hg h)
  |(refine Mono.rdM h ?_; intro _ _ _ hsh hg h)
  |(refine Mono.wt h (by rw [hsh, hg]; simp) (fun _ e => by cases e) ?_; intro _ h)
  |(refine Mono.new h ?_; intro _ _ h)
  |(refine Mono.src h ?_; intro _ _ _ h)
  |(rw [natK_eq] at h)
  |(rw [appK_eq] at h)
  |(refine Mono.bif h ?_ ?_ <;> intro h)
  |(refine Mono.sub h ?_; intro _ h)
  |(refine Mono.wr h ?_; intro _ h)
  |(refine Mono.putE h ?_; intro _ h)
  |(refine Mono.delE h ?_; intro _ h)
  | split at h)
theorem rgS_mono (h : rgS P T x st = some (v, st')) : Mono st st' := by
 unfold rgS at h
 repeat' (first
  |(cases h; done)
  | exact Mono.fin h
  |(refine Mono.rd h ?_; intro _ _ _ _ hsh hg h)
  |(refine Mono.rdM h ?_; intro _ _ _ hsh hg h)
  |(refine Mono.wt h (by rw [hsh, hg]; simp) (fun _ e => by cases e) ?_; intro _ h)
  |(refine Mono.new h ?_; intro _ _ h)
  |(refine Mono.src h ?_; intro _ _ _ h)
  |(rw [natK_eq] at h)
  |(rw [appK_eq] at h)
  |(refine Mono.bif h ?_ ?_ <;> intro h)
  |(refine Mono.sub h ?_; intro _ h)
  |(refine Mono.wr h ?_; intro _ h)
  |(refine Mono.putE h ?_; intro _ h)
  |(refine Mono.delE h ?_; intro _ h)
  | split at h)
theorem enS_mono (h : enS x st = some (v, st')) : Mono st st' := by
 unfold enS at h
 split at h
 ·split at h
  ·refine Mono.rdM h ?_
   intro _ _ s hsh hg h
   refine Mono.bif h ?_ ?_ <;> intro h
   ·split at h
    ·rw [insK_eq] at h
     simp only [Option.some.injEq, Prod.mk.injEq] at h
     rw [← h.2]
     exact ⟨Nat.le_refl _, rfl, ins_sub _ _ _, fun _ _ => KeepL.refl _⟩
    ·cases h
   ·cases h
  ·refine Mono.rdM h ?_
   intro _ _ s hsh hg h
   refine Mono.bif h ?_ ?_ <;> intro h
   ·split at h
    ·rw [insK_eq] at h
     simp only [Option.some.injEq, Prod.mk.injEq] at h
     rw [← h.2]
     exact ⟨Nat.le_refl _, rfl, ins_sub _ _ _, fun _ _ => KeepL.refl _⟩
    ·cases h
   ·cases h
  ·cases h
 ·cases h
theorem outsS_mono {q m since clk : Nat} {seen : List Nat} (hq : st.h.get q ≠ none) : ∀ {l : List SEnt} {L : List (SV × St)}, outsS q m since clk seen st l = some L → ∀ p ∈ L, Mono st p.2
 | [], L, h, p, hp => by simp only [outsS, Option.some.injEq] at h; subst h; cases hp
 | a :: l, L, h, p, hp => by
  simp only [outsS, wtK_eq] at h
  split at h
  ·rename_i L' hL
   simp only [Option.some.injEq] at h
   subst h
   rcases List.mem_cons.1 hp with rfl | hp
   ·exact ⟨Nat.le_refl _, rfl, ins_sub _ _ _, fun y _ => KeepL.set hq (fun _ e => by cases e) y⟩
   ·exact outsS_mono hq hL p hp
  ·cases h
theorem nxS_mono {L : List (SV × St)} (h : nxS x st = some L) : ∀ p ∈ L, Mono st p.2 := by
 unfold nxS at h
 split at h
 ·split at h
  ·rw [insK_eq] at h
   simp only [Option.some.injEq] at h
   subst h
   intro p hp
   rw [List.mem_singleton] at hp
   subst hp
   exact ⟨Nat.le_refl _, rfl, ins_sub _ _ _, fun _ _ => KeepL.refl _⟩
  ·rename_i m since seen last hg
   replace h := (bif_of h).2
   obtain ⟨es, c, _, h⟩ := rdMK_some h
   replace h := (bif_of h).2
   intro p hp
   refine (fun (h2 : Mono (⟨st.h, st.nx, st.base, ins st.base m st.R, st.W⟩ : St) p.2) => (⟨h2.nx, h2.base, fun y hy => h2.R y (ins_sub _ _ _ y hy), h2.lp⟩ : Mono st p.2)) ?_
   split at h
   ·rw [insK_eq] at h
    simp only [Option.some.injEq] at h
    subst h
    rw [List.mem_singleton] at hp
    subst hp
    exact ⟨Nat.le_refl _, rfl, ins_sub _ _ _, fun _ _ => KeepL.refl _⟩
   ·exact outsS_mono (by show st.h.get _ ≠ none; rw [hg]; simp) h p hp
  ·cases h
 ·cases h
theorem biS_mono {b : Builtin} {ats : List TypeId} {ty : TypeId} {xs : List SV} (h : biS P b ats ty xs st = some (v, st')) : Mono st st' := by
 unfold biS at h
 split at h
 ·split at h
  ·split at h
   ·exact lnS_mono h
   ·cases h
  ·cases h
 ·split at h
  ·split at h
   ·exact apS_mono h
   ·cases h
  ·cases h
 ·split at h
  ·split at h
   ·exact cpS_mono h
   ·cases h
  ·cases h
 ·exact withS_mono h
 ·exact withS_mono h
 ·split at h
  ·split at h
   ·exact deS_mono h
   ·cases h
  ·cases h
 ·split at h
  ·split at h
   ·exact clS_mono h
   ·cases h
  ·cases h
 ·cases h
theorem opS_mono {env : Tr SV} {op : Op} (h : opS P env op st = some (v, st')) : Mono st st' := by
 cases op <;> simp only [opS] at h <;> first
  |(cases h; done)
  | exact Mono.fin h
  | exact withS_mono h
  | exact alS_mono h
  | exact bxS_mono h
  | exact bsS_mono h
  | exact ldS_mono h
  | exact stS_mono h
  | exact mkS_mono h
  | exact slS_mono h
  | exact lkS_mono h
  | exact muS_mono h
  | exact meS_mono h
  | exact esS_mono h
  | exact rgS_mono h
  | exact enS_mono h
  |(split at h <;> first | exact Mono.fin h | exact mmS_mono h | cases h)
end
end Go.TX
namespace Go.TX
open Go Go.TH
noncomputable section
variable {P : Program} {sm : Sums} {rec : Rec} {st st' st1 : St} {v : SV}
def RecMono (rec : Rec) : Prop := ∀ ro N c env ds st L, rec ro N c env ds st = some L → ∀ o ∈ L, Mono st o.2.2.2
def SumMono (sm : Sums) : Prop := ∀ f s args st v st', sm f = some s → s args st = some (v, st') → Mono st st'
theorem mapB_mem {α β : Type} {f : α → Option (List β)} : ∀ {l : List α} {L : List β}, mapB f l = some L → (∀ x ∈ l, ∃ lx, f x = some lx ∧ ∀ y ∈ lx, y ∈ L) ∧ ∀ y ∈ L, ∃ x ∈ l, ∃ lx, f x = some lx ∧ y ∈ lx
 | [], L, h => by unfold mapB at h; simp only [Option.some.injEq] at h; subst h; exact ⟨fun x hx => (by cases hx), fun y hy => (by cases hy)⟩
 | x :: r, L, h => by
  unfold mapB at h
  split at h
  case h_2 => cases h
  rename_i l hl
  split at h
  ·simp only [Option.some.injEq] at h
   subst h
   refine ⟨fun y hy => ?_, fun y hy => ⟨x, by simp, l, hl, hy⟩⟩
   rw [List.mem_singleton] at hy
   subst hy
   exact ⟨l, hl, fun _ h => h⟩
  ·rename_i y r' 
   split at h
   case h_2 => cases h
   rename_i l' hl'
   simp only [Option.some.injEq] at h
   subst h
   obtain ⟨h1, h2⟩ := mapB_mem hl'
   refine ⟨fun z hz => ?_, fun z hz => ?_⟩
   ·rcases List.mem_cons.1 hz with rfl | hz
    ·exact ⟨l, hl, fun y hy => by simp [hy]⟩
    ·obtain ⟨lz, e1, e2⟩ := h1 z hz
     exact ⟨lz, e1, fun y hy => by simp [e2 y hy]⟩
   ·rcases List.mem_append.1 hz with hz | hz
    ·exact ⟨x, by simp, l, hl, hz⟩
    ·obtain ⟨a, ha, la, e1, e2⟩ := h2 z hz
     exact ⟨a, List.mem_cons_of_mem _ ha, la, e1, e2⟩
theorem oneL_some {α : Type} {r : Option α} {L : List α} (h : oneL r = some L) : ∃ p, r = some p ∧ L = [p] := by
 unfold oneL at h
 split at h
 ·rename_i p
  simp only [Option.some.injEq] at h
  exact ⟨p, rfl, h.symm⟩
 ·cases h
theorem Mono.shut {β : Type} {r : β} : ∀ {ds : List Nat} {st : St} {k : St → Option β}, shutK ds st k = some r → (∀ s, k s = some r → Mono s st') → Mono st st'
 | [], st, k, h, hk => hk st h
 | d :: ds, st, k, h, hk => by
  simp only [shutK] at h
  split at h
  ·rename_i hg
   refine Mono.wt h (by rw [hg]; simp) (fun _ e => by cases e) ?_
   intro s h
   exact Mono.shut h hk
  ·cases h
theorem rvK_mono {env : Tr SV} {r : ResultVar} (h : rvK P env r st = some (v, st')) : Mono st st' := by
 cases r with
 | tmp t => simp only [rvK] at h; exact Mono.fin h
 | cell a T => simp only [rvK] at h; exact ldS_mono h
theorem Mono.res {env : Tr SV} {r : SV × St} : ∀ {rs : List ResultVar} {st : St} {k : List SV → St → Option (SV × St)}, resK P env rs st k = some r → (∀ l s, k l s = some r → Mono s st') → Mono st st'
 | [], st, k, h, hk => hk _ st h
 | x :: rs, st, k, h, hk => by
  simp only [resK] at h
  split at h
  ·rename_i v1 st1 h1
   exact (rvK_mono h1).trans (Mono.res h fun l s hs => hk _ s hs)
  ·cases h
theorem finS_mono {fn : Func} {e : Ex} {env : Tr SV} {ds : List Nat} (h : finS P fn (e, env, ds, st) = some (v, st')) : Mono st st' := by
 unfold finS at h
 simp only at h
 cases e <;> simp only at h
 ·refine Mono.shut h ?_
  intro s h
  refine Mono.res h ?_
  intro l s h
  exact Mono.fin h
 ·cases h
 ·cases h
 ·refine Mono.shut h ?_
  intro s h
  refine Mono.res h ?_
  intro l s h
  exact Mono.fin h
theorem envK_some {β : Type} {r : β} : ∀ {l : List SV} {i : Nat} {env : Tr SV} {k : Tr SV → Option β}, envK l i env k = some r → ∃ env', k env' = some r
 | [], _, env, k, h => ⟨env, h⟩
 | x :: l, i, env, k, h => by
  simp only [envK, Tr.setK_eq] at h
  exact envK_some h
theorem eqC_eq {a b : Cap} (h : eqC a b = true) : a = b := by
 cases a <;> cases b <;> simp only [eqC] at h <;> first | (cases h; done) | rw [Nat.eq_of_beq_eq_true h]
theorem eqW_eq {a b : Value} (h : eqW a b = true) : a = b := by
 unfold eqW at h
 split at h
 ·rfl
 ·rw [Bool.and_eq_true] at h
  rw [Nat.eq_of_beq_eq_true h.1, Nat.eq_of_beq_eq_true h.2]
 ·rfl
 ·rfl
 ·rfl
 ·rfl
 ·exact veq_eq h
mutual
theorem eqV_eq : ∀ {a b : SV}, eqV a b = true → a = b
 | .raw v, b, h => by cases b <;> simp only [eqV] at h <;> first | (cases h; done) | rw [eqW_eq h]
 | .ptr x o, b, h => by
  cases b <;> simp only [eqV] at h <;> try (cases h; done)
  rw [Bool.and_eq_true] at h
  rw [Nat.eq_of_beq_eq_true h.1, Nat.eq_of_beq_eq_true h.2]
 | .sl x o n c, b, h => by
  cases b <;> simp only [eqV] at h <;> try (cases h; done)
  simp only [Bool.and_eq_true] at h
  rw [Nat.eq_of_beq_eq_true h.1.1.1, Nat.eq_of_beq_eq_true h.1.1.2, Nat.eq_of_beq_eq_true h.1.2, eqC_eq h.2]
 | .sl0, b, h => by cases b <;> simp only [eqV] at h <;> first | (cases h; done) | rfl
 | .map x, b, h => by cases b <;> simp only [eqV] at h <;> first | (cases h; done) | rw [Nat.eq_of_beq_eq_true h]
 | .fn f l m, b, h => by
  cases b <;> simp only [eqV] at h <;> try (cases h; done)
  simp only [Bool.and_eq_true] at h
  rw [Nat.eq_of_beq_eq_true h.1.1, eqVs_eq h.1.2, eqVs_eq h.2]
 | .yield x, b, h => by cases b <;> simp only [eqV] at h <;> first | (cases h; done) | rw [Nat.eq_of_beq_eq_true h]
 | .agg l, b, h => by cases b <;> simp only [eqV] at h <;> first | (cases h; done) | rw [eqVs_eq h]
 | .tup l, b, h => by cases b <;> simp only [eqV] at h <;> first | (cases h; done) | rw [eqVs_eq h]
theorem eqVs_eq : ∀ {a b : List SV}, eqVs a b = true → a = b
 | [], b, h => by cases b <;> simp only [eqVs] at h <;> first | (cases h; done) | rfl
 | x :: l, b, h => by
  cases b with
  | nil => simp only [eqVs] at h; cases h
  | cons y r =>
   simp only [eqVs] at h
   cases hx : eqV x y with
   | false => rw [hx] at h; cases h
   | true => rw [hx, cond_true] at h; rw [eqV_eq hx, eqVs_eq h]
end
theorem eqL_eq {α : Type} {f : α → α → Bool} (hf : ∀ a b, f a b = true → a = b) : ∀ {l r : List α}, eqL f l r = true → l = r
 | [], r, h => by cases r <;> simp only [eqL] at h <;> first | (cases h; done) | rfl
 | x :: l, r, h => by
  cases r with
  | nil => simp only [eqL] at h; cases h
  | cons y r =>
   simp only [eqL] at h
   cases hx : f x y with
   | false => rw [hx] at h; cases h
   | true => rw [hx, cond_true] at h; rw [hf _ _ hx, eqL_eq hf h]
theorem eqE_eq {a b : SEnt} (h : eqE a b = true) : a = b := by
 obtain ⟨k, v, n⟩ := a
 obtain ⟨k', v', n'⟩ := b
 simp only [eqE, Bool.and_eq_true] at h
 rw [eqV_eq h.1.1, eqV_eq h.1.2, Nat.eq_of_beq_eq_true h.2]
theorem eqB_eq {a b : Bool} (h : eqB a b = true) : a = b := by cases a <;> cases b <;> first | rfl | cases h
theorem eqO_eq {a b : SO} (h : eqO a b = true) : a = b := by
 have hn : ∀ {x y : Nat}, Nat.beq x y = true → x = y := fun h => Nat.eq_of_beq_eq_true h
 unfold eqO at h
 split at h
 ·simp only [Bool.and_eq_true] at h
  rw [eqVs_eq h.1.1, hn h.1.2, eqB_eq h.2]
 ·simp only [Bool.and_eq_true] at h
  rw [eqL_eq (fun _ _ => eqE_eq) h.1, hn h.2]
 ·rw [eqB_eq h]
 ·simp only [Bool.and_eq_true] at h
  rw [hn h.1.1.1, hn h.1.1.2, eqL_eq (fun _ _ => hn) h.1.2, hn h.2]
 ·simp only [Bool.and_eq_true] at h
  rw [hn h.1.1, eqL_eq (fun _ _ => hn) h.1.2, hn h.2]
 ·cases h
theorem eqS_eq {a b : LoopState} (h : eqS a b = true) : a = b := by cases a <;> cases b <;> first | rfl | cases h
theorem eqJ_eq {a b : Option Code} (h : eqJ a b = true) : a = b := by
 unfold eqJ at h
 split at h
 ·rfl
 ·rw [Nat.eq_of_beq_eq_true h]
 ·rw [Nat.eq_of_beq_eq_true h]
 ·rfl
 ·cases h
theorem eqLp_eq {a b : SO} (h : eqLp a b = true) (hi : ∀ r r', a = .loop r → b = .loop r' → Imm r r') : a = b := by
 cases a <;> cases b <;> simp only [eqLp] at h <;> try (cases h; done)
 rename_i r r'
 have i := hi r r' rfl rfl
 rw [Bool.and_eq_true] at h
 have e1 := eqS_eq h.1
 have e2 := eqJ_eq h.2
 obtain ⟨s, p, N, tm, ps, as9, bd, df⟩ := r
 obtain ⟨s', p', N', tm', ps', as9', bd', df'⟩ := r'
 obtain ⟨i1, i2, i3, i4, i5, i6⟩ := i
 simp only at e1 e2 i1 i2 i3 i4 i5 i6
 rw [e1, e2, i1, i2, i3, i4, i5, i6]
theorem meetK_some {β : Type} {n0 : Nat} {h1 h2 : Tr SO} (hI : ∀ x, x < n0 → ∀ r r', h1.get x = some (.loop r) → h2.get x = some (.loop r') → Imm r r') : ∀ {n : Nat} {h : Tr SO} {k : Tr SO → Option β} {r : β}, (∀ x, x < n → h.get x = none) → meetK n0 h1 h2 n h k = some r → ∃ h', k h' = some r ∧ (∀ x, x < n → (h'.get x = h1.get x ∧ h'.get x = h2.get x) ∨ (n0 ≤ x ∧ h'.get x = none)) ∧ ∀ x, n ≤ x → h'.get x = h.get x
 | 0, h, k, r, _, hh => ⟨h, hh, fun x hx => absurd hx (Nat.not_lt_zero _), fun _ _ => rfl⟩
 | n + 1, h, k, r, hl, hh => by
  simp only [meetK] at hh
  have skip : (n0 ≤ n ∨ (h1.get n = none ∧ h2.get n = none)) → meetK n0 h1 h2 n h k = some r → ∃ h', k h' = some r ∧ (∀ x, x < n + 1 → (h'.get x = h1.get x ∧ h'.get x = h2.get x) ∨ (n0 ≤ x ∧ h'.get x = none)) ∧ ∀ x, n + 1 ≤ x → h'.get x = h.get x := by
   intro hb hh
   obtain ⟨h', e1, e2, e3⟩ := meetK_some hI (fun x hx => hl x (by omega)) hh
   refine ⟨h', e1, fun x hx => ?_, fun x hx => e3 x (by omega)⟩
   by_cases e : x = n
   ·subst e
    have hn : h'.get x = none := by rw [e3 x (Nat.le_refl _)]; exact hl x (by omega)
    rcases hb with hb | ⟨hb1, hb2⟩
    ·exact .inr ⟨hb, hn⟩
    ·left; rw [hn, hb1, hb2]; exact ⟨rfl, rfl⟩
   ·exact e2 x (by omega)
  split at hh
  ·rename_i o1 ho1
   split at hh
   ·rename_i o2 ho2
    cases hq : (eqO o1 o2 || (Nat.blt n n0 && eqLp o1 o2)) with
    | true =>
     have heq : o1 = o2 := by
      rw [Bool.or_eq_true, Bool.and_eq_true] at hq
      rcases hq with q | ⟨q1, q2⟩
      ·exact eqO_eq q
      ·exact eqLp_eq q2 fun r r' e1 e2 => hI n (Nat.blt_eq.mp q1) r r' (by rw [ho1, e1]) (by rw [ho2, e2])
     rw [hq, cond_true, Tr.setK_eq] at hh
     obtain ⟨h', e1, e2, e3⟩ := meetK_some hI (fun x hx => by rw [Tr.get_set, if_neg (by omega)]; exact hl x (by omega)) hh
     refine ⟨h', e1, fun x hx => ?_, fun x hx => ?_⟩
     ·by_cases e : x = n
      ·subst e
       have : h'.get x = some o1 := by rw [e3 x (Nat.le_refl _), Tr.get_set, if_pos rfl]
       left; rw [this, ho1, ho2, heq]; exact ⟨rfl, rfl⟩
      ·exact e2 x (by omega)
     ·rw [e3 x (by omega), Tr.get_set, if_neg (by omega)]
    | false => rw [hq, cond_false] at hh; exact skip (.inl (Nat.ble_eq.mp (bif_of hh).1)) (bif_of hh).2
   ·exact skip (.inl (Nat.ble_eq.mp (bif_of hh).1)) (bif_of hh).2
  ·rename_i ho1
   split at hh
   ·exact skip (.inl (Nat.ble_eq.mp (bif_of hh).1)) (bif_of hh).2
   ·rename_i ho2
    exact skip (.inr ⟨ho1, ho2⟩) hh
structure Sub2 (n0 : Nat) (J p : SV × St) : Prop where
 v : J.1 = p.1
 nx : J.2.nx = p.2.nx
 base : J.2.base = p.2.base
 R : ∀ x, x ∈ p.2.R → x ∈ J.2.R
 W : ∀ x, x ∈ p.2.W → x ∈ J.2.W
 h : ∀ x, x < J.2.nx → J.2.h.get x = p.2.h.get x ∨ (n0 ≤ x ∧ J.2.h.get x = none)
theorem Sub2.refl (n0 : Nat) (p : SV × St) : Sub2 n0 p p := ⟨rfl, rfl, rfl, fun _ h => h, fun _ h => h, fun _ _ => .inl rfl⟩
theorem Sub2.trans {n0 : Nat} {a b c : SV × St} (h : Sub2 n0 a b) (h' : Sub2 n0 b c) : Sub2 n0 a c :=
 ⟨h.v.trans h'.v, h.nx.trans h'.nx, h.base.trans h'.base, fun x hx => h.R x (h'.R x hx), fun x hx => h.W x (h'.W x hx), fun x hx => by
  rcases h.h x hx with q | q
  ·rcases h'.h x (by rw [← h.nx]; exact hx) with r | r
   ·exact .inl (q.trans r)
   ·exact .inr ⟨r.1, q.trans r.2⟩
  ·exact .inr q⟩
theorem Imm.of {r r1 r2 : SLoop} (h1 : Imm r r1) (h2 : Imm r r2) : Imm r1 r2 :=
 ⟨h2.N.trans h1.N.symm, h2.tmps.trans h1.tmps.symm, h2.params.trans h1.params.symm, h2.assign.trans h1.assign.symm, h2.body.trans h1.body.symm, h2.defers.trans h1.defers.symm⟩
theorem Mono.sub2 {p J : SV × St} (hp : Mono st p.2) (s : Sub2 st.nx J p) : Mono st J.2 := by
 refine ⟨by rw [s.nx]; exact hp.nx, s.base.trans hp.base, fun x hx => s.R x (hp.R x hx), fun x hx => ?_⟩
 rcases s.h x (by rw [s.nx]; exact Nat.lt_of_lt_of_le hx hp.nx) with q | q
 ·rw [q]; exact hp.lp x hx
 ·omega
theorem join2_some {p q J : SV × St} (hp : Mono st p.2) (hq : Mono st q.2) (h : join2 st.nx p q = some J) : Sub2 st.nx J p ∧ Sub2 st.nx J q ∧ ∀ x, J.2.nx ≤ x → J.2.h.get x = none := by
 obtain ⟨v, h1, nx, b, R, W⟩ := p
 obtain ⟨v', h2, nx', b', R', W'⟩ := q
 simp only [join2] at h
 have e1 := eqV_eq (bif_of h).1
 replace h := (bif_of h).2
 have e2 := Nat.eq_of_beq_eq_true (bif_of h).1
 replace h := (bif_of h).2
 have e3 := Nat.eq_of_beq_eq_true (bif_of h).1
 replace h := (bif_of h).2
 obtain ⟨h', e4, e5, e6⟩ := meetK_some (fun x hx r r' g1 g2 => by
  obtain ⟨r0, k1, i1⟩ := (hp.lp x hx).1 r g1
  obtain ⟨r0', k2, i2⟩ := (hq.lp x hx).1 r' g2
  rw [k1] at k2
  simp only [Option.some.injEq, SO.loop.injEq] at k2
  subst k2
  exact i1.of i2) (fun x _ => Tr.get_lf x) h
 rw [appK_eq, appK_eq] at e4
 simp only [Option.some.injEq] at e4
 subst e4; subst e1; subst e2; subst e3
 refine ⟨⟨rfl, rfl, rfl, fun x hx => List.mem_append_left _ hx, fun x hx => List.mem_append_left _ hx, fun x hx => ?_⟩, ⟨rfl, rfl, rfl, fun x hx => List.mem_append_right _ hx, fun x hx => List.mem_append_right _ hx, fun x hx => ?_⟩, fun x hx => by show h'.get x = none; rw [e6 x hx]; exact Tr.get_lf x⟩
 ·rcases e5 x hx with q | q
  ·exact .inl q.1
  ·exact .inr q
 ·rcases e5 x hx with q | q
  ·exact .inl q.2
  ·exact .inr q
theorem joinA_some : ∀ {l : List (SV × St)} {p J : SV × St}, Mono st p.2 → (∀ q ∈ l, Mono st q.2) → (∀ x, p.2.nx ≤ x → p.2.h.get x = none) → joinA st.nx p l = some J → (∀ q, q ∈ p :: l → Sub2 st.nx J q) ∧ ∀ x, J.2.nx ≤ x → J.2.h.get x = none
 | [], p, J, _, _, hp, h => by
  simp only [joinA, Option.some.injEq] at h
  subst h
  exact ⟨fun q hq => by rw [List.mem_singleton] at hq; subst hq; exact Sub2.refl _ _, hp⟩
 | q :: r, p, J, mp, ml, hp, h => by
  simp only [joinA] at h
  split at h
  case h_2 => cases h
  rename_i p' hj
  obtain ⟨g1, g2, g3⟩ := join2_some mp (ml q (by simp)) hj
  obtain ⟨k1, k2⟩ := joinA_some (mp.sub2 g1) (fun z hz => ml z (by simp [hz])) g3 h
  have hJ := k1 p' List.mem_cons_self
  refine ⟨fun z hz => ?_, k2⟩
  rcases List.mem_cons.1 hz with rfl | hz
  ·exact hJ.trans g1
  ·rcases List.mem_cons.1 hz with rfl | hz
   ·exact hJ.trans g2
   ·exact k1 z (List.mem_cons_of_mem _ hz)
theorem joinL_ok {l : List (SV × St)} (hm : ∀ p ∈ l, Mono st p.2) : (∀ p ∈ l, ∃ J ∈ joinL st.nx l, J = p ∨ (Sub2 st.nx J p ∧ ∀ x, J.2.nx ≤ x → J.2.h.get x = none)) ∧ ∀ J ∈ joinL st.nx l, ∃ p ∈ l, J = p ∨ Sub2 st.nx J p := by
 match l, hm with
 | [], _ => exact ⟨fun p hp => (by cases hp), fun p hp => (by cases hp)⟩
 | [p], _ => exact ⟨fun q hq => ⟨q, hq, .inl rfl⟩, fun q hq => ⟨q, hq, .inl rfl⟩⟩
 | p :: q :: r, hm =>
  simp only [joinL]
  split
  ·rename_i J hJ
   simp only [joinA] at hJ
   split at hJ
   case h_2 => cases hJ
   rename_i p' hj
   obtain ⟨g1, g2, g3⟩ := join2_some (hm p (by simp)) (hm q (by simp)) hj
   obtain ⟨k1, k2⟩ := joinA_some ((hm p (by simp)).sub2 g1) (fun z hz => hm z (by simp [hz])) g3 hJ
   have hJ' := k1 p' List.mem_cons_self
   refine ⟨fun z hz => ⟨J, by simp, .inr ⟨?_, k2⟩⟩, fun z hz => ?_⟩
   ·rcases List.mem_cons.1 hz with rfl | hz
    ·exact hJ'.trans g1
    ·rcases List.mem_cons.1 hz with rfl | hz
     ·exact hJ'.trans g2
     ·exact k1 z (List.mem_cons_of_mem _ hz)
   ·rw [List.mem_singleton] at hz
    subst hz
    exact ⟨p, by simp, .inr (hJ'.trans g1)⟩
  ·exact ⟨fun z hz => ⟨z, hz, .inl rfl⟩, fun z hz => ⟨z, hz, .inl rfl⟩⟩
theorem joinL_ne {n0 : Nat} {l : List (SV × St)} (h : l ≠ []) : joinL n0 l ≠ [] := by
 match l, h with
 | [p], _ => simp [joinL]
 | p :: q :: r, _ =>
  simp only [joinL]
  split <;> simp
theorem exF_mono (hr : RecMono rec) (hsm : SumMono sm) {f : FuncId} {args : List SV} {L : List (SV × St)} (h : exF P sm rec f args st = some L) : ∀ p ∈ L, Mono st p.2 := by
 unfold exF at h
 split at h
 ·rename_i s hs
  obtain ⟨p, hp, rfl⟩ := oneL_some h
  intro q hq
  rw [List.mem_singleton] at hq
  subst hq
  exact hsm f s args st _ _ hs hp
 ·split at h
  ·split at h
   ·refine Mono.bif h ?_ ?_ <;> intro h
    ·obtain ⟨env, h⟩ := envK_some h
     split at h
     ·rename_i L0 hL0
      split at h
      ·rename_i R hR
       simp only [Option.some.injEq] at h
       subst h
       intro J hJ
       have hmR : ∀ p ∈ R, Mono st p.2 := by
        intro p hp
        obtain ⟨o, ho, lx, e1, e2⟩ := (mapB_mem hR).2 p hp
        obtain ⟨p', hp', rfl⟩ := oneL_some e1
        rw [List.mem_singleton] at e2
        subst e2
        obtain ⟨e, env', ds', st2⟩ := o
        exact (hr _ _ _ _ _ _ _ hL0 _ ho).trans (finS_mono hp')
       obtain ⟨p, hp, hj⟩ := (joinL_ok hmR).2 J hJ
       rcases hj with rfl | hj
       ·exact hmR _ hp
       ·exact (hmR p hp).sub2 hj
      ·cases h
     ·cases h
    ·cases h
   ·cases h
  ·cases h
theorem putsK_some {β : Type} {N : Nat} {r : β} : ∀ {ts : List Tmp} {xs : List SV} {env : Tr SV} {k : Tr SV → Option β}, putsK ts xs N env k = some r → ∃ env', k env' = some r
 | [], [], env, k, h => ⟨env, h⟩
 | [], _ :: _, env, k, h => by simp [putsK] at h
 | _ :: _, [], env, k, h => by simp [putsK] at h
 | t :: ts, x :: xs, env, k, h => by
  simp only [putsK] at h
  replace h := (bif_of h).2
  rw [Tr.setK_eq] at h
  exact putsK_some h
theorem yEnd_some {l : Nat} {o : Out} (h : yEnd l o = some (v, st')) : ∃ r3 jump, o.2.2.2.h.get l = some (.loop r3) ∧ jmpOf o.1 = jump ∧ v = .raw (.bool jump.isNone) ∧
 st' = ⟨o.2.2.2.h.set l (some (.loop { r3 with state := if jump.isNone then .ready else .done, pending := jump })), o.2.2.2.nx, o.2.2.2.base, ins o.2.2.2.base l o.2.2.2.R, ins o.2.2.2.base l o.2.2.2.W⟩ := by
 obtain ⟨e3, env3, ds3, st3⟩ := o
 simp only [yEnd] at h
 split at h
 case h_2 => cases h
 rename_i r3 hg3
 split at h
 ·rename_i hj
  rw [wtK_eq] at h
  simp only [Option.some.injEq, Prod.mk.injEq] at h
  exact ⟨r3, none, hg3, hj, h.1.symm, h.2.symm⟩
 ·rename_i c hj
  rw [wtK_eq] at h
  simp only [Option.some.injEq, Prod.mk.injEq] at h
  exact ⟨r3, some c, hg3, hj, h.1.symm, h.2.symm⟩
theorem exYb_some {l : Nat} {r : SLoop} {env : Tr SV} {L : List (SV × St)} (hx : exYb rec l r env st = some L) : ∃ env1 ds1 st1 r1 L3, rec (some l) r.N r.assign env [] st = some [(.nrm, env1, ds1, st1)] ∧ st1.h.get l = some (.loop r1) ∧ r1.state = .ready ∧
 rec (some l) r.N r.body env1 ds1 ⟨st1.h.set l (some (.loop { r1 with state := .busy })), st1.nx, st1.base, ins st1.base l st1.R, ins st1.base l st1.W⟩ = some L3 ∧ mapB (fun o => oneL (yEnd l o)) L3 = some L := by
 unfold exYb at hx
 split at hx
 case h_2 => cases hx
 rename_i e env1 ds1 st1 h1
 cases e <;> simp only at hx <;> try (cases hx; done)
 split at hx
 case h_2 => cases hx
 rename_i r1 hg1
 split at hx
 case h_2 => cases hx
 rename_i hready
 rw [wtK_eq] at hx
 split at hx
 case h_2 => cases hx
 rename_i L3 h3
 exact ⟨env1, ds1, st1, r1, L3, h1, hg1, hready, h3, hx⟩
theorem exYb_mono (hr : RecMono rec) {l : Nat} {r : SLoop} {env : Tr SV} {L : List (SV × St)} (h : exYb rec l r env st = some L) : ∀ p ∈ L, Mono st p.2 ∧ (l ∈ p.2.R ∨ st.base ≤ l) := by
 obtain ⟨env1, ds1, st1, r1, L3, h1, hg1, hready, h3, h4⟩ := exYb_some h
 intro p hp
 obtain ⟨o, ho, lx, e1, e2⟩ := (mapB_mem h4).2 p hp
 obtain ⟨p', hp', rfl⟩ := oneL_some e1
 rw [List.mem_singleton] at e2
 subst e2
 obtain ⟨v, s⟩ := p
 obtain ⟨r3, jump, hg3, hj, hv, rfl⟩ := yEnd_some hp'
 have m1 := hr _ _ _ _ _ _ _ h1 _ List.mem_cons_self
 have m3 := hr _ _ _ _ _ _ _ h3 _ ho
 have mset : ∀ {s : St} {r r' : SLoop}, s.h.get l = some (.loop r) → Imm r r' → Mono s ⟨s.h.set l (some (.loop r')), s.nx, s.base, ins s.base l s.R, ins s.base l s.W⟩ := fun hg i => ⟨Nat.le_refl _, rfl, ins_sub _ _ _, fun y _ => KeepL.set (by rw [hg]; simp) (fun q e => by
  simp only [SO.loop.injEq] at e
  subst e
  exact ⟨_, hg, i⟩) y⟩
 have m13 : Mono st o.2.2.2 := m1.trans ((mset (r' := { r1 with state := .busy }) hg1 ⟨rfl, rfl, rfl, rfl, rfl, rfl⟩).trans m3)
 refine ⟨m13.trans (mset hg3 ⟨rfl, rfl, rfl, rfl, rfl, rfl⟩), ?_⟩
 rcases ins_has o.2.2.2.base l o.2.2.2.R with q | q
 ·exact .inl q
 ·exact .inr (m13.base ▸ q)
theorem exY_mono (hr : RecMono rec) {l : Nat} {args : List SV} {L : List (SV × St)} (h : exY rec l args st = some L) : ∀ p ∈ L, Mono st p.2 := by
 unfold exY at h
 split at h
 ·obtain ⟨env, h⟩ := putsK_some h
  exact fun p hp => (exYb_mono hr h p hp).1
 ·cases h
theorem oneL_mono {r : Option (SV × St)} {L : List (SV × St)} (h : oneL r = some L) (hm : ∀ v s, r = some (v, s) → Mono st s) : ∀ p ∈ L, Mono st p.2 := by
 obtain ⟨p, hp, rfl⟩ := oneL_some h
 intro q hq
 rw [List.mem_singleton] at hq
 subst hq
 exact hm _ _ hp
theorem exO_mono (hr : RecMono rec) (hsm : SumMono sm) {env : Tr SV} {o : Oper} {L : List (SV × St)} (h : exO P sm rec env o st = some L) : ∀ p ∈ L, Mono st p.2 := by
 unfold exO at h
 split at h
 ·split at h
  ·exact oneL_mono h fun _ _ => biS_mono
  ·split at h
   ·exact exF_mono hr hsm h
   ·exact exY_mono hr h
   ·cases h
  ·cases h
 ·split at h
  ·exact nxS_mono h
  ·cases h
 ·exact oneL_mono h fun _ _ => opS_mono
theorem exL_mono (hr : RecMono rec) (hsm : SumMono sm) {N : Nat} {ops : List Oper} : ∀ {l : List Oper} {env : Tr SV} {st : St} {L : List (Tr SV × St)}, exL P sm rec N ops l env st = some L → ∀ p ∈ L, Mono st p.2
 | [], env, st, L, h => by
  simp only [exL, Option.some.injEq] at h
  subst h
  intro p hp
  rw [List.mem_singleton] at hp
  subst hp
  exact Mono.refl _
 | o :: l, env, st, L, h => by
  simp only [exL] at h
  split at h
  ·split at h
   ·rename_i L1 h1
    intro p hp
    obtain ⟨q, hq, lx, e1, e2⟩ := (mapB_mem h).2 p hp
    obtain ⟨env1, _, e1⟩ := putK_some e1
    exact (exO_mono hr hsm h1 q hq).trans (exL_mono hr hsm e1 p e2)
   ·cases h
  ·obtain ⟨env1, _, h⟩ := putK_some h
   exact exL_mono hr hsm h
  ·cases h
theorem exD_mono (hr : RecMono rec) (hsm : SumMono sm) {N : Nat} {ops : Array Oper} {env env' : Tr SV} (h : exD P sm rec N ops env st = some (env', st')) : Mono st st' := by
 obtain ⟨h0, nx0, bs, R0, W0⟩ := st
 simp only [exD] at h
 replace h := (bif_of h).2
 split at h
 case h_2 => cases h
 rename_i envE hE nxE ts hR
 replace h := (bif_of h).2
 obtain ⟨Rf, Wf, ht, hRf0, hWf0, htold⟩ := tellK_eq (b := bs) (ts := ts) (R := R0) (W := W0) (k := fun R' W' => some (envE, (⟨hE, nxE, bs, R', W'⟩ : St)))
 rw [ht] at h
 simp only [Option.some.injEq, Prod.mk.injEq] at h
 obtain ⟨rfl, rfl⟩ := h
 obtain ⟨E, H, X, T, hE0, hH0, hX0, hEn, hHn, hXn, hts, hst⟩ := exR_seq hR
 have hXs : ∀ i, i < ops.toList.length → X i ≤ X (i + 1) := fun i hi => (hst i ops.toList[i] (by simp)).le
 have := mono_nat hXs (i := 0) (j := ops.toList.length) (by omega) (Nat.le_refl _)
 rw [hX0, hXn] at this
 refine ⟨this, rfl, hRf0, fun x hx => ?_⟩
 have key : ∀ i, i ≤ ops.toList.length → KeepL ((H 0).get x) ((H i).get x) := by
  intro i
  induction i with
  | zero => exact fun _ => KeepL.refl _
  | succ i ih =>
   intro hi
   refine (ih (by omega)).trans ?_
   have s := hst i ops.toList[i] (by simp)
   have hxi : x < X i := by
    have := mono_nat hXs (i := 0) (j := i) (by omega) (by omega)
    rw [hX0] at this
    exact Nat.lt_of_lt_of_le hx this
   by_cases ht : x ∈ (T i).W ∨ (X i ≤ x ∧ x < X (i + 1))
   ·rcases s.is with ⟨_, q1, q2, _⟩ | ⟨_, v, hq, b, hx', q1, _⟩
    ·rcases ht with r | r
     ·rw [q1] at r; cases r
     ·omega
    ·rw [q1 x ht]
     exact (exO_mono hr hsm hx' _ List.mem_cons_self).lp x hxi
   ·rw [s.out x ht]; exact KeepL.refl _
 have := key ops.toList.length (Nat.le_refl _)
 rw [hH0, hHn] at this
 exact this
theorem rfE_some {ro : Option Nat} {N : Nat} {env : Tr SV} {ds0 : List Nat} {l : Nat} {L : List Out} (h : rfE rec ro N env ds0 l st = some L) : ∃ r, st.h.get l = some (.loop r) ∧ r.state ≠ .busy ∧
 (match r.pending with
   | none => some [(.nrm, env, ds0, ⟨st.h.set l (some (.loop { r with state := .exhausted })), st.nx, st.base, ins st.base l st.R, ins st.base l st.W⟩)]
   | some c => rec ro N c env ds0 ⟨st.h.set l (some (.loop { r with state := .exhausted })), st.nx, st.base, ins st.base l st.R, ins st.base l st.W⟩) = some L := by
 unfold rfE at h
 split at h
 case h_2 => cases h
 rename_i r hg
 refine ⟨r, hg, ?_, ?_⟩
 ·intro q; rw [q] at h; cases h
 ·split at h
  ·cases h
  ·rw [wtK_eq] at h; exact h
theorem rfE_mono (hr : RecMono rec) {ro : Option Nat} {N : Nat} {env : Tr SV} {ds0 : List Nat} {l : Nat} {L : List Out} (h : rfE rec ro N env ds0 l st = some L) : ∀ o ∈ L, Mono st o.2.2.2 ∧ (l ∈ o.2.2.2.R ∨ st.base ≤ l) := by
 obtain ⟨r, h1, h2, h3⟩ := rfE_some h
 intro o ho
 have m : Mono (⟨st.h.set l (some (.loop { r with state := .exhausted })), st.nx, st.base, ins st.base l st.R, ins st.base l st.W⟩ : St) o.2.2.2 := by
  split at h3
  ·simp only [Option.some.injEq] at h3
   subst h3
   rw [List.mem_singleton] at ho
   subst ho
   exact Mono.refl _
  ·exact hr _ _ _ _ _ _ _ h3 o ho
 have ms : Mono st ⟨st.h.set l (some (.loop { r with state := .exhausted })), st.nx, st.base, ins st.base l st.R, ins st.base l st.W⟩ := ⟨Nat.le_refl _, rfl, ins_sub _ _ _, fun y _ => KeepL.set (by rw [h1]; simp) (fun q e => by
  simp only [SO.loop.injEq] at e
  subst e
  exact ⟨_, h1, rfl, rfl, rfl, rfl, rfl, rfl⟩) y⟩
 refine ⟨ms.trans m, ?_⟩
 rcases ins_has st.base l st.R with q | q
 ·exact .inl (m.R l q)
 ·exact .inr q
theorem rfB_some {ro : Option Nat} {N : Nat} {g : Operand} {env : Tr SV} {ds0 : List Nat} {l : Nat} {L : List Out} (h : rfB P sm rec ro N g env ds0 l st = some L) : ∃ f first cap L3, svOp env g = .fn f first cap ∧ exF P sm rec f (appS first (.yield l :: cap)) st = some L3 ∧ mapB (fun p => rfE rec ro N env ds0 l p.2) L3 = some L := by
 unfold rfB at h
 split at h
 case h_2 => cases h
 rename_i f first cap hsv
 split at h
 case h_2 => cases h
 rename_i L3 h3
 exact ⟨f, first, cap, L3, hsv, h3, h⟩
theorem rfB_mono (hr : RecMono rec) (hsm : SumMono sm) {ro : Option Nat} {N : Nat} {g : Operand} {env : Tr SV} {ds0 : List Nat} {l : Nat} {L : List Out} (h : rfB P sm rec ro N g env ds0 l st = some L) : ∀ o ∈ L, Mono st o.2.2.2 ∧ (l ∈ o.2.2.2.R ∨ st.base ≤ l) := by
 obtain ⟨f, first, cap, L3, h1, h2, h3⟩ := rfB_some h
 intro o ho
 obtain ⟨p, hp, lx, e1, e2⟩ := (mapB_mem h3).2 o ho
 have m := exF_mono hr hsm h2 p hp
 obtain ⟨g1, g2⟩ := rfE_mono hr e1 o e2
 exact ⟨m.trans g1, by rw [← m.base]; exact g2⟩
theorem rfS_mono (hr : RecMono rec) (hsm : SumMono sm) {ro : Option Nat} {N : Nat} {g : Operand} {ps : Array Tmp} {assign body : Code} {env : Tr SV} {ds : List Nat} {L : List Out} (h : rfS P sm rec ro N g ps assign body env ds st = some L) : ∀ o ∈ L, Mono st o.2.2.2 := by
 intro o ho
 unfold rfS at h
 split at h
 ·refine Mono.new h ?_
  intro d st1 h
  refine Mono.new h ?_
  intro l st2 h
  exact (rfB_mono hr hsm h o ho).1
 ·rename_i l0
  split at h
  ·rename_i r0 hg
   rw [insK_eq, newK_eq] at h
   have := (rfB_mono hr hsm h o ho).1
   exact ⟨Nat.le_trans (Nat.le_succ _) this.nx, this.base, fun x hx => this.R x (ins_sub _ _ _ x hx), fun x hx => (KeepL.new hx).trans (this.lp x (Nat.lt_succ_of_lt hx))⟩
  ·cases h
theorem outs1 {o o' : Out} {L : List Out} (h : some [o'] = some L) (ho : o ∈ L) : o = o' := by
 simp only [Option.some.injEq] at h
 subst h
 rwa [List.mem_singleton] at ho
theorem thnS_mono (hr : RecMono rec) {ro : Option Nat} {N : Nat} {y : Code} {o : Out} {L : List Out} (h : thnS rec ro N y o = some L) : ∀ o' ∈ L, Mono o.2.2.2 o'.2.2.2 := by
 obtain ⟨e, env', ds', st1⟩ := o
 intro o' ho'
 cases e <;> simp only [thnS] at h
 ·exact hr _ _ _ _ _ _ _ h o' ho'
 all_goals (rw [outs1 h ho']; exact Mono.refl _)
theorem stepC_mono (hr : RecMono rec) (hsm : SumMono sm) : RecMono (stepC P sm rec) := by
 intro ro N c env ds st L h o ho
 cases c <;> simp only [stepC] at h
 case skip => rw [outs1 h ho]; exact Mono.refl _
 case region id ops draw =>
  split at h
  ·split at h
   ·rename_i L1 h1
    obtain ⟨p, hp, lx, e1, e2⟩ := (mapB_mem h).2 o ho
    rw [outs1 e1 e2]
    exact exL_mono hr hsm h1 p hp
   ·cases h
  ·split at h
   ·rename_i p h1
    rw [outs1 h ho]
    exact exD_mono hr hsm h1
   ·cases h
 case seq x y =>
  split at h
  ·rename_i L1 h1
   obtain ⟨p, hp, lx, e1, e2⟩ := (mapB_mem h).2 o ho
   exact (hr _ _ _ _ _ _ _ h1 p hp).trans (thnS_mono hr e1 o e2)
  ·cases h
 case cond c x y =>
  split at h
  ·exact hr _ _ _ _ _ _ _ h o ho
  ·exact hr _ _ _ _ _ _ _ h o ho
  ·cases h
 case block id b =>
  split at h
  ·rename_i L1 h1
   obtain ⟨p, hp, lx, e1, e2⟩ := (mapB_mem h).2 o ho
   refine (hr _ _ _ _ _ _ _ h1 p hp).trans ?_
   obtain ⟨e, env', ds', st1⟩ := p
   cases e <;> simp only [blkS] at e1
   case ext i =>
    refine Mono.bif e1 ?_ ?_ <;> intro h <;> (rw [outs1 h e2]; exact Mono.refl _)
   all_goals (rw [outs1 e1 e2]; exact Mono.refl _)
  ·cases h
 case loop b =>
  split at h
  ·rename_i L1 h1
   obtain ⟨p, hp, lx, e1, e2⟩ := (mapB_mem h).2 o ho
   exact (hr _ _ _ _ _ _ _ h1 p hp).trans (thnS_mono hr e1 o e2)
  ·cases h
 case rangeFunc g ps assign body => exact rfS_mono hr hsm h o ho
 case exit id => rw [outs1 h ho]; exact Mono.refl _
 case scope b =>
  split at h
  ·rename_i L1 h1
   obtain ⟨p, hp, lx, e1, e2⟩ := (mapB_mem h).2 o ho
   refine (hr _ _ _ _ _ _ _ h1 p hp).trans ?_
   obtain ⟨e, env', ds', st1⟩ := p
   cases e <;> simp only [scoS] at e1 <;> first
    |(cases e1; done)
    |(rw [outs1 e1 e2]; exact Mono.refl _)
  ·cases h
 case label l => rw [outs1 h ho]; exact Mono.refl _
 case goto l => rw [outs1 h ho]; exact Mono.refl _
 case ret => rw [outs1 h ho]; exact Mono.refl _
 case refuse => cases h
def RecNE (rec : Rec) : Prop := ∀ ro N c env ds st L, rec ro N c env ds st = some L → L ≠ []
theorem mapB_ne {α β : Type} {f : α → Option (List β)} {l : List α} {L : List β} (h : mapB f l = some L) (hl : l ≠ []) (hf : ∀ x lx, f x = some lx → lx ≠ []) : L ≠ [] := by
 obtain ⟨x, r, rfl⟩ := List.exists_cons_of_ne_nil hl
 obtain ⟨lx, e1, e2⟩ := (mapB_mem h).1 x (by simp)
 obtain ⟨y, ry, rfl⟩ := List.exists_cons_of_ne_nil (hf x lx e1)
 exact List.ne_nil_of_mem (e2 y (by simp))
theorem oneL_ne {α : Type} {r : Option α} {L : List α} (h : oneL r = some L) : L ≠ [] := by
 obtain ⟨p, _, rfl⟩ := oneL_some h
 simp
theorem nxS_ne {x : SV} {L : List (SV × St)} (h : nxS x st = some L) : L ≠ [] := by
 unfold nxS at h
 split at h
 ·split at h
  ·rw [insK_eq] at h
   simp only [Option.some.injEq] at h
   subst h; simp
  ·replace h := (bif_of h).2
   obtain ⟨es, c, _, h⟩ := rdMK_some h
   replace h := (bif_of h).2
   split at h
   ·rw [insK_eq] at h
    simp only [Option.some.injEq] at h
    subst h; simp
   ·exact List.ne_nil_of_mem (outsS_at h _ List.mem_cons_self)
  ·cases h
 ·cases h
theorem exF_ne (hr : RecNE rec) {f : FuncId} {args : List SV} {L : List (SV × St)} (h : exF P sm rec f args st = some L) : L ≠ [] := by
 unfold exF at h
 split at h
 ·exact oneL_ne h
 ·split at h
  ·split at h
   ·refine Mono.bif h ?_ ?_ <;> intro h
    ·obtain ⟨env, h⟩ := envK_some h
     split at h
     ·rename_i L0 hL0
      split at h
      ·rename_i R hR
       simp only [Option.some.injEq] at h
       subst h
       exact joinL_ne (mapB_ne hR (hr _ _ _ _ _ _ _ hL0) fun _ _ => oneL_ne)
      ·cases h
     ·cases h
    ·cases h
   ·cases h
  ·cases h
theorem exYb_ne (hr : RecNE rec) {l : Nat} {r : SLoop} {env : Tr SV} {L : List (SV × St)} (h : exYb rec l r env st = some L) : L ≠ [] := by
 obtain ⟨env1, ds1, st1, r1, L3, h1, hg1, hready, h3, h4⟩ := exYb_some h
 exact mapB_ne h4 (hr _ _ _ _ _ _ _ h3) fun _ _ => oneL_ne
theorem exO_ne (hr : RecNE rec) {env : Tr SV} {o : Oper} {L : List (SV × St)} (h : exO P sm rec env o st = some L) : L ≠ [] := by
 unfold exO at h
 split at h
 ·split at h
  ·exact oneL_ne h
  ·split at h
   ·exact exF_ne hr h
   ·unfold exY at h
    split at h
    ·obtain ⟨env, h⟩ := putsK_some h
     exact exYb_ne hr h
    ·cases h
   ·cases h
  ·cases h
 ·split at h
  ·exact nxS_ne h
  ·cases h
 ·exact oneL_ne h
theorem exL_ne (hr : RecNE rec) {N : Nat} {ops : List Oper} : ∀ {l : List Oper} {env : Tr SV} {st : St} {L : List (Tr SV × St)}, exL P sm rec N ops l env st = some L → L ≠ []
 | [], env, st, L, h => by
  simp only [exL, Option.some.injEq] at h
  subst h; simp
 | o :: l, env, st, L, h => by
  simp only [exL] at h
  split at h
  ·split at h
   ·rename_i L1 h1
    refine mapB_ne h (exO_ne hr h1) ?_
    intro p lx e1
    obtain ⟨env1, _, e1⟩ := putK_some e1
    exact exL_ne hr e1
   ·cases h
  ·obtain ⟨env1, _, h⟩ := putK_some h
   exact exL_ne hr h
  ·cases h
theorem rfE_ne (hr : RecNE rec) {ro : Option Nat} {N : Nat} {env : Tr SV} {ds0 : List Nat} {l : Nat} {L : List Out} (h : rfE rec ro N env ds0 l st = some L) : L ≠ [] := by
 obtain ⟨r, h1, h2, h3⟩ := rfE_some h
 split at h3
 ·simp only [Option.some.injEq] at h3
  subst h3; simp
 ·exact hr _ _ _ _ _ _ _ h3
theorem rfB_ne (hr : RecNE rec) {ro : Option Nat} {N : Nat} {g : Operand} {env : Tr SV} {ds0 : List Nat} {l : Nat} {L : List Out} (h : rfB P sm rec ro N g env ds0 l st = some L) : L ≠ [] := by
 obtain ⟨f, first, cap, L3, h1, h2, h3⟩ := rfB_some h
 exact mapB_ne h3 (exF_ne hr h2) fun _ _ => rfE_ne hr
theorem one_ne {α : Type} {p : α} {L : List α} (h : some [p] = some L) : L ≠ [] := by
 simp only [Option.some.injEq] at h
 subst h; simp
theorem thnS_ne (hr : RecNE rec) {ro : Option Nat} {N : Nat} {y : Code} {o : Out} {L : List Out} (h : thnS rec ro N y o = some L) : L ≠ [] := by
 obtain ⟨e, env', ds', st1⟩ := o
 cases e <;> simp only [thnS] at h
 ·exact hr _ _ _ _ _ _ _ h
 all_goals exact one_ne h
theorem blkS_ne {id : Nat} {o : Out} {L : List Out} (h : blkS id o = some L) : L ≠ [] := by
 obtain ⟨e, env', ds', st1⟩ := o
 cases e <;> simp only [blkS] at h
 case ext i => refine Mono.bif h ?_ ?_ <;> intro h <;> exact one_ne h
 all_goals exact one_ne h
theorem scoS_ne {o : Out} {L : List Out} (h : scoS o = some L) : L ≠ [] := by
 obtain ⟨e, env', ds', st1⟩ := o
 cases e <;> simp only [scoS] at h <;> first
  |(cases h; done)
  | exact one_ne h
theorem stepC_ne (hr : RecNE rec) : RecNE (stepC P sm rec) := by
 intro ro N c env ds st L h
 cases c <;> simp only [stepC] at h
 case skip => exact one_ne h
 case region id ops draw =>
  split at h
  ·split at h
   ·rename_i L1 h1
    exact mapB_ne h (exL_ne hr h1) fun _ _ => one_ne
   ·cases h
  ·split at h
   ·exact one_ne h
   ·cases h
 case seq x y =>
  split at h
  ·rename_i L1 h1
   exact mapB_ne h (hr _ _ _ _ _ _ _ h1) fun _ _ => thnS_ne hr
  ·cases h
 case cond c x y =>
  split at h
  ·exact hr _ _ _ _ _ _ _ h
  ·exact hr _ _ _ _ _ _ _ h
  ·cases h
 case block id b =>
  split at h
  ·rename_i L1 h1
   exact mapB_ne h (hr _ _ _ _ _ _ _ h1) fun _ _ => blkS_ne
  ·cases h
 case loop b =>
  split at h
  ·rename_i L1 h1
   exact mapB_ne h (hr _ _ _ _ _ _ _ h1) fun _ _ => thnS_ne hr
  ·cases h
 case rangeFunc g ps assign body =>
  unfold rfS at h
  split at h
  ·simp only [newK_eq] at h
   exact rfB_ne hr h
  ·split at h
   ·rw [insK_eq, newK_eq] at h
    exact rfB_ne hr h
   ·cases h
 case exit id => exact one_ne h
 case scope b =>
  split at h
  ·rename_i L1 h1
   exact mapB_ne h (hr _ _ _ _ _ _ _ h1) fun _ _ => scoS_ne
  ·cases h
 case label l => exact one_ne h
 case goto l => exact one_ne h
 case ret => exact one_ne h
 case refuse => cases h
end
end Go.TX
