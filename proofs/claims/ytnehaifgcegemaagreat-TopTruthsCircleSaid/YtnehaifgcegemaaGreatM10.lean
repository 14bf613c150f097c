/-
  What is proved here: forms of the evaluator that are quick to reckon are the evaluator; a program whose tables are reckoned ahead is the same program. Conditions: none.
  What is proved here: each function with a body is entered by a call, if none is named as the machine's own; no summaries. Conditions: none; each lemma states its own.
  What is proved here: calls at no arguments that answer yes may be used as known while others are reckoned. Conditions: none; each lemma states its own.
  What is proved here: a call that answers yes, as a contract. Conditions: none; each lemma states its own.
  What is proved here: the law TopTruthsCircle, as a contract. Conditions: its contract states them.
  What is proved here: a function that makes a copy of a map may be used as known while calls are reckoned. Conditions: none; each lemma states its own.
-/
import Derived.Test.YtnehaifgcegemaaGreatM8
import Derived.Test.YtnehaifgcegemaaGreatM9
import Derived.Test.YtnehaifgcegemaaGreatM1
import Derived.Test.YtnehaifgcegemaaGreatM6
import Derived.Test.YtnehaifgcegemaaGreatM4
set_option linter.unusedVariables false
set_option linter.unusedSimpArgs false
namespace Go.TX
open Go Go.TH
noncomputable section
def forceK {α β:Type}:List α→(List α→β)→β
  | [],k=>k []
  | x::r,k=>forceK r (fun t=>k (x::t))
theorem forceK_eq {α β:Type}:∀ (l:List α) (k:List α→β),forceK l k=k l
  | [],_=>rfl
  | x::r,k=>by rw [forceK,forceK_eq r]
def fastK {β:Type} (P:Program) (k:Program→β):β:=match P with
  | ⟨⟨v,pl,io,gd,⟨ts⟩,rt,ct,gl,ini,mn,fo⟩,⟨fs⟩⟩=>forceK ts fun ts'=>forceK fs fun fs'=>k ⟨⟨v,pl,io,gd,⟨ts'⟩,rt,ct,gl,ini,mn,fo⟩,⟨fs'⟩⟩
theorem fastK_eq {β:Type} (P:Program) (k:Program→β):fastK P k=k P:=by
  unfold fastK
  simp only [forceK_eq]
def mapF {α β:Type} (f:α→Option (List β)) (l:List α):Option (List β):=List.rec (motive:=fun _=>Option (List β)) (some []) (fun x r ih=>List.rec (motive:=fun _=>Option (List β)) (f x) (fun _ _ _=>Option.rec (motive:=fun _=>Option (List β)) none (fun l=>Option.rec (motive:=fun _=>Option (List β)) none (fun l'=>some (l++l')) ih) (f x)) r) l
theorem mapF_eq {α β:Type} (f:α→Option (List β)):∀ (l:List α),mapF f l=mapB f l
  | []=>by unfold mapB;rfl
  | [x]=>by
    unfold mapB
    show f x=_
    cases f x <;> rfl
  | x::y::r=>by
    have ih:=mapF_eq f (y::r)
    unfold mapB
    show Option.rec (motive:=fun _=>Option (List β)) none (fun l=>Option.rec (motive:=fun _=>Option (List β)) none (fun l'=>some (l++l')) (mapF f (y::r))) (f x)=_
    rw [ih]
    cases f x with
    | none=>rfl
    | some l =>
      show _=match mapB f (y::r) with
        | some l'=>some (l++l')
        | none=>none
      cases mapB f (y::r) <;> rfl
def bnd {α β:Type} (r:Option (List α)) (k:α→Option (List β)):Option (List β):=match r with
  | some L=>mapB k L
  | none=>none
theorem mapB_one {α β:Type} (k:α→Option (List β)) (x:α):mapB k [x]=k x:=by unfold mapB;cases k x <;> rfl
theorem bnd_one {α β:Type} (k:α→Option (List β)) (x:α):bnd (some [x]) k=k x:=mapB_one k x
theorem mapB_cons {α β:Type} (f:α→Option (List β)) (x y:α) (r:List α):mapB f (x::y::r)=match f x with
    | some l=>match mapB f (y::r) with
      | some l'=>some (l++l')
      | none=>none
    | none=>none:=by
  rw [mapB]
  cases f x with
  | none=>rfl
  | some l=>rfl
theorem mapB_nil {α β:Type} (f:α→Option (List β)):mapB f []=some []:=by unfold mapB;rfl
theorem mapB_app {α β:Type} (f:α→Option (List β)):∀ (l r:List α),mapB f (l++r)=match mapB f l with
    | some a=>match mapB f r with
      | some b=>some (a++b)
      | none=>none
    | none=>none
  | [],r=>by
    rw [List.nil_append,mapB_nil]
    cases mapB f r <;> rfl
  | [x],[]=>by
    rw [List.append_nil,mapB_nil]
    cases mapB f [x] with
    | none=>rfl
    | some a=>simp
  | [x],y::r=>by
    rw [List.cons_append,List.nil_append,mapB_cons,mapB_one]
  | x::y::l,r=>by
    have ih:=mapB_app f (y::l) r
    rw [List.cons_append,List.cons_append,mapB_cons,mapB_cons,← List.cons_append,ih]
    cases f x with
    | none=>rfl
    | some a =>
      cases mapB f (y::l) with
      | none=>rfl
      | some b=>cases mapB f r <;> simp
theorem mapB_bnd {α β γ:Type} (f:α→Option (List β)) (g:β→Option (List γ)):∀ (l:List α),bnd (mapB f l) g=mapB (fun x=>bnd (f x) g) l
  | []=>by rw [mapB_nil,mapB_nil];exact mapB_nil g
  | [x]=>by rw [mapB_one,mapB_one]
  | x::y::r=>by
    have ih:=mapB_bnd f g (y::r)
    rw [mapB_cons,mapB_cons,← ih]
    cases f x with
    | none=>rfl
    | some a =>
      cases mapB f (y::r) with
      | none =>
        show none=match mapB g a with
          | some l=>_
          | none=>none
        cases mapB g a <;> rfl
      | some b =>
        show mapB g (a++b)=_
        rw [mapB_app];rfl
theorem bnd_bnd {α β γ:Type} (r:Option (List α)) (f:α→Option (List β)) (g:β→Option (List γ)):bnd (bnd r f) g=bnd r (fun x=>bnd (f x) g):=by
  cases r with
  | none=>rfl
  | some l=>exact mapB_bnd f g l
theorem bnd_pure {α:Type} (r:Option (List α)):bnd r (fun x=>some [x])=r:=by
  cases r with
  | none=>rfl
  | some l =>
    show mapB _ l=some l
    have:∀ l:List α,mapB (fun x=>some [x]) l=some l:=by
      intro l
      induction l with
      | nil=>exact mapB_nil _
      | cons x r ih =>
        cases r with
        | nil=>exact mapB_one _ _
        | cons y r=>rw [mapB_cons,ih];rfl
    exact this l
theorem bnd_oneL {α β:Type} (r:Option α) (k:α→Option (List β)):bnd (oneL r) k=match r with
    | some p=>k p
    | none=>none:=by
  cases r with
  | none=>rfl
  | some p=>exact bnd_one k p
def bnd1 {α β:Type} (r:Option (List α)) (k:α→Option β):Option β:=match r with
  | some [p]=>k p
  | _=>none
def fin (md:Bool) (r:Option (List (SV × St))) (k:SV→St→RB):RB:=Option.rec (motive:=fun _=>RB) none (fun L=>Bool.rec (motive:=fun _=>RB) (mapF (fun p=>Prod.rec (motive:=fun _=>RB) k p) L) (List.rec (motive:=fun _=>RB) none (fun p r _=>List.rec (motive:=fun _=>RB) (Prod.rec (motive:=fun _=>RB) k p) (fun _ _ _=>none) r) L) md) r
theorem fin_eq (md:Bool) (r:Option (List (SV × St))) (k:SV→St→RB):fin md r k=match md with
    | false=>bnd r (fun p=>k p.1 p.2)
    | true=>bnd1 r (fun p=>k p.1 p.2):=by
  cases md with
  | false =>
    cases r with
    | none=>rfl
    | some L =>
      show mapF _ L=mapB _ L
      rw [mapF_eq]
  | true =>
    rcases r with _ | (_ | ⟨p,_ | ⟨q,l⟩⟩) <;> rfl
def stK (r:Option (SV × St)) (k:SV→St→RB):RB:=Option.rec (motive:=fun _=>RB) none (fun p=>Prod.rec (motive:=fun _=>RB) k p) r
def puK (r:Option SV) (st:St) (k:SV→St→RB):RB:=Option.rec (motive:=fun _=>RB) none (fun v=>k v st) r
theorem fin_oneL (md:Bool) (r:Option (SV × St)) (k:SV→St→RB):stK r k=fin md (oneL r) k:=by
  rw [fin_eq]
  cases r with
  | none=>cases md <;> rfl
  | some p=>cases md with
    | true=>rfl
    | false=>exact (mapB_one (fun p:SV × St=>k p.1 p.2) p).symm
theorem fin_puK (md:Bool) (r:Option SV) (st:St) (k:SV→St→RB):puK r st k=fin md (oneL (withS r st)) k:=by
  rw [← fin_oneL]
  cases r <;> rfl
theorem fin_none (md:Bool) (k:SV→St→RB):fin md none k=none:=rfl
structure KX where
  get:Tr SV→SV
def compX:Operand→KX:=Operand.rec (motive:=fun _=>KX) (fun t=>Tr.Acc.rec (motive:=fun _=>KX) (fun g _=>⟨fun env=>Option.rec (motive:=fun _=>SV) (.raw undef) (fun v=>v) (g env)⟩) (Tr.acc (α:=SV) (β:=Unit) t)) (fun v=>⟨fun _=>svOf v⟩) (fun g=>⟨fun _=>.raw (.pointer (some ⟨g,0,none⟩))⟩) (fun f=>⟨fun _=>.fn f [] []⟩)
theorem compX_get (x:Operand):(compX x).get=fun env=>svOp env x:=by
  cases x with
  | tmp t =>
    funext env
    show (Tr.Acc.rec (motive:=fun _=>KX) (fun g _=>⟨fun env=>Option.rec (motive:=fun _=>SV) (.raw undef) (fun v=>v) (g env)⟩) (Tr.acc (α:=SV) (β:=Unit) t):KX).get env=match env.get t with
      | some v=>v
      | none=>.raw undef
    unfold Tr.get
    generalize (Tr.acc t:Tr.Acc SV Unit)=a
    cases a with
    | mk g s =>
      show Option.rec (motive:=fun _=>SV) (.raw undef) (fun v=>v) (g env)=match g env with
        | some v=>v
        | none=>.raw undef
      cases g env <;> rfl
  | _=>rfl
def kX1 {α:Type} (x:Operand) (f:(Tr SV→SV)→α):α:=KX.rec (motive:=fun _=>α) (fun g=>f g) (compX x)
theorem kX1_eq {α:Type} (x:Operand) (f:(Tr SV→SV)→α):kX1 x f=f (fun env=>svOp env x):=by
  rw [← compX_get]
  unfold kX1
  cases compX x;rfl
structure KXs where
  get:Tr SV→List SV
def compXs:List Operand→KXs:=List.rec (motive:=fun _=>KXs) ⟨fun _=>[]⟩ (fun x _ ih=>KX.rec (motive:=fun _=>KXs) (fun g=>KXs.rec (motive:=fun _=>KXs) (fun gs=>⟨fun env=>g env::gs env⟩) ih) (compX x))
theorem compXs_get:∀ (xs:List Operand),(compXs xs).get=fun env=>svOps env xs
  | []=>rfl
  | x::r=>by
    have h1:=compX_get x
    have h2:=compXs_get r
    funext env
    show (KX.rec (motive:=fun _=>KXs) (fun g=>KXs.rec (motive:=fun _=>KXs) (fun gs=>⟨fun env=>g env::gs env⟩) (compXs r)) (compX x):KXs).get env=svOp env x::svOps env r
    generalize compX x=a at *
    generalize compXs r=b at *
    cases a with
    | mk ga =>
      cases b with
      | mk gb =>
        show ga env::gb env=_
        rw [show ga=_ from h1,show gb=_ from h2]
def kXs {α:Type} (xs:List Operand) (f:(Tr SV→List SV)→α):α:=KXs.rec (motive:=fun _=>α) (fun g=>f g) (compXs xs)
theorem kXs_eq {α:Type} (xs:List Operand) (f:(Tr SV→List SV)→α):kXs xs f=f (fun env=>svOps env xs):=by
  rw [← compXs_get]
  unfold kXs
  cases compXs xs;rfl
def envF (l:List SV):Nat→Tr SV→(Tr SV→RB)→RB:=List.rec (motive:=fun _=>Nat→Tr SV→(Tr SV→RB)→RB) (fun _ env k=>k env) (fun x _ ih i env k=>env.setK i (some x) fun env'=>ih (Nat.succ i) env' k) l
theorem envF_eq:∀ (l:List SV) (i:Nat) (env:Tr SV) (k:Tr SV→RB),envF l i env k=envK l i env k
  | [],_,_,_=>rfl
  | x::r,i,env,k=>by
    simp only [envK,← envF_eq r]
    rfl
abbrev RecK:=Option Nat→Nat→Code→Tr SV→List Nat→St→(Ex→Tr SV→List Nat→St→RB)→RB
def RecOK (rk:RecK) (rec:Rec):Prop:=∀ ro N c env ds st (k:Ex→Tr SV→List Nat→St→RB),rk ro N c env ds st k=bnd (rec ro N c env ds st) (fun o=>k o.1 o.2.1 o.2.2.1 o.2.2.2)
inductive KOp where
  /-- nothing is looked at but the temporaries -/
  | pur (f:Tr SV→(SV→RB)→RB)
  | gen (f:RecK→Tr SV→St→(SV→St→RB)→RB)
def KOp.run:KOp→RecK→Tr SV→St→(SV→St→RB)→RB
  | .pur f=>fun _ env st k=>f env fun v=>k v st
  | .gen f=>f
def kNo:KOp:=.pur fun _ _=>none
def boK (P:Program) (op:BinOp) (T:TypeId) (xo yo:Operand) (x y:Tr SV→SV):KOp:=match bqOf op with
  | some q=>.pur fun env k=>intF (x env) (puG k (boS P op T xo yo (x env) (y env))) fun kd m=>intF (y env) (puG k (boS P op T xo yo (x env) (y env))) fun kd' n=>q kd m kd' n k
  | none=>.pur fun env k=>puG k (boS P op T xo yo (x env) (y env))
theorem boK_run (P:Program) (op:BinOp) (T:TypeId) (xo yo:Operand) (x y:Tr SV→SV) (rk:RecK) (env:Tr SV) (st:St) (k:SV→St→RB):(boK P op T xo yo x y).run rk env st k=puG (fun v=>k v st) (boS P op T xo yo (x env) (y env)):=by
  unfold boK
  cases hq:bqOf op with
  | none=>rfl
  | some q =>
    show intF (x env) (puG (fun v=>k v st) (boS P op T xo yo (x env) (y env))) (fun kd m=>intF (y env) (puG (fun v=>k v st) (boS P op T xo yo (x env) (y env))) fun kd' n=>q kd m kd' n fun v=>k v st)=_
    generalize x env=a
    generalize y env=b
    cases a with
    | raw a =>
      cases a with
      | int kd m =>
        cases b with
        | raw b =>
          cases b with
          | int kd' n =>
            show q kd m kd' n (fun v=>k v st)=puG (fun v=>k v st) (ibS op kd m kd' n)
            rw [bqOf_ok hq]
            cases ibS op kd m kd' n <;> rfl
          | _=>rfl
        | _=>rfl
      | _=>rfl
    | _=>rfl
def cX1 (x:Operand) (f:(Tr SV→SV)→KOp):KOp:=kX1 x f
theorem cX1_eq (x:Operand) (f:(Tr SV→SV)→KOp):cX1 x f=f (fun env=>svOp env x):=kX1_eq x f
structure KF where
  run:RecK→List SV→St→Option (List (SV × St))
def ansOf (p:SV × St):Ans:=⟨p.1,.nrm,.lf,[],p.2⟩
def unOf (a:Ans):SV × St:=(a.v,a.st)
theorem unOf_map:∀ (l:List (SV × St)),(l.map ansOf).map unOf=l
  | []=>rfl
  | p::r=>congrArg (p::·) (unOf_map r)
def fnA (r:Option (SV × St)):RB:=Option.rec (motive:=fun _=>RB) none (fun p=>Prod.rec (motive:=fun _=>RB) (fun v st=>some [⟨v,.nrm,.lf,[],st⟩]) p) r
theorem fnA_eq (r:Option (SV × St)):fnA r=(oneL r).map (List.map ansOf):=by cases r <;> rfl
theorem mapB_map {α β γ:Type} (f:α→Option (List β)) (h:β→γ):∀ (l:List α),mapB (fun x=>(f x).map (List.map h)) l=(mapB f l).map (List.map h)
  | []=>by rw [mapB_nil,mapB_nil];rfl
  | [x]=>by rw [mapB_one,mapB_one]
  | x::y::r=>by
    rw [mapB_cons,mapB_cons,mapB_map f h (y::r)]
    cases f x with
    | none=>rfl
    | some a =>
      cases mapB f (y::r) with
      | none=>rfl
      | some b=>simp
theorem bnd_fnA {α:Type} (r:Option (List α)) (g:α→Option (SV × St)):bnd r (fun o=>fnA (g o))=(bnd r (fun o=>oneL (g o))).map (List.map ansOf):=by
  cases r with
  | none=>rfl
  | some L =>
    show mapB _ L=Option.map _ (mapB _ L)
    rw [← mapB_map]
    simp only [fnA_eq]
theorem bnd_map {α β:Type} (r:Option (List α)) (h:α→β):bnd r (fun x=>some [h x])=r.map (List.map h):=by
  have:=bnd_pure r
  cases r with
  | none=>rfl
  | some L =>
    have e:mapB (fun x=>some [x]) L=some L:=this
    show mapB (fun x=>(some [x]).map (List.map h)) L=_
    rw [mapB_map,e]
def unA (r:RB):Option (List (SV × St)):=Option.rec (motive:=fun _=>Option (List (SV × St))) none (fun L=>some (List.rec (motive:=fun _=>List (SV × St)) [] (fun a _ ih=>Ans.rec (motive:=fun _=>List (SV × St)) (fun v _ _ _ st=>(v,st)::ih) a) L)) r
theorem unA_eq (r:RB):unA r=r.map (List.map unOf):=by
  cases r with
  | none=>rfl
  | some L =>
    show some _=some _
    congr 1
    induction L with
    | nil=>rfl
    | cons a L ih =>
      obtain ⟨v,e,env,ds,st⟩:=a
      exact congrArg ((v,st)::·) ih
theorem unA_bnd {α:Type} (r:Option (List α)) (g:α→Option (SV × St)):unA (bnd r (fun o=>fnA (g o)))=bnd r (fun o=>oneL (g o)):=by
  rw [unA_eq,bnd_fnA]
  cases bnd r (fun o=>oneL (g o)) with
  | none=>rfl
  | some L=>show some _=some _;rw [unOf_map]
def joinF (n0:Nat) (l:List Ans):List (SV × St):=List.rec (motive:=fun _=>List (SV × St)) [] (fun a r _=>List.rec (motive:=fun _=>List (SV × St)) (Ans.rec (motive:=fun _=>List (SV × St)) (fun v _ _ _ st=>[(v,st)]) a) (fun _ _ _=>joinLF n0 (l.map unOf)) r) l
theorem joinF_eq (n0:Nat) (l:List (SV × St)):joinF n0 (l.map ansOf)=joinL n0 l:=by
  rcases l with _ | ⟨p,_ | ⟨q,r⟩⟩
  · rfl
  · rfl
  · show joinLF n0 (((p::q::r).map ansOf).map unOf)=_
    rw [unOf_map,joinLF_eq]
def someJ (n0:Nat) (r:RB):Option (List (SV × St)):=Option.rec (motive:=fun _=>Option (List (SV × St))) none (fun R=>some (joinF n0 R)) r
def compF (P:Program) (sm:Sums) (f:FuncId):KF:=match sm f with
  | some s=>⟨fun _ args st=>oneL (s args st)⟩
  | none=>match P.funcs[f]? with
    | some fn=>match fn.body with
      | some c=>⟨fun rk args st=>Bool.rec (motive:=fun _=>Option (List (SV × St))) none (someJ st.nx (envF args 0 .lf fun env=>rk none fn.ntmps c env [] st fun e env ds st=>fnA (finS P fn (e,env,ds,st)))) (Nat.ble (llenF args) fn.ntmps)⟩
      | none=>⟨fun _ _ _=>none⟩
    | none=>⟨fun _ _ _=>none⟩
theorem compF_eq (P:Program) (sm:Sums) {rk:RecK} {rec:Rec} (h:RecOK rk rec) (f:FuncId) (args:List SV) (st:St):(compF P sm f).run rk args st=exF P sm rec f args st:=by
  unfold compF exF
  cases sm f with
  | some s=>rfl
  | none =>
    cases P.funcs[f]? with
    | none=>rfl
    | some fn =>
      cases hb:fn.body with
      | none=>simp only [hb]
      | some c =>
        simp only [hb,llenF_eq]
        cases Nat.ble (llen args) fn.ntmps with
        | false=>rfl
        | true =>
          show someJ st.nx (envF args 0 .lf fun env=>rk none fn.ntmps c env [] st fun e env ds st=>fnA (finS P fn (e,env,ds,st)))=envK args 0 .lf _
          have hk:∀ (l:List SV) (i:Nat) (env:Tr SV) (k1:Tr SV→RB) (k2:Tr SV→Option (List (SV × St))),(∀ env,someJ st.nx (k1 env)=k2 env)→someJ st.nx (envF l i env k1)=envK l i env k2:=by
            intro l
            induction l with
            | nil=>intro i env k1 k2 hk;exact hk env
            | cons x r ih =>
              intro i env k1 k2 hk
              simp only [envF_eq,envK,Tr.setK_eq]
              rw [← envF_eq]
              exact ih _ _ _ _ hk
          refine hk _ _ _ _ _ fun env=>?_
          rw [h]
          show someJ st.nx (bnd _ fun o=>fnA (finS P fn o))=_
          rw [bnd_fnA]
          cases rec none fn.ntmps c env [] st with
          | none=>rfl
          | some L =>
            show someJ st.nx (Option.map _ (mapB (fun o=>oneL (finS P fn o)) L))=match mapB (fun o=>oneL (finS P fn o)) L with
              | some R=>some (joinL st.nx R)
              | none=>none
            cases mapB (fun o=>oneL (finS P fn o)) L with
            | none=>rfl
            | some R=>show some (joinF st.nx (R.map ansOf))=_;rw [joinF_eq]
def exFK (P:Program) (sm:Sums) (rk:RecK) (f:FuncId) (args:List SV) (st:St):Option (List (SV × St)):=KF.rec (motive:=fun _=>Option (List (SV × St))) (fun run=>run rk args st) (compF P sm f)
theorem exFK_eq (P:Program) (sm:Sums) {rk:RecK} {rec:Rec} (h:RecOK rk rec) (f:FuncId) (args:List SV) (st:St):exFK P sm rk f args st=exF P sm rec f args st:=by
  rw [← compF_eq P sm h]
  unfold exFK
  cases compF P sm f;rfl
def exYbL (rk:RecK) (l:Nat) (N:Nat) (assign body:Code) (env:Tr SV) (st:St):Option (List (SV × St)):=match rk (some l) N assign env [] st (fun e env ds st=>some [⟨.raw undef,e,env,ds,st⟩]) with
    | some [⟨_,e,env1,ds1,st1⟩]=>match e with
      | .nrm=>match st1.h.get l with
        | some (.loop r1)=>match r1.state with
          | .ready=>wtK st1 l (.loop { r1 with state:=.busy }) fun st2=>unA (rk (some l) N body env1 ds1 st2 fun e env ds st=>fnA (yEnd l (e,env,ds,st)))
          | _=>none
        | _=>none
      | _=>none
    | _=>none
def exYbK (rk:RecK) (l:Nat) (r:SLoop) (env:Tr SV) (st:St):Option (List (SV × St)):=SLoop.rec (motive:=fun _=>Option (List (SV × St))) (fun _ _ N _ _ assign body _=>exYbL rk l N assign body env st) r
def exYK (rk:RecK) (l:Nat) (args:List SV) (st:St):Option (List (SV × St)):=match st.h.get l with
  | some (.loop r)=>putsK r.params.toList args r.N r.tmps fun env=>exYbK rk l r env st
  | _=>none
def outA (o:Out):Ans:=⟨.raw undef,o.1,o.2.1,o.2.2.1,o.2.2.2⟩
theorem exYbK_eq {rk:RecK} {rec:Rec} (h:RecOK rk rec) (l:Nat) (r:SLoop) (env:Tr SV) (st:St):exYbK rk l r env st=exYb rec l r env st:=by
  show exYbL rk l r.N r.assign r.body env st=_
  unfold exYbL exYb
  rw [h]
  have e0:=bnd_map (rec (some l) r.N r.assign env [] st) outA
  have e1:(bnd (rec (some l) r.N r.assign env [] st) fun o=>some [⟨.raw undef,o.1,o.2.1,o.2.2.1,o.2.2.2⟩])=(rec (some l) r.N r.assign env [] st).map (List.map outA):=e0
  rw [e1]
  rcases rec (some l) r.N r.assign env [] st with _ | (_ | ⟨⟨e,env1,ds1,st1⟩,_ | ⟨_,_⟩⟩) <;> try rfl
  cases e <;> try rfl
  show (match st1.h.get l with
        | some (.loop r1)=>match r1.state with
          | .ready=>wtK st1 l (.loop { r1 with state:=.busy }) fun st2=>unA (rk (some l) r.N r.body env1 ds1 st2 fun e env ds st=>fnA (yEnd l (e,env,ds,st)))
          | _=>none
        | _=>none)=match st1.h.get l with
        | some (.loop r1)=>match r1.state with
          | .ready=>wtK st1 l (.loop { r1 with state:=.busy }) fun st2=>match rec (some l) r.N r.body env1 ds1 st2 with
            | some L=>mapB (fun o=>oneL (yEnd l o)) L
            | none=>none
          | _=>none
        | _=>none
  have h':=h
  unfold RecOK at h'
  have e2:∀ st2,unA (rk (some l) r.N r.body env1 ds1 st2 fun e env ds st=>fnA (yEnd l (e,env,ds,st)))=match rec (some l) r.N r.body env1 ds1 st2 with
            | some L=>mapB (fun o=>oneL (yEnd l o)) L
            | none=>none:=by
    intro st2
    rw [h']
    refine (unA_bnd _ (fun o=>yEnd l o)).trans ?_
    cases rec (some l) r.N r.body env1 ds1 st2 <;> rfl
  simp only [e2]
theorem exYK_eq {rk:RecK} {rec:Rec} (h:RecOK rk rec) (l:Nat) (args:List SV) (st:St):exYK rk l args st=exY rec l args st:=by
  unfold exYK exY
  simp only [exYbK_eq h]
  rfl
def clK (P:Program) (sm:Sums) (md:Bool) (ty:TypeId) (c:Call):KOp:=match c.callee with
  | .builtin b=>kXs c.args.toList fun xs=>.gen fun rk env st k=>stG k (biS P b c.argTypes.toList ty (xs env) st)
  | .value x=>match x with
    | .func f=>kXs c.args.toList fun xs=>.gen fun rk env st k=>fin md (exFK P sm rk f (xs env) st) k
    | x=>cX1 x fun x=>kXs c.args.toList fun xs=>.gen fun rk env st k=>match x env with
      | .fn f first cap=>fin md (exFK P sm rk f (appS first (appS (xs env) cap)) st) k
      | .yield l=>fin md (exYK rk l (xs env) st) k
      | _=>none
  | _=>kNo
def opK (P:Program) (sm:Sums) (md:Bool) (ty:TypeId):Op→KOp:=Op.rec (motive:=fun _=>KOp)
  /- move -/ (fun x0 => cX1 x0 fun x => .pur fun env k => k (x env))
  /- assign -/ (fun x0 => cX1 x0 fun x => .pur fun env k => k (x env))
  /- pick -/ (fun c0 x0 y0 => cX1 c0 fun c => cX1 x0 fun x => cX1 y0 fun y => .pur fun env k => puG k (pkS (c env) (x env) (y env)))
  /- alloc -/ (fun T => .gen fun rk env st k => stG k (alS P T st))
  /- box -/ (fun T x0 => cX1 x0 fun x => .gen fun rk env st k => stG k (bxS T (x env) st))
  /- build -/ (fun T ps => .pur fun env k => puG k (bdS P T (svParts env ps.toList)))
  /- buildSlice -/ (fun T n ps => .gen fun rk env st k => stG k (bsS P T n (svParts env ps.toList) st))
  /- insert -/ (fun T x0 i0 v0 => cX1 x0 fun x => cX1 i0 fun i => cX1 v0 fun v => .gen fun rk env st k => stG k (muS P T (x env) (i env) (v env) st))
  /- load -/ (fun T x0 => cX1 x0 fun x => stg (ldF P T) fun f => .gen fun rk env st k => f (x env) st k)
  /- store -/ (fun T x0 v0 => cX1 x0 fun x => cX1 v0 fun v => stg (stF P T) fun f => .gen fun rk env st k => f (x env) (v env) st k)
  /- ready -/ (fun _ => kNo)
  /- waits -/ (fun _ => kNo)
  /- nilCheck -/ (fun x0 => cX1 x0 fun x => .pur fun env k => puG k (ncS (x env)))
  /- binOp -/ (fun op T x0 y0 _ => cX1 x0 fun x => cX1 y0 fun y => boK P op T x0 y0 x y)
  /- unOp -/ (fun op _ x0 => cX1 x0 fun x => .pur fun env k => puG k (unS P op (x env)))
  /- convert -/ (fun T T' x0 => cX1 x0 fun x => .pur fun env k => puG k (cvS P T T' (x env)))
  /- sliceToArrayPointer -/ (fun _ _ => kNo)
  /- makeInterface -/ (fun _ _ => kNo)
  /- makeFunc -/ (fun f xs ys => (match f with | .func f => .pur fun env k => k (.fn f (svOps env xs.toList) (svOps env ys.toList)) | _ => kNo))
  /- makeMap -/ (fun _ r => (match r with | none => .gen fun rk env st k => stG k (mmS none st) | some _ => kNo))
  /- makeChan -/ (fun _ _ => kNo)
  /- makeSlice -/ (fun T x0 y0 => cX1 x0 fun x => cX1 y0 fun y => .gen fun rk env st k => stG k (mkS P T (x env) (y env) st))
  /- slice -/ (fun T x0 lo hi mx => cX1 x0 fun x => .gen fun rk env st k => stG k (slS P T (x env) (lo.map (svOp env)) (hi.map (svOp env)) (mx.map (svOp env)) st))
  /- fieldAddr -/ (fun T x0 f => cX1 x0 fun x => stg (faF P T f) fun f => .pur fun env k => f (x env) k)
  /- field -/ (fun T x0 f => cX1 x0 fun x => .pur fun env k => puG k (fdS P T f (x env)))
  /- indexAddr -/ (fun T x0 i0 => cX1 x0 fun x => cX1 i0 fun i => stg (iaF P T) fun f => .pur fun env k => f (x env) (i env) k)
  /- index -/ (fun T x0 i0 => cX1 x0 fun x => cX1 i0 fun i => .pur fun env k => puG k (ixS P T (x env) (i env)))
  /- lookup -/ (fun T x0 i0 ok => cX1 x0 fun x => cX1 i0 fun i => .gen fun rk env st k => stG k (lkS P T (x env) (i env) ok st))
  /- mapUpdate -/ (fun T x0 i0 v0 => cX1 x0 fun x => cX1 i0 fun i => cX1 v0 fun v => .gen fun rk env st k => stG k (muS P T (x env) (i env) (v env) st))
  /- mapEntry -/ (fun T x0 i0 => cX1 x0 fun x => cX1 i0 fun i => .gen fun rk env st k => stG k (meS P T (x env) (i env) st))
  /- entryStore -/ (fun _ x0 i0 v0 => cX1 x0 fun x => cX1 i0 fun i => cX1 v0 fun v => .gen fun rk env st k => stG k (esS (x env) (i env) (v env) st))
  /- range -/ (fun T x0 => cX1 x0 fun x => .gen fun rk env st k => stG k (rgS P T (x env) st))
  /- next -/ (fun x0 s => cX1 x0 fun x => (match s with | false => .gen fun rk env st k => fin md (nxS (x env) st) k | true => kNo))
  /- entry -/ (fun x0 => cX1 x0 fun x => .gen fun rk env st k => stG k (enS (x env) st))
  /- typeAssert -/ (fun _ _ _ _ => kNo)
  /- extract -/ (fun x0 i => cX1 x0 fun x => .pur fun env k => puG k (exS (x env) i))
  /- call -/ (fun c => clK P sm md ty c)
  /- go -/ (fun _ => kNo)
  /- defer -/ (fun _ => kNo)
  /- panic -/ (fun _ => kNo)
  /- send -/ (fun _ _ => kNo)
  /- recv -/ (fun _ _ _ => kNo)
  /- select -/ (fun _ _ => kNo)
theorem appS_nil:∀ (l:List SV),appS l []=l
  | []=>rfl
  | x::r=>by rw [appS,appS_nil r]
theorem opK_eq (P:Program) (sm:Sums) (md:Bool) {rk:RecK} {rec:Rec} (h:RecOK rk rec) (o:Oper) (env:Tr SV) (st:St) (k:SV→St→RB):(opK P sm md o.type o.op).run rk env st k=fin md (exO P sm rec env o st) k:=by
  obtain ⟨d,op,ty,pos,af,g⟩:=o
  cases op with
  | call c =>
    have key:∀ v:SV,(match v with
        | .fn f first cap=>fin md (exFK P sm rk f (appS first (appS (svOps env c.args.toList) cap)) st) k
        | .yield l=>fin md (exYK rk l (svOps env c.args.toList) st) k
        | _=>none)=fin md (match v with
        | .fn f first cap=>exF P sm rec f (appS first (appS (svOps env c.args.toList) cap)) st
        | .yield l=>exY rec l (svOps env c.args.toList) st
        | _=>none) k:=by
      intro v
      cases v <;> simp only [exFK_eq P sm h,exYK_eq h,fin_none]
    show (clK P sm md ty c).run rk env st k=_
    unfold clK exO
    simp only [kXs_eq]
    cases hc:c.callee with
    | builtin b=>simp only [hc];exact fin_oneL _ _ _
    | value x =>
      simp only [hc]
      cases x with
      | func f =>
        show fin md (exFK P sm rk f (svOps env c.args.toList) st) k=fin md (exF P sm rec f (appS [] (appS (svOps env c.args.toList) [])) st) k
        rw [exFK_eq P sm h,appS_nil];rfl
      | tmp t=>simp only [cX1_eq];exact key (svOp env (.tmp t))
      | const v=>simp only [cX1_eq];exact key (svOp env (.const v))
      | global g=>simp only [cX1_eq];exact key (svOp env (.global g))
    | _=>simp only [hc];rfl
  | next x s =>
    cases s with
    | false =>
      show (cX1 x fun x=>.gen fun rk env st k=>fin md (nxS (x env) st) k).run rk env st k=_
      rw [cX1_eq];rfl
    | true =>
      show (cX1 x fun x=>kNo).run rk env st k=_
      rw [cX1_eq];rfl
  | makeFunc f xs ys =>
    cases f with
    | func f=>exact fin_oneL md (some (.fn f (svOps env xs.toList) (svOps env ys.toList),st)) k
    | _=>cases md <;> rfl
  | makeMap T r =>
    cases r with
    | none=>exact fin_oneL md (mmS none st) k
    | some r=>cases md <;> rfl
  | move x =>
    show (cX1 x fun x=>.pur fun env k=>k (x env)).run rk env st k=_
    rw [cX1_eq];exact fin_oneL md (some (svOp env x,st)) k
  | assign x =>
    show (cX1 x fun x=>.pur fun env k=>k (x env)).run rk env st k=_
    rw [cX1_eq];exact fin_oneL md (some (svOp env x,st)) k
  | load T x =>
    show (cX1 x fun x=>stg (ldF P T) fun f=>.gen fun rk env st k=>f (x env) st k).run rk env st k=_
    simp only [cX1_eq,stg_eq]
    exact (ldF_eq P T _ st k).trans (fin_oneL md _ k)
  | store T x v =>
    show (cX1 x fun x=>cX1 v fun v=>stg (stF P T) fun f=>.gen fun rk env st k=>f (x env) (v env) st k).run rk env st k=_
    simp only [cX1_eq,stg_eq]
    exact (stF_eq P T _ _ st k).trans (fin_oneL md _ k)
  | fieldAddr T x f =>
    show (cX1 x fun x=>stg (faF P T f) fun f=>.pur fun env k=>f (x env) k).run rk env st k=_
    simp only [cX1_eq,stg_eq]
    exact (faF_eq P T f _ (fun v=>k v st)).trans (fin_puK md _ st k)
  | indexAddr T x i =>
    show (cX1 x fun x=>cX1 i fun i=>stg (iaF P T) fun f=>.pur fun env k=>f (x env) (i env) k).run rk env st k=_
    simp only [cX1_eq,stg_eq]
    exact (iaF_eq P T _ _ (fun v=>k v st)).trans (fin_puK md _ st k)
  | binOp op T x y w =>
    show (cX1 x fun x'=>cX1 y fun y'=>boK P op T x y x' y').run rk env st k=_
    simp only [cX1_eq,boK_run]
    exact fin_puK md _ st k
  | pick c0 x0 y0 =>
    show (cX1 c0 fun c=>cX1 x0 fun x=>cX1 y0 fun y=>.pur fun env k=>puG k (pkS (c env) (x env) (y env)):KOp).run rk env st k=_
    simp only [cX1_eq]
    exact fin_puK md _ st k
  | alloc T =>
    show (.gen fun rk env st k=>stG k (alS P T st):KOp).run rk env st k=_
    exact fin_oneL md _ k
  | box T x0 =>
    show (cX1 x0 fun x=>.gen fun rk env st k=>stG k (bxS T (x env) st):KOp).run rk env st k=_
    simp only [cX1_eq]
    exact fin_oneL md _ k
  | build T ps =>
    show (.pur fun env k=>puG k (bdS P T (svParts env ps.toList)):KOp).run rk env st k=_
    exact fin_puK md _ st k
  | buildSlice T n ps =>
    show (.gen fun rk env st k=>stG k (bsS P T n (svParts env ps.toList) st):KOp).run rk env st k=_
    exact fin_oneL md _ k
  | insert T x0 i0 v0 =>
    show (cX1 x0 fun x=>cX1 i0 fun i=>cX1 v0 fun v=>.gen fun rk env st k=>stG k (muS P T (x env) (i env) (v env) st):KOp).run rk env st k=_
    simp only [cX1_eq]
    exact fin_oneL md _ k
  | ready _=>cases md <;> rfl
  | waits _=>cases md <;> rfl
  | nilCheck x0 =>
    show (cX1 x0 fun x=>.pur fun env k=>puG k (ncS (x env)):KOp).run rk env st k=_
    simp only [cX1_eq]
    exact fin_puK md _ st k
  | unOp op _ x0 =>
    show (cX1 x0 fun x=>.pur fun env k=>puG k (unS P op (x env)):KOp).run rk env st k=_
    simp only [cX1_eq]
    exact fin_puK md _ st k
  | convert T T' x0 =>
    show (cX1 x0 fun x=>.pur fun env k=>puG k (cvS P T T' (x env)):KOp).run rk env st k=_
    simp only [cX1_eq]
    exact fin_puK md _ st k
  | sliceToArrayPointer _ _=>cases md <;> rfl
  | makeInterface _ _=>cases md <;> rfl
  | makeChan _ _=>cases md <;> rfl
  | makeSlice T x0 y0 =>
    show (cX1 x0 fun x=>cX1 y0 fun y=>.gen fun rk env st k=>stG k (mkS P T (x env) (y env) st):KOp).run rk env st k=_
    simp only [cX1_eq]
    exact fin_oneL md _ k
  | slice T x0 lo hi mx =>
    show (cX1 x0 fun x=>.gen fun rk env st k=>stG k (slS P T (x env) (lo.map (svOp env)) (hi.map (svOp env)) (mx.map (svOp env)) st):KOp).run rk env st k=_
    simp only [cX1_eq]
    exact fin_oneL md _ k
  | field T x0 f =>
    show (cX1 x0 fun x=>.pur fun env k=>puG k (fdS P T f (x env)):KOp).run rk env st k=_
    simp only [cX1_eq]
    exact fin_puK md _ st k
  | index T x0 i0 =>
    show (cX1 x0 fun x=>cX1 i0 fun i=>.pur fun env k=>puG k (ixS P T (x env) (i env)):KOp).run rk env st k=_
    simp only [cX1_eq]
    exact fin_puK md _ st k
  | lookup T x0 i0 ok =>
    show (cX1 x0 fun x=>cX1 i0 fun i=>.gen fun rk env st k=>stG k (lkS P T (x env) (i env) ok st):KOp).run rk env st k=_
    simp only [cX1_eq]
    exact fin_oneL md _ k
  | mapUpdate T x0 i0 v0 =>
    show (cX1 x0 fun x=>cX1 i0 fun i=>cX1 v0 fun v=>.gen fun rk env st k=>stG k (muS P T (x env) (i env) (v env) st):KOp).run rk env st k=_
    simp only [cX1_eq]
    exact fin_oneL md _ k
  | mapEntry T x0 i0 =>
    show (cX1 x0 fun x=>cX1 i0 fun i=>.gen fun rk env st k=>stG k (meS P T (x env) (i env) st):KOp).run rk env st k=_
    simp only [cX1_eq]
    exact fin_oneL md _ k
  | entryStore _ x0 i0 v0 =>
    show (cX1 x0 fun x=>cX1 i0 fun i=>cX1 v0 fun v=>.gen fun rk env st k=>stG k (esS (x env) (i env) (v env) st):KOp).run rk env st k=_
    simp only [cX1_eq]
    exact fin_oneL md _ k
  | range T x0 =>
    show (cX1 x0 fun x=>.gen fun rk env st k=>stG k (rgS P T (x env) st):KOp).run rk env st k=_
    simp only [cX1_eq]
    exact fin_oneL md _ k
  | entry x0 =>
    show (cX1 x0 fun x=>.gen fun rk env st k=>stG k (enS (x env) st):KOp).run rk env st k=_
    simp only [cX1_eq]
    exact fin_oneL md _ k
  | typeAssert _ _ _ _=>cases md <;> rfl
  | extract x0 i =>
    show (cX1 x0 fun x=>.pur fun env k=>puG k (exS (x env) i):KOp).run rk env st k=_
    simp only [cX1_eq]
    exact fin_puK md _ st k
  | go _=>cases md <;> rfl
  | defer _=>cases md <;> rfl
  | panic _=>cases md <;> rfl
  | send _ _=>cases md <;> rfl
  | recv _ _ _=>cases md <;> rfl
  | select _ _=>cases md <;> rfl
structure KP where
  put:Tr SV→SV→(Tr SV→RB)→RB
def compP (N:Nat) (d:Option Tmp):KP:=Option.rec (motive:=fun _=>KP) ⟨fun env _ k=>k env⟩ (fun d=>Bool.rec (motive:=fun _=>KP) ⟨fun _ _ _=>none⟩ (Tr.Acc.rec (motive:=fun _=>KP) (fun _ s=>⟨fun env v k=>s env (some v) k⟩) (Tr.acc d)) (Nat.ble (Nat.succ d) N)) d
theorem compP_eq (N:Nat) (d:Option Tmp) (env:Tr SV) (v:SV) (k:Tr SV→RB):(compP N d).put env v k=putK N env d v k:=by
  cases d with
  | none=>rfl
  | some d =>
    show (Bool.rec (motive:=fun _=>KP) ⟨fun _ _ _=>none⟩ (Tr.Acc.rec (motive:=fun _=>KP) (fun _ s=>⟨fun env v k=>s env (some v) k⟩) (Tr.acc d)) (Nat.ble (Nat.succ d) N):KP).put env v k=bif Nat.ble (Nat.succ d) N then env.setK d (some v) k else none
    cases Nat.ble (Nat.succ d) N with
    | false=>rfl
    | true =>
      show (Tr.Acc.rec (motive:=fun _=>KP) (fun _ s=>⟨fun env v k=>s env (some v) k⟩) (Tr.acc d):KP).put env v k=env.setK d (some v) k
      unfold Tr.setK
      generalize (Tr.acc d:Tr.Acc SV RB)=a
      cases a;rfl
structure KG where
  tst:Tr SV→RB→RB→RB
def gdS (want:Bool) (v:Option SV) (a b:RB):RB:=match v with
  | some (.raw v)=>match v with
    | .bool b'=>bif beqB b' want then a else b
    | _=>b
  | some (.tup _)=>b
  | _=>none
def compG (ops:List Oper) (g:Option (Nat × Bool)):KG:=match g with
  | none=>⟨fun _ a _=>a⟩
  | some (j,want)=>match nth ops j with
    | some oj=>match oj.dst with
      | some d=>⟨fun env a b=>gdS want (env.get d) a b⟩
      | none=>⟨fun _ _ _=>none⟩
    | none=>⟨fun _ _ _=>none⟩
theorem compG_eq (ops:List Oper) (env:Tr SV) (a b:RB) (o:Oper):(compG ops o.guard).tst env a b=match wantS ops env o with
    | some true=>a
    | some false=>b
    | none=>none:=by
  unfold wantS compG
  cases h:o.guard with
  | none=>rfl
  | some p =>
    obtain ⟨j,want⟩:=p
    simp only
    cases h1:nth ops j with
    | none=>rfl
    | some oj =>
      simp only
      cases h2:oj.dst with
      | none=>rfl
      | some d =>
        simp only [gdS]
        cases h3:env.get d with
        | none=>rfl
        | some s =>
          cases s <;> simp
          rename_i v
          cases v <;> simp
          rename_i b'
          cases beqB b' want <;> simp
section
variable (P:Program) (sm:Sums)
structure KL where
  run:RecK→Tr SV→St→(Tr SV→St→RB)→RB
def kl (N:Nat) (ops:List Oper) (tail:KL):Oper→KL:=Oper.rec (motive:=fun _=>KL) (fun dst op ty _ _ g=>KP.rec (motive:=fun _=>KL) (fun put=>KL.rec (motive:=fun _=>KL) (fun trun=>KOp.rec (motive:=fun _=>KL)
    (fun prun=>Option.rec (motive:=fun _=>KL)
      ⟨fun rk env st k=>prun env fun v=>put env v fun env'=>trun rk env' st k⟩
      (fun g=>KG.rec (motive:=fun _=>KL) (fun tst=>⟨fun rk env st k=>tst env (prun env fun v=>put env v fun env'=>trun rk env' st k) (put env (.raw undef) fun env'=>trun rk env' st k)⟩) (compG ops (some g))) g)
    (fun orun=>Option.rec (motive:=fun _=>KL)
      ⟨fun rk env st k=>orun rk env st fun v st'=>put env v fun env'=>trun rk env' st' k⟩
      (fun g=>KG.rec (motive:=fun _=>KL) (fun tst=>⟨fun rk env st k=>tst env (orun rk env st fun v st'=>put env v fun env'=>trun rk env' st' k) (put env (.raw undef) fun env'=>trun rk env' st k)⟩) (compG ops (some g))) g) (opK P sm false ty op)) tail) (compP N dst))
theorem kl_run (N:Nat) (ops:List Oper) (tail:KL) (o:Oper) (rk:RecK) (env:Tr SV) (st:St) (k:Tr SV→St→RB):(kl P sm N ops tail o).run rk env st k=(compG ops o.guard).tst env ((opK P sm false o.type o.op).run rk env st fun v st'=>putK N env o.dst v fun env'=>tail.run rk env' st' k) (putK N env o.dst (.raw undef) fun env'=>tail.run rk env' st k):=by
  obtain ⟨dst,op,ty,pos,af,g⟩:=o
  simp only [← compP_eq]
  unfold kl
  simp only
  generalize compP N dst=p
  generalize opK P sm false ty op=q
  cases p with
  | mk put =>
    cases tail with
    | mk trun =>
      cases q with
      | pur prun =>
        cases g with
        | none=>rfl
        | some g =>
          simp only
          generalize compG ops (some g)=c
          cases c;rfl
      | gen orun =>
        cases g with
        | none=>rfl
        | some g =>
          simp only
          generalize compG ops (some g)=c
          cases c;rfl
def compL (N:Nat) (ops:List Oper):List Oper→KL:=List.rec (motive:=fun _=>KL) ⟨fun _ env st k=>k env st⟩ (fun o _ ih=>kl P sm N ops ih o)
theorem compL_eq {rk:RecK} {rec:Rec} (h:RecOK rk rec) (N:Nat) (ops:List Oper):∀ (l:List Oper) (env:Tr SV) (st:St) (k:Tr SV→St→RB),(compL P sm N ops l).run rk env st k=bnd (exL P sm rec N ops l env st) (fun p=>k p.1 p.2)
  | [],env,st,k=>(bnd_one (fun p:Tr SV × St=>k p.1 p.2) (env,st)).symm
  | o::l,env,st,k=>by
    show (kl P sm N ops (compL P sm N ops l) o).run rk env st k=_
    rw [kl_run,compG_eq,exL,opK_eq P sm false h,fin_eq]
    simp only [compL_eq h N ops l]
    cases wantS ops env o with
    | none=>rfl
    | some b =>
      have hput:∀ v st,(putK N env o.dst v fun env'=>bnd (exL P sm rec N ops l env' st) (fun p=>k p.1 p.2))=bnd (putK N env o.dst v fun env'=>exL P sm rec N ops l env' st) (fun p=>k p.1 p.2):=by
        intro v st
        cases o.dst with
        | none=>rfl
        | some d =>
          simp only [putK,Tr.setK_eq]
          cases Nat.blt d N <;> rfl
      cases b with
      | false=>exact hput _ _
      | true =>
        show bnd (exO P sm rec env o st) (fun p=>putK N env o.dst p.1 fun env'=>bnd (exL P sm rec N ops l env' p.2) (fun p=>k p.1 p.2))=bnd (match exO P sm rec env o st with
          | some L=>mapB (fun p=>putK N env o.dst p.1 fun env'=>exL P sm rec N ops l env' p.2) L
          | none=>none) (fun p=>k p.1 p.2)
        simp only [hput]
        rw [← bnd_bnd]
        cases exO P sm rec env o st <;> rfl
structure KR where
  run:RecK→Tr SV→Tr SO→Nat→List (Nat × Tc)→(Tr SV→Tr SO→Nat→List (Nat × Tc)→RB)→RB
def kr (N:Nat) (ops:List Oper) (tail:KR) (i:Nat):Oper→KR:=Oper.rec (motive:=fun _=>KR) (fun dst op ty _ _ g=>KP.rec (motive:=fun _=>KR) (fun put=>KR.rec (motive:=fun _=>KR) (fun trun=>KOp.rec (motive:=fun _=>KR)
    (fun prun=>Option.rec (motive:=fun _=>KR)
      ⟨fun rk env h nx acc k=>prun env fun v=>put env v fun env'=>trun rk env' h nx acc k⟩
      (fun g=>KG.rec (motive:=fun _=>KR) (fun tst=>⟨fun rk env h nx acc k=>tst env (prun env fun v=>put env v fun env'=>trun rk env' h nx acc k) (put env (.raw undef) fun env'=>trun rk env' h nx acc k)⟩) (compG ops (some g))) g)
    (fun orun=>Option.rec (motive:=fun _=>KR)
      ⟨fun rk env h nx acc k=>orun rk env ⟨h,nx,nx,[],[]⟩ fun v st'=>endF i h nx st' acc fun h2 nx2 acc'=>put env v fun env'=>trun rk env' h2 nx2 acc' k⟩
      (fun g=>KG.rec (motive:=fun _=>KR) (fun tst=>⟨fun rk env h nx acc k=>tst env (orun rk env ⟨h,nx,nx,[],[]⟩ fun v st'=>endF i h nx st' acc fun h2 nx2 acc'=>put env v fun env'=>trun rk env' h2 nx2 acc' k) (put env (.raw undef) fun env'=>trun rk env' h nx acc k)⟩) (compG ops (some g))) g) (opK P sm true ty op)) tail) (compP N dst))
theorem endK_0 (h:Tr SO) (nx:Nat) (k:Tr SO→Nat→Tc→RB):endK h nx ⟨h,nx,nx,[],[]⟩ k=k h nx ⟨[],[],nx,nx,true⟩:=by
  simp only [endK,quietB]
  rw [show Nat.beq nx nx=true from Nat.beq_refl nx];rfl
theorem psh_nul (i nx:Nat) (acc:List (Nat × Tc)):psh i ⟨[],[],nx,nx,true⟩ acc=acc:=by
  have:nul ⟨[],[],nx,nx,true⟩=true:=by simp [nul]
  simp only [psh,this];rfl
theorem kr_run (N:Nat) (ops:List Oper) (tail:KR) (i:Nat) (o:Oper) (rk:RecK) (env:Tr SV) (h:Tr SO) (nx:Nat) (acc:List (Nat × Tc)) (k:Tr SV→Tr SO→Nat→List (Nat × Tc)→RB):(kr P sm N ops tail i o).run rk env h nx acc k=(compG ops o.guard).tst env ((opK P sm true o.type o.op).run rk env ⟨h,nx,nx,[],[]⟩ fun v st'=>endK h nx st' fun h2 nx2 t=>putK N env o.dst v fun env'=>tail.run rk env' h2 nx2 (psh i t acc) k) (putK N env o.dst (.raw undef) fun env'=>tail.run rk env' h nx acc k):=by
  obtain ⟨dst,op,ty,pos,af,g⟩:=o
  simp only [← compP_eq]
  unfold kr
  simp only [endF_eq]
  generalize compP N dst=p
  generalize opK P sm true ty op=q
  cases p with
  | mk put =>
    cases tail with
    | mk trun =>
      cases q with
      | pur prun =>
        have e:∀ (k:Tr SV→Tr SO→Nat→List (Nat × Tc)→RB),(KOp.pur prun).run rk env ⟨h,nx,nx,[],[]⟩ (fun v st'=>endK h nx st' fun h2 nx2 t=>put env v fun env'=>trun rk env' h2 nx2 (psh i t acc) k)=prun env fun v=>put env v fun env'=>trun rk env' h nx acc k:=by
          intro k
          show (prun env fun v=>endK h nx ⟨h,nx,nx,[],[]⟩ fun h2 nx2 t=>put env v fun env'=>trun rk env' h2 nx2 (psh i t acc) k)=_
          simp only [endK_0,psh_nul]
        cases g with
        | none=>exact (e k).symm
        | some g =>
          simp only
          generalize compG ops (some g)=c
          cases c
          simp only [e]
      | gen orun =>
        cases g with
        | none=>rfl
        | some g =>
          simp only
          generalize compG ops (some g)=c
          cases c;rfl
def compR (N:Nat) (ops:List Oper) (l:List Oper):Nat→KR:=List.rec (motive:=fun _=>Nat→KR) (fun _=>⟨fun _ env h nx acc k=>k env h nx acc⟩) (fun o _ ih i=>kr P sm N ops (ih (Nat.succ i)) i o) l
def obd {α:Type} (r:Option α) (k:α→RB):RB:=match r with
  | some p=>k p
  | none=>none
theorem compR_eq {rk:RecK} {rec:Rec} (hr:RecOK rk rec) (N:Nat) (ops:List Oper):∀ (l:List Oper) (env:Tr SV) (h:Tr SO) (nx:Nat) (acc:List Tc) (k:Tr SV→Tr SO→Nat→List (Nat × Tc)→RB),(compR P sm N ops l acc.length).run rk env h nx (flt acc) k=obd (exR P sm rec N ops l env h nx acc) (fun p=>k p.1 p.2.1 p.2.2.1 (flt p.2.2.2))
  | [],env,h,nx,acc,k=>rfl
  | o::l,env,h,nx,acc,k=>by
    show (kr P sm N ops (compR P sm N ops l (Nat.succ acc.length)) acc.length o).run rk env h nx (flt acc) k=_
    have ih:∀ env h nx t,(compR P sm N ops l (Nat.succ acc.length)).run rk env h nx (psh acc.length t (flt acc)) k=obd (exR P sm rec N ops l env h nx (t::acc)) (fun p=>k p.1 p.2.1 p.2.2.1 (flt p.2.2.2)):=fun env h nx t=>compR_eq hr N ops l env h nx (t::acc) k
    have ih0:∀ env h nx,(compR P sm N ops l (Nat.succ acc.length)).run rk env h nx (flt acc) k=obd (exR P sm rec N ops l env h nx (⟨[],[],nx,nx,true⟩::acc)) (fun p=>k p.1 p.2.1 p.2.2.1 (flt p.2.2.2)):=fun env h nx=>by
      rw [← ih,psh_nul]
    rw [kr_run,compG_eq,exR,opK_eq P sm true hr,fin_eq]
    simp only [ih,ih0]
    cases wantS ops env o with
    | none=>rfl
    | some b =>
      have hput:∀ v h nx acc,(putK N env o.dst v fun env'=>obd (exR P sm rec N ops l env' h nx acc) (fun p=>k p.1 p.2.1 p.2.2.1 (flt p.2.2.2)))=obd (putK N env o.dst v fun env'=>exR P sm rec N ops l env' h nx acc) (fun p=>k p.1 p.2.1 p.2.2.1 (flt p.2.2.2)):=by
        intro v h nx acc
        cases o.dst with
        | none=>rfl
        | some d =>
          simp only [putK,Tr.setK_eq]
          cases Nat.blt d N <;> rfl
      cases b with
      | false=>exact hput _ _ _ _
      | true =>
        rcases he:exO P sm rec env o ⟨h,nx,nx,[],[]⟩ with _ | (_ | ⟨⟨v,st'⟩,_ | ⟨_,_⟩⟩)
        · rfl
        · rfl
        · show (endK h nx st' fun h2 nx2 t=>putK N env o.dst v fun env'=>obd (exR P sm rec N ops l env' h2 nx2 (t::acc)) (fun p=>k p.1 p.2.1 p.2.2.1 (flt p.2.2.2)))=obd (endK h nx st' fun h2 nx2 t=>putK N env o.dst v fun env'=>exR P sm rec N ops l env' h2 nx2 (t::acc)) (fun p=>k p.1 p.2.1 p.2.2.1 (flt p.2.2.2))
          simp only [hput]
          have mrgK_app:∀ (h':Tr SO) (W:List Nat) (h:Tr SO) (k1:Tr SO→Option (Tr SV × Tr SO × Nat × List Tc)) (g:_→RB),mrgK h' W h (fun x=>obd (k1 x) g)=obd (mrgK h' W h k1) g:=by
            intro h' W
            induction W with
            | nil=>intros;rfl
            | cons x r ih =>
              intro h k1 g
              simp only [mrgK,Tr.setK_eq]
              cases h'.get x <;> exact ih _ _ _
          have rngK_app:∀ (h':Tr SO) (n x:Nat) (h:Tr SO) (k1:Tr SO→Option (Tr SV × Tr SO × Nat × List Tc)) (g:_→RB),rngK h' n x h (fun x=>obd (k1 x) g)=obd (rngK h' n x h k1) g:=by
            intro h' n
            induction n with
            | zero=>intros;rfl
            | succ n ih =>
              intro x h k1 g
              simp only [rngK,Tr.setK_eq,natK_eq]
              cases h'.get x <;> exact ih _ _ _ _
          obtain ⟨h',nx',b',R,W⟩:=st'
          simp only [endK]
          cases quietB W nx nx' with
          | true=>rfl
          | false =>
            simp only [cond_false]
            cases Nat.ble nx nx' with
            | false=>rfl
            | true =>
              simp only [cond_true]
              cases okW nx R W with
              | false=>rfl
              | true =>
                simp only [cond_true]
                simp only [rngK_app,mrgK_app]
        · rfl
def compD (N:Nat) (ops:Array Oper):KL:=Bool.rec (motive:=fun _=>KL) ⟨fun _ _ _ _=>none⟩ (KR.rec (motive:=fun _=>KL) (fun run=>⟨fun rk env st k=>St.rec (motive:=fun _=>RB) (fun h nx b R W=>run rk env h nx [] fun env' h' nx' ts=>Bool.rec (motive:=fun _=>RB) (Bool.rec (motive:=fun _=>RB) none (tellZ b ts R W fun R' W'=>k env' ⟨h',nx',b,R',W'⟩) (sepP (fun i=>(nthF (cloO ops.toList) (ops.toList.length-1-i)).getD 0) ts)) (tellZ b ts R W fun R' W'=>k env' ⟨h',nx',b,R',W'⟩) (allQF ts)) st⟩) (compR P sm N ops.toList ops.toList 0)) (statD ops)
theorem tellK_app {α:Type} (b:Nat) (k:List Nat→List Nat→Option α) (g:Option α→RB):∀ (ts:List Tc) (R W:List Nat),tellK b ts R W (fun R' W'=>g (k R' W'))=g (tellK b ts R W k)
  | [],_,_=>rfl
  | t::r,R,W=>by
    have hi:∀ {γ δ:Type} (g:γ→δ) (l R:List Nat) (k:List Nat→γ),insAllK b l R (fun R'=>g (k R'))=g (insAllK b l R k):=by
      intro γ δ g l
      induction l with
      | nil=>intros;rfl
      | cons x r ih=>intro R k;simp only [insAllK,insK_eq];exact ih _ _
    simp only [tellK,tellK_app b k g r]
    simp only [hi g]
theorem exR_len {rec:Rec} (N:Nat) (ops:List Oper):∀ (l:List Oper) (env:Tr SV) (h:Tr SO) (nx:Nat) (acc:List Tc) (p:Tr SV × Tr SO × Nat × List Tc),exR P sm rec N ops l env h nx acc=some p→p.2.2.2.length=acc.length+l.length
  | [],env,h,nx,acc,p,hp=>by
    simp only [exR,Option.some.injEq] at hp
    subst hp;rfl
  | o::l,env,h,nx,acc,p,hp=>by
    have hput:∀ v h nx t,(putK N env o.dst v fun env'=>exR P sm rec N ops l env' h nx (t::acc))=some p→p.2.2.2.length=acc.length+(o::l).length:=by
      intro v h nx t hh
      have:∃ env',exR P sm rec N ops l env' h nx (t::acc)=some p:=by
        cases hd:o.dst with
        | none=>rw [hd] at hh;exact ⟨_,hh⟩
        | some d =>
          rw [hd] at hh
          simp only [putK,Tr.setK_eq] at hh
          cases hb:Nat.blt d N with
          | true=>rw [hb] at hh;exact ⟨_,hh⟩
          | false=>rw [hb] at hh;cases hh
      obtain ⟨env',he⟩:=this
      have:=exR_len N ops l env' h nx (t::acc) p he
      simp only [List.length_cons] at this ⊢
      omega
    rw [exR] at hp
    cases hw:wantS ops env o with
    | none=>rw [hw] at hp;cases hp
    | some b =>
      rw [hw] at hp
      cases b with
      | false=>exact hput _ _ _ _ hp
      | true =>
        rcases he:exO P sm rec env o ⟨h,nx,nx,[],[]⟩ with _ | (_ | ⟨⟨v,st'⟩,_ | ⟨_,_⟩⟩)
        · rw [he] at hp;cases hp
        · rw [he] at hp;cases hp
        · rw [he] at hp
          have hp:(endK h nx st' fun h2 nx2 t=>putK N env o.dst v fun env'=>exR P sm rec N ops l env' h2 nx2 (t::acc))=some p:=hp
          have mr:∀ (h':Tr SO) (W:List Nat) (h:Tr SO) (k1:Tr SO→Option (Tr SV × Tr SO × Nat × List Tc)),mrgK h' W h k1=some p→∃ x,k1 x=some p:=by
            intro h' W
            induction W with
            | nil=>intro h k1 hh;exact ⟨_,hh⟩
            | cons x r ih =>
              intro h k1 hh
              simp only [mrgK,Tr.setK_eq] at hh
              cases hg:h'.get x <;> rw [hg] at hh <;> exact ih _ _ hh
          have rr:∀ (h':Tr SO) (n x:Nat) (h:Tr SO) (k1:Tr SO→Option (Tr SV × Tr SO × Nat × List Tc)),rngK h' n x h k1=some p→∃ x,k1 x=some p:=by
            intro h' n
            induction n with
            | zero=>intro x h k1 hh;exact ⟨_,hh⟩
            | succ n ih =>
              intro x h k1 hh
              simp only [rngK,Tr.setK_eq,natK_eq] at hh
              cases hg:h'.get x <;> rw [hg] at hh <;> exact ih _ _ _ hh
          obtain ⟨h',nx',b',R,W⟩:=st'
          simp only [endK] at hp
          cases hq:quietB W nx nx' with
          | true=>rw [hq] at hp;exact hput _ _ _ _ hp
          | false =>
            rw [hq,cond_false] at hp
            cases hb:Nat.ble nx nx' with
            | false=>rw [hb] at hp;cases hp
            | true =>
              rw [hb,cond_true] at hp
              cases hk:okW nx R W with
              | false=>rw [hk] at hp;cases hp
              | true =>
                rw [hk,cond_true] at hp
                obtain ⟨x,hx⟩:=mr _ _ _ _ hp
                obtain ⟨y,hy⟩:=rr _ _ _ _ _ hx
                exact hput _ _ _ _ hy
        · rw [he] at hp;cases hp
theorem cloB_len:∀ (l:List (List Nat)) (acc:List Nat),(cloB l acc).length=l.length+acc.length
  | [],acc=>by simp [cloB]
  | a::r,acc=>by simp only [cloB,natK_eq,cloB_len r,List.length_cons];omega
theorem afsAll_len:∀ (l:List Oper),(afsAll l).length=l.length
  | []=>rfl
  | o::r=>by simp [afsAll,afsAll_len r]
theorem compD_eq {rk:RecK} {rec:Rec} (hr:RecOK rk rec) (N:Nat) (ops:Array Oper) (env:Tr SV) (st:St) (k:Tr SV→St→RB):(compD P sm N ops).run rk env st k=obd (exD P sm rec N ops env st) (fun p=>k p.1 p.2):=by
  obtain ⟨h,nx,b,R,W⟩:=st
  unfold compD exD
  cases statD ops with
  | false=>rfl
  | true =>
    simp only [cond_true]
    have e:=fun (k:Tr SV→Tr SO→Nat→List (Nat × Tc)→RB)=>compR_eq P sm hr N ops.toList ops.toList env h nx [] k
    have hlen:=exR_len P sm (rec:=rec) N ops.toList ops.toList env h nx []
    have e0:(compR P sm N ops.toList ops.toList ([]:List Tc).length)=compR P sm N ops.toList ops.toList 0:=rfl
    rw [e0] at e
    generalize compR P sm N ops.toList ops.toList 0=c at *
    cases c with
    | mk run =>
      show (run rk env h nx [] fun env' h' nx' ts=>Bool.rec (motive:=fun _=>RB) (Bool.rec (motive:=fun _=>RB) none (tellZ b ts R W fun R' W'=>k env' ⟨h',nx',b,R',W'⟩) (sepP (fun i=>(nthF (cloO ops.toList) (ops.toList.length-1-i)).getD 0) ts)) (tellZ b ts R W fun R' W'=>k env' ⟨h',nx',b,R',W'⟩) (allQF ts))=_
      refine (e _).trans ?_
      cases hx:exR P sm rec N ops.toList ops.toList env h nx [] with
      | none=>rfl
      | some p =>
        obtain ⟨env',h',nx',ts⟩:=p
        have hts:ts.length=ops.toList.length:=by
          have:=hlen _ hx
          simpa using this
        have hcl:(cloO ops.toList).length=ops.toList.length:=by
          unfold cloO
          rw [cloB_len,afsAll_len];simp
        have hsep:=sepAll_eq (fun i=>(nthF (cloO ops.toList) (ops.toList.length-1-i)).getD 0) ts (cloO ops.toList) (by omega) (fun i hi=>by
          simp only [nthF_eq,nth_eq]
          rw [hts]
          have:ops.toList.length-1-i<(cloO ops.toList).length:=by omega
          rw [List.getElem?_eq_getElem this];rfl)
        have ht:=tellK_app b (fun R' W'=>some (env',(⟨h',nx',b,R',W'⟩:St))) (fun r=>obd r (fun p=>k p.1 p.2)) ts R W
        show Bool.rec (motive:=fun _=>RB) (Bool.rec (motive:=fun _=>RB) none (tellZ b (flt ts) R W fun R' W'=>k env' ⟨h',nx',b,R',W'⟩) (sepP (fun i=>(nthF (cloO ops.toList) (ops.toList.length-1-i)).getD 0) (flt ts))) (tellZ b (flt ts) R W fun R' W'=>k env' ⟨h',nx',b,R',W'⟩) (allQF (flt ts))=obd (bif allQ ts||sepAll ts (cloO ops.toList) then tellK b ts R W fun R' W'=>some (env',(⟨h',nx',b,R',W'⟩:St)) else none) (fun p=>k p.1 p.2)
        rw [tellZ_eq,allQF_eq,← hsep]
        cases allQ ts with
        | true=>exact ht
        | false =>
          cases sepAll ts (cloO ops.toList) with
          | true=>exact ht
          | false=>rfl
def rfEK (rk:RecK) (ro:Option Nat) (N:Nat) (env:Tr SV) (ds0:List Nat) (l:Nat) (st3:St) (k:Ex→Tr SV→List Nat→St→RB):RB:=match st3.h.get l with
  | some (.loop r)=>match r.state with
    | .busy=>none
    | _=>wtK st3 l (.loop { r with state:=.exhausted }) fun st4=>match r.pending with
      | none=>k .nrm env ds0 st4
      | some c=>rk ro N c env ds0 st4 k
  | _=>none
def rfBK (rk:RecK) (ro:Option Nat) (N:Nat) (g:Operand) (env:Tr SV) (ds0:List Nat) (l:Nat) (st2:St) (k:Ex→Tr SV→List Nat→St→RB):RB:=match svOp env g with
  | .fn f first cap=>bnd (exFK P sm rk f (appS first (.yield l::cap)) st2) (fun p=>rfEK rk ro N env ds0 l p.2 k)
  | _=>none
def rfSK (rk:RecK) (ro:Option Nat) (N:Nat) (g:Operand) (ps:Array Tmp) (assign body:Code) (env:Tr SV) (ds:List Nat) (st:St) (k:Ex→Tr SV→List Nat→St→RB):RB:=match ro with
  | none=>newK st (.dfr false) fun d st1=>newK st1 (.loop ⟨.ready,none,N,env,ps,assign,body,d⟩) fun l st2=>rfBK P sm rk none N g env (d::ds) l st2 k
  | some l0=>match st.h.get l0 with
    | some (.loop r0)=>insK st.base l0 st.R fun R'=>newK ⟨st.h,st.nx,st.base,R',st.W⟩ (.loop ⟨.ready,none,N,env,ps,assign,body,r0.defers⟩) fun l st2=>rfBK P sm rk (some l0) N g env ds l st2 k
    | _=>none
variable {P sm}
abbrev bK (k:Ex→Tr SV→List Nat→St→RB):Out→RB:=fun o=>k o.1 o.2.1 o.2.2.1 o.2.2.2
theorem one_b (k:Ex→Tr SV→List Nat→St→RB) (e:Ex) (env:Tr SV) (ds:List Nat) (st:St):k e env ds st=bnd (some [(e,env,ds,st)]) (bK k):=(bnd_one (bK k) (e,env,ds,st)).symm
theorem rfEK_eq {rk:RecK} {rec:Rec} (hr:RecOK rk rec) (ro:Option Nat) (N:Nat) (env:Tr SV) (ds0:List Nat) (l:Nat) (st3:St) (k:Ex→Tr SV→List Nat→St→RB):rfEK rk ro N env ds0 l st3 k=bnd (rfE rec ro N env ds0 l st3) (bK k):=by
  unfold rfEK rfE
  obtain ⟨h,nx,b,R,W⟩:=st3
  cases h.get l with
  | none=>rfl
  | some o =>
    cases o with
    | loop r =>
      simp only [wtK_eq]
      cases r.state <;> (first | rfl | (simp only;cases r.pending with
        | none=>exact (bnd_one (bK k) (.nrm,env,ds0,_)).symm
        | some c=>exact hr ..))
    | _=>rfl
theorem rfBK_eq {rk:RecK} {rec:Rec} (hr:RecOK rk rec) (ro:Option Nat) (N:Nat) (g:Operand) (env:Tr SV) (ds0:List Nat) (l:Nat) (st2:St) (k:Ex→Tr SV→List Nat→St→RB):rfBK P sm rk ro N g env ds0 l st2 k=bnd (rfB P sm rec ro N g env ds0 l st2) (bK k):=by
  unfold rfBK rfB
  cases svOp env g with
  | fn f first cap =>
    simp only [exFK_eq P sm hr,rfEK_eq hr]
    rw [← bnd_bnd]
    cases exF P sm rec f (appS first (.yield l::cap)) st2 <;> rfl
  | _=>rfl
theorem rfSK_eq {rk:RecK} {rec:Rec} (hr:RecOK rk rec) (ro:Option Nat) (N:Nat) (g:Operand) (ps:Array Tmp) (assign body:Code) (env:Tr SV) (ds:List Nat) (st:St) (k:Ex→Tr SV→List Nat→St→RB):rfSK P sm rk ro N g ps assign body env ds st k=bnd (rfS P sm rec ro N g ps assign body env ds st) (bK k):=by
  unfold rfSK rfS
  cases ro with
  | none =>
    simp only [newK_eq,rfBK_eq hr]
  | some l0 =>
    obtain ⟨h,nx,b,R,W⟩:=st
    simp only
    cases h.get l0 with
    | none=>rfl
    | some o =>
      cases o with
      | loop r0=>simp only [newK_eq,insK_eq,rfBK_eq hr]
      | _=>rfl
variable (P sm)
structure KC where
  run:RecK→Option Nat→Tr SV→List Nat→St→(Ex→Tr SV→List Nat→St→RB)→RB
def cndF (v:SV) (a b:RB):RB:=match v with
  | .raw (.bool true)=>a
  | .raw (.bool false)=>b
  | _=>none
def kThn (N:Nat) (x y:Code):KC:=⟨fun rk ro env ds st k=>rk ro N x env ds st fun e env' ds' st'=>Ex.rec (motive:=fun _=>RB) (rk ro N y env' ds' st' k) (fun i=>k (.ext i) env' ds' st') (fun l=>k (.gto l) env' ds' st') (k .ret env' ds' st') e⟩
def unK (rk:RecK):Rec:=fun ro N c env ds st=>Option.rec (motive:=fun _=>Option (List Out)) none (fun L=>some (List.rec (motive:=fun _=>List Out) [] (fun a _ ih=>Ans.rec (motive:=fun _=>List Out) (fun _ e env ds st=>(e,env,ds,st)::ih) a) L)) (rk ro N c env ds st fun e env ds st=>some [⟨.raw undef,e,env,ds,st⟩])
theorem unK_eq {rk:RecK} {rec:Rec} (h:RecOK rk rec):unK rk=rec:=by
  funext ro N c env ds st
  unfold unK
  rw [h]
  have e0:=bnd_map (rec ro N c env ds st) outA
  have e1:(bnd (rec ro N c env ds st) fun o=>some [⟨.raw undef,o.1,o.2.1,o.2.2.1,o.2.2.2⟩])=(rec ro N c env ds st).map (List.map outA):=e0
  rw [e1]
  cases rec ro N c env ds st with
  | none=>rfl
  | some L =>
    show some _=some _
    congr 1
    induction L with
    | nil=>rfl
    | cons o L ih=>exact congrArg (o::·) ih
def mlPat:Code→Bool
  | .seq a _=>match a with
    | .region _ ops draw=>match draw with
      | false=>match ops.toList with
        | o::_=>match o.op with
          | .next _ s=>!s
          | _=>false
        | []=>false
      | true=>false
    | _=>false
  | _=>false
theorem mlPat_of {rec:Rec} {ro:Option Nat} {N:Nat} {b:Code} {env:Tr SV} {ds:List Nat} {st:St} {L:List Out} (h:mlS P sm rec ro N (.loop b) env ds st=some L):mlPat b=true:=by
  obtain ⟨id,o,os,C,x,d,A,h1,h2,_⟩:=mlS_some h
  injection h1 with h1
  subst h1
  simp only [mlPat,h2]
  rfl
def mlK (rk:RecK) (ro:Option Nat) (N:Nat) (b:Code) (env:Tr SV) (ds:List Nat) (st:St) (k:Ex→Tr SV→List Nat→St→RB):RB:=match mlS P sm (unK rk) ro N (.loop b) env ds st with
  | some L=>bnd (some L) (bK k)
  | none=>(kThn N b (.loop b)).run rk ro env ds st k
def kLoop (N:Nat) (b:Code):KC:=Bool.rec (motive:=fun _=>KC) (kThn N b (.loop b)) ⟨fun rk ro env ds st k=>mlK P sm rk ro N b env ds st k⟩ (mlPat b)
theorem stepM_eqC {rec:Rec} {ro:Option Nat} {N:Nat} {c:Code} {env:Tr SV} {ds:List Nat} {st:St} (h:mlS P sm rec ro N c env ds st=none):stepM P sm rec ro N c env ds st=stepC P sm rec ro N c env ds st:=by
  unfold stepM;rw [h]
def compC (N:Nat):Code→KC:=Code.rec (motive:=fun _=>KC)
  ⟨fun _ _ env ds st k=>k .nrm env ds st⟩
  (fun _ ops draw=>Bool.rec (motive:=fun _=>KC) (KL.rec (motive:=fun _=>KC) (fun run=>⟨fun rk _ env ds st k=>run rk env st fun env' st'=>k .nrm env' ds st'⟩) (Bool.rec (motive:=fun _=>KL) (compL P sm N ops.toList ops.toList) (compD P sm N ops) draw)) ⟨fun rk _ env ds st k=>obd (exD2 P sm (unK rk) N ops env st) fun p=>k .nrm p.1 ds p.2⟩ (draw&&lmPat ops))
  (fun x y _ _=>kThn N x y)
  (fun c x y _ _=>kX1 c fun c=>⟨fun rk ro env ds st k=>cndF (c env) (rk ro N x env ds st k) (rk ro N y env ds st k)⟩)
  (fun id b _=>⟨fun rk ro env ds st k=>rk ro N b env ds st fun e env' ds' st'=>Ex.rec (motive:=fun _=>RB) (k .nrm env' ds' st') (fun i=>Bool.rec (motive:=fun _=>RB) (k (.ext i) env' ds' st') (k .nrm env' ds' st') (Nat.beq i id)) (fun l=>k (.gto l) env' ds' st') (k .ret env' ds' st') e⟩)
  (fun b _=>kLoop P sm N b)
  (fun g ps assign body _ _=>⟨fun rk ro env ds st k=>rfSK P sm rk ro N g ps assign body env ds st k⟩)
  (fun id=>⟨fun _ _ env ds st k=>k (.ext id) env ds st⟩)
  (fun b _=>⟨fun rk ro env ds st k=>rk ro N b env ds st fun e env' ds' st'=>Ex.rec (motive:=fun _=>RB) (k .nrm env' ds' st') (fun i=>k (.ext i) env' ds' st') (fun _=>none) (k .ret env' ds' st') e⟩)
  (fun _=>⟨fun _ _ env ds st k=>k .nrm env ds st⟩)
  (fun l=>⟨fun _ _ env ds st k=>k (.gto l) env ds st⟩)
  ⟨fun _ _ env ds st k=>k .ret env ds st⟩
  (fun _=>⟨fun _ _ _ _ _ _=>none⟩)
theorem thn_eq {rk:RecK} {rec:Rec} (hr:RecOK rk rec) (ro:Option Nat) (N:Nat) (x y:Code) (env:Tr SV) (ds:List Nat) (st:St) (k:Ex→Tr SV→List Nat→St→RB):(kThn N x y).run rk ro env ds st k=bnd (bnd (rec ro N x env ds st) (thnS rec ro N y)) (bK k):=by
  show (rk ro N x env ds st fun e env' ds' st'=>Ex.rec (motive:=fun _=>RB) (rk ro N y env' ds' st' k) (fun i=>k (.ext i) env' ds' st') (fun l=>k (.gto l) env' ds' st') (k .ret env' ds' st') e)=_
  rw [hr,bnd_bnd]
  congr 1
  funext o
  obtain ⟨e,env',ds',st'⟩:=o
  cases e with
  | nrm=>exact hr ..
  | ext i=>exact one_b k (.ext i) env' ds' st'
  | gto l=>exact one_b k (.gto l) env' ds' st'
  | ret=>exact one_b k .ret env' ds' st'
theorem compC_eqC {rk:RecK} {rec:Rec} (hr:RecOK rk rec) (ro:Option Nat) (N:Nat) (c:Code) (hc:∀ b,c≠.loop b) (hl:∀ id ops draw,c=.region id ops draw→(draw&&lmPat ops)=false) (env:Tr SV) (ds:List Nat) (st:St) (k:Ex→Tr SV→List Nat→St→RB):(compC P sm N c).run rk ro env ds st k=bnd (stepC P sm rec ro N c env ds st) (bK k):=by
  cases c with
  | region id ops draw =>
    have hlp:=hl id ops draw rfl
    show (Bool.rec (motive:=fun _=>KC) (KL.rec (motive:=fun _=>KC) (fun run=>⟨fun rk _ env ds st k=>run rk env st fun env' st'=>k .nrm env' ds st'⟩) (Bool.rec (motive:=fun _=>KL) (compL P sm N ops.toList ops.toList) (compD P sm N ops) draw)) ⟨fun rk _ env ds st k=>obd (exD2 P sm (unK rk) N ops env st) fun p=>k .nrm p.1 ds p.2⟩ (draw&&lmPat ops):KC).run rk ro env ds st k=_
    rw [hlp]
    cases draw with
    | false =>
      show (KL.rec (motive:=fun _=>KC) (fun run=>⟨fun rk _ env ds st k=>run rk env st fun env' st'=>k .nrm env' ds st'⟩) (compL P sm N ops.toList ops.toList):KC).run rk ro env ds st k=_
      have e:=fun (k:Tr SV→St→RB)=>compL_eq P sm hr N ops.toList ops.toList env st k
      generalize compL P sm N ops.toList ops.toList=c at *
      cases c with
      | mk run =>
        refine (e _).trans ?_
        have:stepC P sm rec ro N (.region id ops false) env ds st=bnd (exL P sm rec N ops.toList ops.toList env st) (nrmS ds):=by
          simp only [stepC]
          cases exL P sm rec N ops.toList ops.toList env st <;> rfl
        rw [this,bnd_bnd]
        congr 1
        funext p
        exact one_b k .nrm p.1 ds p.2
    | true =>
      show (KL.rec (motive:=fun _=>KC) (fun run=>⟨fun rk _ env ds st k=>run rk env st fun env' st'=>k .nrm env' ds st'⟩) (compD P sm N ops):KC).run rk ro env ds st k=_
      have e:=fun (k:Tr SV→St→RB)=>compD_eq P sm hr N ops env st k
      generalize compD P sm N ops=c at *
      cases c with
      | mk run =>
        refine (e _).trans ?_
        simp only [stepC]
        cases exD P sm rec N ops env st with
        | none=>rfl
        | some p=>exact one_b k .nrm p.1 ds p.2
  | seq x y =>
    refine (thn_eq hr ro N x y env ds st k).trans ?_
    simp only [stepC]
    cases rec ro N x env ds st <;> rfl
  | cond c x y =>
    show (kX1 c fun c=>(⟨fun rk ro env ds st k=>cndF (c env) (rk ro N x env ds st k) (rk ro N y env ds st k)⟩:KC)).run rk ro env ds st k=_
    rw [kX1_eq]
    show cndF (svOp env c) _ _=_
    rw [hr,hr]
    simp only [stepC]
    generalize svOp env c=v
    unfold cndF
    cases v with
    | raw v=>cases v with
      | bool b=>cases b <;> rfl
      | _=>rfl
    | _=>rfl
  | block id b =>
    show (rk ro N b env ds st fun e env' ds' st'=>Ex.rec (motive:=fun _=>RB) (k .nrm env' ds' st') (fun i=>Bool.rec (motive:=fun _=>RB) (k (.ext i) env' ds' st') (k .nrm env' ds' st') (Nat.beq i id)) (fun l=>k (.gto l) env' ds' st') (k .ret env' ds' st') e)=_
    rw [hr]
    have:stepC P sm rec ro N (.block id b) env ds st=bnd (rec ro N b env ds st) (blkS id):=by
      simp only [stepC]
      cases rec ro N b env ds st <;> rfl
    rw [this,bnd_bnd]
    congr 1
    funext o
    obtain ⟨e,env',ds',st'⟩:=o
    cases e with
    | ext i =>
      show Bool.rec (motive:=fun _=>RB) (k (.ext i) env' ds' st') (k .nrm env' ds' st') (Nat.beq i id)=bnd (bif Nat.beq i id then some [(.nrm,env',ds',st')] else some [(.ext i,env',ds',st')]) (bK k)
      cases Nat.beq i id with
      | true=>exact one_b k .nrm env' ds' st'
      | false=>exact one_b k (.ext i) env' ds' st'
    | nrm=>exact one_b k .nrm env' ds' st'
    | gto l=>exact one_b k (.gto l) env' ds' st'
    | ret=>exact one_b k .ret env' ds' st'
  | loop b=>exact absurd rfl (hc b)
  | rangeFunc g ps assign body=>exact rfSK_eq hr ..
  | scope b =>
    show (rk ro N b env ds st fun e env' ds' st'=>Ex.rec (motive:=fun _=>RB) (k .nrm env' ds' st') (fun i=>k (.ext i) env' ds' st') (fun _=>none) (k .ret env' ds' st') e)=_
    rw [hr]
    have:stepC P sm rec ro N (.scope b) env ds st=bnd (rec ro N b env ds st) scoS:=by
      simp only [stepC]
      cases rec ro N b env ds st <;> rfl
    rw [this,bnd_bnd]
    congr 1
    funext o
    obtain ⟨e,env',ds',st'⟩:=o
    cases e with
    | gto l=>rfl
    | nrm=>exact one_b k .nrm env' ds' st'
    | ext i=>exact one_b k (.ext i) env' ds' st'
    | ret=>exact one_b k .ret env' ds' st'
  | skip=>exact one_b k .nrm env ds st
  | label l=>exact one_b k .nrm env ds st
  | goto l=>exact one_b k (.gto l) env ds st
  | exit l=>exact one_b k (.ext l) env ds st
  | ret=>exact one_b k .ret env ds st
  | _=>rfl
theorem compC_eqM {rk:RecK} {rec:Rec} (hr:RecOK rk rec) (ro:Option Nat) (N:Nat) (c:Code) (hl:∀ id ops draw,c=.region id ops draw→(draw&&lmPat ops)=false) (env:Tr SV) (ds:List Nat) (st:St) (k:Ex→Tr SV→List Nat→St→RB):(compC P sm N c).run rk ro env ds st k=bnd (stepM P sm rec ro N c env ds st) (bK k):=by
  by_cases hc:∀ b,c≠.loop b
  · rw [stepM_eqC P sm (by
      cases h:mlS P sm rec ro N c env ds st with
      | none=>rfl
      | some L =>
        obtain ⟨id,o,os,C,x,d,A,h1,_⟩:=mlS_some h
        exact absurd h1 (hc _))]
    exact compC_eqC P sm hr ro N c hc hl env ds st k
  · have hb:∃ b,c=.loop b:=by
      cases c with
      | loop b=>exact ⟨b,rfl⟩
      | _=>exact absurd (fun b h=>by cases h) hc
    obtain ⟨b,rfl⟩:=hb
    have e1:=thn_eq hr ro N b (.loop b) env ds st k
    have e2:stepC P sm rec ro N (.loop b) env ds st=bnd (rec ro N b env ds st) (thnS rec ro N (.loop b)):=by
      simp only [stepC]
      cases rec ro N b env ds st <;> rfl
    rw [← e2] at e1
    show (kLoop P sm N b).run rk ro env ds st k=_
    unfold kLoop
    cases hp:mlPat b with
    | false =>
      have hn:mlS P sm rec ro N (.loop b) env ds st=none:=by
        cases h:mlS P sm rec ro N (.loop b) env ds st with
        | none=>rfl
        | some L=>rw [mlPat_of P sm h] at hp;cases hp
      rw [stepM_eqC P sm hn]
      exact e1
    | true =>
      show mlK P sm rk ro N b env ds st k=_
      unfold mlK stepM
      rw [unK_eq hr]
      cases mlS P sm rec ro N (.loop b) env ds st with
      | none=>exact e1
      | some L=>rfl
theorem compC_eq {rk:RecK} {rec:Rec} (hr:RecOK rk rec) (ro:Option Nat) (N:Nat) (c:Code) (env:Tr SV) (ds:List Nat) (st:St) (k:Ex→Tr SV→List Nat→St→RB):(compC P sm N c).run rk ro env ds st k=bnd (stepN P sm rec ro N c env ds st) (bK k):=by
  by_cases hl:∀ id ops draw,c=.region id ops draw→(draw&&lmPat ops)=false
  · have e:stepN P sm rec ro N c env ds st=stepM P sm rec ro N c env ds st:=by
      cases c with
      | region id ops draw=>simp only [stepN,hl id ops draw rfl]
      | _=>rfl
    rw [e]
    exact compC_eqM P sm hr ro N c hl env ds st k
  · cases c with
    | region id ops draw =>
      have hd:(draw&&lmPat ops)=true:=by
        cases hh:(draw&&lmPat ops) with
        | true=>rfl
        | false=>exact absurd (fun id' ops' draw' e=>by cases e;exact hh) hl
      have e:stepN P sm rec ro N (.region id ops draw) env ds st=lmS P sm rec N ops env ds st:=by simp only [stepN,hd]
      rw [e]
      show (Bool.rec (motive:=fun _=>KC) (KL.rec (motive:=fun _=>KC) (fun run=>⟨fun rk _ env ds st k=>run rk env st fun env' st'=>k .nrm env' ds st'⟩) (Bool.rec (motive:=fun _=>KL) (compL P sm N ops.toList ops.toList) (compD P sm N ops) draw)) ⟨fun rk _ env ds st k=>obd (exD2 P sm (unK rk) N ops env st) fun p=>k .nrm p.1 ds p.2⟩ (draw&&lmPat ops):KC).run rk ro env ds st k=_
      rw [hd]
      show obd (exD2 P sm (unK rk) N ops env st) (fun p=>k .nrm p.1 ds p.2)=_
      rw [unK_eq hr]
      unfold lmS
      cases exD2 P sm rec N ops env st with
      | none=>rfl
      | some p=>exact one_b k .nrm p.1 ds p.2
    | _=>exact absurd (fun id ops draw e=>by cases e) hl
def exCK (n:Nat):RecK:=Nat.rec (motive:=fun _=>RecK) (fun _ _ _ _ _ _ _=>none) (fun _ ih ro N c env ds st k=>KC.rec (motive:=fun _=>RB) (fun run=>run ih ro env ds st k) (compC P sm N c)) n
theorem exCK_eq:∀ n,RecOK (exCK P sm n) (exN P sm n)
  | 0=>fun _ _ _ _ _ _ _=>rfl
  | n+1=>fun ro N c env ds st k=>by
    have e:=compC_eq P sm (exCK_eq n) ro N c env ds st k
    show KC.rec (motive:=fun _=>RB) (fun run=>run (exCK P sm n) ro env ds st k) (compC P sm N c)=bnd (stepN P sm (exN P sm n) ro N c env ds st) _
    refine Eq.trans ?_ e
    cases compC P sm N c;rfl
end
def yesF (P:Program) (sm:Program→Sums) (n:Nat) (f:FuncId):Bool:=fastK P fun P=>match exFK P (sm P) (exCK P (sm P) n) f [] st0 with
  | some L=>allT L
  | _=>false
theorem yesF_eq (P:Program) (sm:Program→Sums) (n:Nat) (f:FuncId):yesF P sm n f=yesN P (sm P) n f:=by
  unfold yesF
  rw [fastK_eq]
  simp only [exFK_eq P (sm P) (exCK_eq P (sm P) n),yesN] <;> rfl
end
end Go.TX
namespace Go.TX
open Go Go.TH
variable {P:Program}
def enB (P : Program) : Bool := P.funcs.toList.all fun fn => fn.body.isNone || !(fn.name == "runtime.NumGoroutine")
theorem Enters.of (h:enB P=true):Enters P:=by
 rintro f ⟨fn,c,hf,hb⟩ args w
 have hm:fn∈P.funcs.toList:=Array.mem_toList_iff.2 (Array.mem_of_getElem? hf)
 have:=List.all_eq_true.1 h fn hm
 rw [hb] at this
 simp only [Option.isNone_some,Bool.false_or,Bool.not_eq_true'] at this
 have hne : ¬ fn.name = "runtime.NumGoroutine" := fun e => by rw [e] at this; simp at this
 simp [callFunc,hf,hne,hb]
theorem sum0:SumOK P (fun _=>none):=⟨fun f s args st v st' h=>(by cases h),fun f s args st v st' h=>(by cases h)⟩
end Go.TX
namespace Go.TX
open Go Go.TH
variable {P:Program} {ρ:Ren} {D:Nat→Prop} {st:St} {w w':World}
def Yes (P:Program) (f:FuncId):Prop:=HasBody P f∧∀ w,CallsIn Fence.wide 0 P f #[] w (fun e w'=>e=.returned (.bool true)∧Kept w w')
def smY (l:List Nat) (_:Program):Sums:=fun f=>bif memb f l then some (fun args st=>match args with
 | []=>some (.raw (.bool true),st)
 | _=>none) else none
theorem Step.kept (hs:Sim ρ D st w) (k:Kept w w'):Step ρ ρ D st st w w':=by
 have h:=Step.refl hs
 exact ⟨k.os,k.tape,k.output,k.size,Nat.le_refl _,rfl,h.sR,h.sW,h.ext,fun b hb=>.inl (k.keep b hb),h.dead,h.same,h.fresh,h.sim.world k.keep⟩
theorem smY_ok {l:List Nat} (h:∀ f,f∈l→Yes P f):SumOK P (smY l P):=by
 have key:∀ f s args st v st',smY l P f=some s→s args st=some (v,st')→f∈l∧args=[]∧v=.raw (.bool true)∧st'=st:=by
  intro f s args st v st' h1 h2
  unfold smY at h1
  cases hm:memb f l with
  | false=>rw [hm] at h1;cases h1
  | true =>
   rw [hm,cond_true,Option.some.injEq] at h1
   subst h1
   cases args with
   | nil =>
    simp only [Option.some.injEq,Prod.mk.injEq] at h2
    exact ⟨memb_mem hm,rfl,h2.1.symm,h2.2.symm⟩
   | cons a r=>simp at h2
 refine ⟨fun f s args st v st' h1 h2=>?_,fun f s args st v st' h1 h2=>?_⟩
 ·obtain ⟨_,_,_,rfl⟩:=key f s args st v st' h1 h2
  exact Mono.refl _
 ·obtain ⟨hf,rfl,rfl,rfl⟩:=key f s args st v st' h1 h2
  refine ⟨fun ρ D w us hu hs _ _=>?_,(h f hf).1⟩
  rw [RelL] at hu
  subst hu
  refine CallsIn.mono ((h f hf).2 w) ?_
  rintro e w' ⟨rfl,hk⟩
  exact ⟨_,List.mem_cons_self,.bool true,ρ,rfl,by rw [Rel],Step.kept hs hk⟩
theorem yesS (hm:P.follows .mixedOrders=true) (he:enB P=true) {sm:Program→Sums} (hsm:SumOK P (sm P)) {n:Nat} {f:FuncId} (hb:HasBody P f) (h:yesF P sm n f=true):Yes P f:=by
 rw [yesF_eq] at h
 exact ⟨hb,yesN_ok hm (Enters.of he) hsm h⟩
def hbB (P:Program) (f:FuncId):Bool:=match P.funcs[f]? with
 | some fn=>fn.body.isSome
 | none=>false
theorem hbB_ok {f:FuncId} (h:hbB P f=true):HasBody P f:=by
 unfold hbB at h
 split at h
 ·rename_i fn hf
  obtain ⟨c,hc⟩:=Option.isSome_iff_exists.1 h
  exact ⟨fn,c,hf,hc⟩
 ·cases h
end Go.TX
namespace Go.TH
open Go Go.TX
variable {P:Program}
theorem Ret.yes {f:FuncId} (h:Yes P f) (w:World):Ret P f #[] w (.bool true):=by
 refine CallsIn.mono (h.2 w) ?_
 rintro e w' ⟨rfl,hk⟩
 exact ⟨_,rfl,[],⟨rfl,rfl⟩,hk.os,hk.tape,hk.output,hk.size,fun k hk' _=>hk.keep k hk',trivial⟩
end Go.TH
namespace Go.Proofs.YtnehaifgcegemaaGreat
open Go Go.TH Sp
attribute [local irreducible] W WO pt
set_option maxRecDepth 10000
set_option maxHeartbeats 4000000
theorem law_TruthsCircle (y17:Go.TX.Yes Tryz.prog 17) (w:World) (v:Value) (l:List Rn) (p q:Int) (u:Value) (ps:Tu.Pts) (hR:RdF encRn 4 w.heap.size w v l) (hP:RdF encP 2 w.heap.size w u ps):Ret Tryz.prog 4 [v,.int .i64 p,.int .i64 q,u].toArray w (.bool true):=by
 refine Ret.of mixed tyTab Tryz.func4 rfl rfl ?_
 replace hR:RdF encRn 4 (fnCx mixed tyTab Tryz.f4.ntmps w).B (fnCx mixed tyTab Tryz.f4.ntmps w).w0 v l:=hR
 replace hP:RdF encP 2 (fnCx mixed tyTab Tryz.f4.ntmps w).B (fnCx mixed tyTab Tryz.f4.ntmps w).w0 u ps:=hP
 have hle:=hP.sl.le
 refine W.sreg (WO.p rfl rfl (WO.nil (W.seq (W.sreg (WO.p rfl rfl (WO.callR rfl Tryz.call15 (fun L w hi=>ref_CheckRuns w v l (hR.later hi)) rfl (WO.p rfl rfl (WO.p rfl rfl ?_))))))))
 refine WO.guard_bl rfl rfl (fun c1=>?_) (fun c1=>?_)
 ·refine WO.no rfl rfl (WO.no rfl rfl (WO.no rfl rfl (WO.p rfl rfl (WO.p rfl rfl (WO.no rfl rfl (WO.no rfl rfl (WO.p rfl rfl (WO.p rfl rfl (WO.no rfl rfl (WO.no rfl rfl (WO.p rfl rfl (WO.p rfl rfl (WO.no rfl rfl (WO.no rfl rfl (WO.p rfl rfl (WO.p rfl rfl (WO.no rfl rfl (WO.no rfl rfl (WO.p rfl rfl (WO.nil (W.cond_t rfl (W.sreg (WO.callR rfl Tryz.call17 (fun L w hi=>Ret.yes y17 w) rfl (WO.p rfl rfl (WO.nil (W.ret ?_))))))))))))))))))))))))))
  exact fin.ret (Res.one rfl (RV.tmp rfl)) rfl
 ·refine WO.pg rfl rfl rfl (WO.go' rfl (WO.callR rfl Tryz.call16 (fun L w hi=>Tu.ref_CheckTrack w u ps (hP.later hi)) rfl (WO.pg rfl rfl rfl (WO.p rfl rfl (WO.p rfl rfl ?_)))))
  refine WO.guard_bl rfl rfl (fun c2=>?_) (fun c2=>?_)
  ·refine WO.no rfl rfl (WO.no rfl rfl (WO.p rfl rfl (WO.p rfl rfl (WO.no rfl rfl (WO.no rfl rfl (WO.p rfl rfl (WO.p rfl rfl (WO.no rfl rfl (WO.no rfl rfl (WO.p rfl rfl (WO.p rfl rfl (WO.no rfl rfl (WO.no rfl rfl (WO.p rfl rfl (WO.nil (W.cond_t rfl (W.sreg (WO.callR rfl Tryz.call17 (fun L w hi=>Ret.yes y17 w) rfl (WO.p rfl rfl (WO.nil (W.ret ?_)))))))))))))))))))))
   exact fin.ret (Res.one rfl (RV.tmp rfl)) rfl
  ·refine WO.pg rfl rfl rfl (WO.pg rfl rfl rfl (WO.p rfl rfl (WO.p rfl rfl ?_)))
   refine WO.guard_bl rfl rfl (fun c3=>?_) (fun c3=>?_)
   ·refine WO.no rfl rfl (WO.no rfl rfl (WO.p rfl rfl (WO.p rfl rfl (WO.no rfl rfl (WO.no rfl rfl (WO.p rfl rfl (WO.p rfl rfl (WO.no rfl rfl (WO.no rfl rfl (WO.p rfl rfl (WO.nil (W.cond_t rfl (W.sreg (WO.callR rfl Tryz.call17 (fun L w hi=>Ret.yes y17 w) rfl (WO.p rfl rfl (WO.nil (W.ret ?_)))))))))))))))))
    exact fin.ret (Res.one rfl (RV.tmp rfl)) rfl
   ·refine WO.pg rfl rfl rfl (WO.pg rfl rfl rfl (WO.p rfl rfl (WO.p rfl rfl ?_)))
    refine WO.guard_bl rfl rfl (fun c4=>?_) (fun c4=>?_)
    ·refine WO.no rfl rfl (WO.no rfl rfl (WO.p rfl rfl (WO.p rfl rfl (WO.no rfl rfl (WO.no rfl rfl (WO.p rfl rfl (WO.nil (W.cond_t rfl (W.sreg (WO.callR rfl Tryz.call17 (fun L w hi=>Ret.yes y17 w) rfl (WO.p rfl rfl (WO.nil (W.ret ?_)))))))))))))
     exact fin.ret (Res.one rfl (RV.tmp rfl)) rfl
    ·refine WO.pg rfl rfl rfl (WO.pg rfl rfl rfl (WO.p rfl rfl (WO.p rfl rfl ?_)))
     refine WO.guard_bl rfl rfl (fun c5=>?_) (fun c5=>?_)
     ·refine WO.no rfl rfl (WO.no rfl rfl (WO.p rfl rfl (WO.nil (W.cond_t rfl (W.sreg (WO.callR rfl Tryz.call17 (fun L w hi=>Ret.yes y17 w) rfl (WO.p rfl rfl (WO.nil (W.ret ?_)))))))))
      exact fin.ret (Res.one rfl (RV.tmp rfl)) rfl
     ·refine WO.pg rfl rfl rfl (WO.pg rfl rfl rfl (WO.p rfl rfl (WO.nil ?_)))
      refine W.cond_bl rfl (fun c6=>?_) (fun c6=>?_)
      ·refine W.sreg (WO.callR rfl Tryz.call17 (fun L w hi=>Ret.yes y17 w) rfl (WO.p rfl rfl (WO.nil (W.ret ?_))))
       exact fin.ret (Res.one rfl (RV.tmp rfl)) rfl
      ·refine W.skip ?_
       have hruns:chkRs l=0:=by omega
       have hpts:=chkL_0 (show Tu.chkL ps=0 by omega)
       refine W.sreg (WO.p rfl rfl (WO.nil (W.seq (W.sreg (WO.p rfl rfl (WO.nil (W.block (W.chg (owNil (enc:=encP) (e:=49) (sz:=2)) ?_))))))))
       refine W.loop2 (fun (i:Nat) (kv:Value)=>i≤ps.length)
        (fun (i:Nat) (kv:Value)=>[(10,.int .i64 (i:Int)),(9,kv),(0,v),(1,.int .i64 p),(2,.int .i64 q),(3,u)])
        (fun (i:Nat) (kv:Value)=>[OwE encP 49 2 kv (keep l (ps.take i))])
        (fun (i:Nat) (kv:Value)=>ps.length-i) 0 (.slice none 0 0)
        (by omega) ⟨rfl,rfl,rfl,rfl,rfl,rfl,trivial⟩ (by repeat (first | exact Sub.nil | refine Sub.cons (by repeat first | exact .head | apply Pick.tail) ?_)) ?_
       rintro i kv hi0
       refine W.seq (W.sreg (WO.p rfl rfl (WO.p rfl rfl (WO.len rfl rfl hP.sl rfl (WO.p rfl rfl (WO.nil ?_))))))
       refine W.cond_bl rfl (fun c7=>?_) (fun c7=>?_)
       ·refine W.skip (W.seq (W.block (W.seq ?_)))
        refine W.drawD 12 [.r 0 [],.r 1 [],.r 2 [],.r 3 [],.b 4 [],.r 5 [],.r 6 [],.r 7 [],.r 8 [],.b 9 [],.r 10 [],.a 11 11 (.cells #[.int .i64 0,.int .i64 0,.int .i64 0] 51 (0,0))] [] (A0:=[]) (Sub.refl _) (by kernel_rfl) ?_ ?_
        ·exact (ALok.r (ALok.r (ALok.r (ALok.r (ALok.b (ALok.r (ALok.r (ALok.r (ALok.r (ALok.b (ALok.r (ALok.cons rfl rfl rfl rfl rfl ALok.nil))))))))))))
        refine DT.r rfl rfl rfl (WO.p rfl rfl (WO.nil ⟨rfl,rfl⟩)) (DT.r rfl rfl rfl (WO.p rfl rfl (WO.nil ⟨rfl,rfl⟩)) (DT.r rfl rfl rfl (WO.indexAddr rfl rfl rfl hP.sl (by first | omega | (simp;omega)) rfl (WO.nil ⟨rfl,rfl⟩)) (DT.r rfl rfl rfl (WO.field0 rfl rfl rfl (WO.nil ⟨rfl,rfl⟩)) ?_)))
        refine' DT.b rfl rfl rfl ?hq ?_
        case hq =>
         refine' WO.load (v:=_) rfl rfl ?hc rfl ?_
         case hc=>((refine RdF.cell0 hP (i:=i) (by omega) (0,0) ?_;rfl))
         exact WO.nil ⟨rfl,rfl⟩
        refine DT.r rfl rfl rfl (WO.p rfl rfl (WO.nil ⟨rfl,rfl⟩)) (DT.r rfl rfl rfl (WO.p rfl rfl (WO.nil ⟨rfl,rfl⟩)) (DT.r rfl rfl rfl (WO.indexAddr rfl rfl rfl hP.sl (by first | omega | (simp;omega)) rfl (WO.nil ⟨rfl,rfl⟩)) (DT.r rfl rfl rfl (WO.field rfl rfl rfl (WO.nil ⟨rfl,rfl⟩)) ?_)))
        refine' DT.b rfl rfl rfl ?hq ?_
        case hq =>
         refine' WO.load (v:=_) rfl rfl ?hc rfl ?_
         case hc=>((refine RdF.cellAt hP (i:=i) (by omega) (0,0) (j:=1) ?_;rfl))
         exact WO.nil ⟨rfl,rfl⟩
        refine DT.r rfl rfl rfl (WO.build rfl rfl rfl rfl rfl (WO.nil ⟨rfl,rfl⟩)) (DT.a (fun b1=>(DT.nil [_,_] rfl (WO.storeA rfl rfl rfl rfl Pick.head rfl rfl (WO.nil (W.seq (W.seq ?_)))))))
        refine W.drawD 5 [.r 0 [],.b 1 [],.b 2 [],.r 3 [],.b 4 []] [] (A0:=[]) (Sub.refl _) (by kernel_rfl) ?_ ?_
        ·repeat constructor
        refine DT.r rfl rfl rfl (WO.p rfl rfl (WO.nil ⟨rfl,rfl⟩)) (DT.b rfl rfl rfl (WO.loadA rfl rfl (Cells.own Pick.head) rfl rfl (WO.nil ⟨rfl,rfl⟩)) (DT.b rfl rfl rfl (WO.callR rfl Tryz.call18 (fun L w hi=>ref_Fits w v l (ptT (ps.getD i (0,0))) (hR.later hi)) rfl (WO.nil ⟨rfl,rfl⟩)) (DT.r rfl rfl rfl (WO.p rfl rfl (WO.nil ⟨rfl,rfl⟩)) (DT.b rfl rfl rfl (WO.loadA rfl rfl (Cells.own Pick.head) rfl rfl (WO.nil ⟨rfl,rfl⟩)) (DT.nil [_,_] rfl (WO.callR rfl Tryz.call19 (fun L w hi=>c_Fits w v l (ptT (ps.getD i (0,0))) (hR.later hi)) rfl (WO.neqF rfl rfl (by omega) rfl (WO.nil (W.cond_f rfl (W.skip (W.sreg ?_)))))))))))
        refine WO.p rfl rfl (WO.loadA rfl rfl (Cells.own Pick.head) rfl rfl (WO.callR rfl Tryz.call18 (fun L w hi=>ref_Fits w v l (ptT (ps.getD i (0,0))) (hR.later hi)) rfl (WO.p rfl rfl (WO.nil ?_))))
        refine W.cond_bl rfl (fun c8=>?_) (fun c8=>?_)
        ·refine W.region (WO.p rfl rfl (WO.p rfl rfl (WO.p rfl rfl (WO.indexAddr rfl rfl rfl hP.sl (by first | omega | (simp;omega)) rfl (WO.loadA rfl rfl (Tu.RdF.cells2 hP (i:=i) (by omega)) rfl rfl (WO.buildSl rfl rfl rfl rfl rfl rfl rfl rfl rfl (fun v2=>?_)))))))
         refine' WO.appendE (enc:=encP) (m:=1) (ys:=[ps.getD i (0,0)]) encP_ok rfl rfl rfl rfl rfl (by repeat first | exact .head | apply Pick.tail) (isSl_lit (by omega) (fun _=>⟨_,_,rfl⟩)) (by omega) rfl (OwC.cells .head) (by have:=keep_len (l:=l) (ps:=ps.take i);rw [List.length_take] at this;omega) (by have:=keep_len (l:=l) (ps:=ps.take i);rw [List.length_take] at this;omega) rfl (fun g c=>?_)
         rw [← keep_yes (l:=l) (ps:=ps) (i:=i) (by omega) ((chkFit_fit hruns (ptT_ok (hpts.1 _ (getD_mem (by omega) (0,0))))).1 (by assumption))]
         have hyes:=trivial
         refine WO.p rfl rfl (WO.nil ?_)
         first
         |(have q9:=hyes;clear q9)
         | rw [← keep_no (l:=l) (ps:=ps) (i:=i) (by omega) (fun q=>absurd ((chkFit_fit hruns (ptT_ok (hpts.1 _ (getD_mem (by omega) (0,0))))).2 q) (by assumption))]
         refine W.region (WO.p rfl rfl (WO.ar rfl rfl rfl (by unfold in64;omega) rfl (WO.p rfl rfl (WO.nil ?_))))
         refine' ⟨i+1,_,?hp,?hmu,⟨rfl,rfl,rfl,rfl,rfl,rfl,trivial⟩,?hS⟩
         case hS=>repeat (first | exact Sub.nil | refine Sub.cons (by repeat first | exact .head | apply Pick.tail) ?_)
         case hp=>omega
         case hmu=>omega
        ·refine W.skip ?_
         first
         |(have q9:=hyes;clear q9)
         | rw [← keep_no (l:=l) (ps:=ps) (i:=i) (by omega) (fun q=>absurd ((chkFit_fit hruns (ptT_ok (hpts.1 _ (getD_mem (by omega) (0,0))))).2 q) (by assumption))]
         refine W.region (WO.p rfl rfl (WO.ar rfl rfl rfl (by unfold in64;omega) rfl (WO.p rfl rfl (WO.nil ?_))))
         refine' ⟨i+1,_,?hp,?hmu,⟨rfl,rfl,rfl,rfl,rfl,rfl,trivial⟩,?hS⟩
         case hS=>repeat (first | exact Sub.nil | refine Sub.cons (by repeat first | exact .head | apply Pick.tail) ?_)
         case hp=>omega
         case hmu=>omega
       ·refine W.exit (blk_same (W.seq ?_))
        obtain rfl:i=ps.length:=by omega
        rw [List.take_length]
        refine W.fact (OwE.sl (enc:=encP) (e:=49) (sz:=2) (xs:=keep l ps) (by repeat first | exact .head | apply Pick.tail)) (fun hksl=>(W.sreg (WO.p rfl rfl (WO.len rfl rfl hksl rfl (WO.p rfl rfl (WO.nil ?_))))))
        refine W.cond_bl rfl (fun c9=>?_) (fun c9=>?_)
        ·refine W.sreg (WO.callR rfl Tryz.call17 (fun L w hi=>Ret.yes y17 w) rfl (WO.p rfl rfl (WO.nil (W.ret ?_))))
         exact fin.ret (Res.one rfl (RV.tmp rfl)) rfl
        ·refine W.skip ?_
         have hk0:keep l ps≠[]:=fun e=>by have h9:=congrArg List.length e;simp only [List.length_nil] at h9;omega
         have hck:=keep_chk (l:=l) hpts.1 hpts.2.2 hk0
         have hsm:=Tu.lst_sm (keep_sub (l:=l) hpts.1) hk0
         have hmid:=mid_fit (keep_sub (l:=l) hpts.1) hk0 keep_fit
         have hmd:=(hsm.ok).den
         refine W.sreg (WO.p rfl rfl (WO.callR (r:=.tuple #[Tu.cirV (Tu.lst (keep l ps)),.int .i64 0]) rfl Tryz.call20 (fun L w hi=>by have h:=Tu.c_Smallest w kv (keep l ps) (RdF.of_ow (e:=49) encP_ok (by repeat first | exact .head | apply Pick.tail) hi);rw [hck,if_pos rfl] at h;exact h) rfl (WO.p rfl rfl (WO.p rfl rfl (WO.p rfl rfl (WO.alloc rfl rfl rfl (fun b3 hb3=>(WO.storeA rfl rfl rfl rfl Pick.head rfl rfl (WO.p rfl rfl (WO.nil (W.seq (W.sreg (WO.p rfl rfl (WO.neqF rfl rfl (by omega) rfl (WO.p rfl rfl (WO.go' rfl (WO.loadA rfl rfl (Cells.own Pick.head) rfl rfl (WO.go' rfl ?_))))))))))))))))))
         refine WO.callR (r:=.int .i64 0) rfl Tryz.call21 (fun L w hi=>by have h:=Tu.ref_CheckCircle w (Tu.lst (keep l ps));rw [show Tu.chkR (Tu.lst (keep l ps))=0 from if_pos hsm.ok] at h;exact h) rfl (WO.go' rfl (WO.neqF rfl rfl (by omega) rfl (WO.p rfl rfl (WO.nil (W.cond_f rfl (W.skip (W.sreg (WO.field0 rfl rfl rfl (WO.load rfl rfl (Cell.own Pick.head rfl) rfl (WO.fieldL rfl rfl rfl (WO.load rfl rfl (Cell.own Pick.head rfl) rfl (WO.fieldL rfl rfl rfl (WO.load rfl rfl (Cell.own Pick.head rfl) rfl (WO.build rfl rfl rfl rfl rfl (WO.alloc rfl rfl rfl (fun b4 hb4=>(WO.storeA rfl rfl rfl rfl Pick.head rfl rfl (WO.nil (W.seq (W.sreg ?_))))))))))))))))))))
         refine WO.p rfl rfl (WO.loadA rfl rfl (Cells.own Pick.head) rfl rfl (WO.callR (r:=.int .i64 0) rfl Tryz.call19 (fun L w hi=>by have h:=c_Fits w v l (midT (Tu.lst (keep l ps))) (hR.later hi);rw [(chkFit_fit hruns (midT_ok hsm.ok)).2 hmid] at h;exact h) rfl (WO.neqF rfl rfl (by omega) rfl (WO.nil (W.cond_f rfl (W.skip (W.sreg (WO.p rfl rfl (WO.p rfl rfl (WO.p rfl rfl ?_))))))))))
         have htwo:=le_two (p:=p) (q:=q) hruns ⟨by omega,by omega⟩ ⟨by omega,by omega⟩ (t:=midT (Tu.lst (keep l ps))) (show 0<(Tu.lst (keep l ps)).den by omega) hmid
         refine WO.callE rfl Tryz.call22 (fun L w hi=>c_Least w v l p q (hR.later hi)) rfl ?_
         rintro _ ⟨x,rfl,hx⟩
         refine WO.p rfl rfl (WO.p rfl rfl (WO.p rfl rfl (WO.alloc rfl rfl rfl (fun b5 hb5=>(WO.storeA rfl rfl rfl rfl Pick.head rfl rfl (WO.p rfl rfl (WO.nil (W.seq (W.sreg (WO.p rfl rfl (WO.p rfl rfl (WO.nil ?_))))))))))))
         refine W.cond_bl rfl (fun c10=>?_) (fun c10=>?_)
         ·refine W.sreg (WO.p rfl rfl (WO.p rfl rfl (WO.p rfl rfl ?_)))
          refine WO.guard_bl rfl rfl (fun c11=>?_) (fun c11=>?_)
          ·refine WO.go' rfl (WO.callR rfl Tryz.call17 (fun L w hi=>Ret.yes y17 w) rfl (WO.p rfl rfl (WO.p rfl rfl (WO.nil (W.ret ?_)))))
           exact fin.ret (Res.one rfl (RV.tmp rfl)) rfl
          ·exfalso;omega
         ·refine W.skip ?_
          have hle0:leE l p q=0:=by omega
          obtain ⟨y,hm,rfl⟩:=hx hle0
          have hls:=leE_ok hle0
          have hmo:=hm.ok hls.1 hls.2.2.1 hls.2.2.2.1
          have hri:=red_in hmo.c hmo.t
          have hvb:=val_bd hls.2.2.1 hls.2.2.2.1 hsm.ok
          have hnl:¬ (red (p*(Tu.lst (keep l ps)).x+q*(Tu.lst (keep l ps)).y) (Tu.lst (keep l ps)).den).1*(red y.1.c y.2).2<(red y.1.c y.2).1*(red (p*(Tu.lst (keep l ps)).x+q*(Tu.lst (keep l ps)).y) (Tu.lst (keep l ps)).den).2:=bound_le hle0 hm (t:=midT (Tu.lst (keep l ps))) (show 0<(Tu.lst (keep l ps)).den by omega) hmid
          refine W.sreg (WO.p rfl rfl (WO.p rfl rfl (WO.loadA rfl rfl (Cells.own (Pick.tail (Pick.head))) rfl rfl (WO.callR (r:=raV (red (p*(Tu.lst (keep l ps)).x+q*(Tu.lst (keep l ps)).y) (Tu.lst (keep l ps)).den)) rfl Tryz.call23 (fun L w hi=>ref_Value w p q (midT (Tu.lst (keep l ps))) hls.2.2.1 hls.2.2.2.1 (midT_ok hsm.ok)) rfl (WO.alloc rfl rfl rfl (fun b6 hb6=>(WO.storeA rfl rfl rfl rfl Pick.head rfl rfl (WO.nil (W.sreg (WO.fieldL rfl rfl rfl (WO.load rfl rfl (Cell.own (Pick.tail (Pick.head)) rfl) rfl (WO.p rfl rfl (WO.p rfl rfl ?_)))))))))))))
          refine WO.guard_bl rfl rfl (fun c12=>?_) (fun c12=>?_)
          ·refine WO.go' rfl (WO.fieldL rfl rfl rfl (WO.go' rfl (WO.load rfl rfl (Cell.own (Pick.tail (Pick.head)) rfl) rfl (WO.pg rfl rfl rfl (WO.p rfl rfl (WO.p rfl rfl ?_))))))
           refine WO.guard_bl rfl rfl (fun c13=>?_) (fun c13=>?_)
           ·refine WO.go' rfl (WO.field0 rfl rfl rfl (WO.go' rfl (WO.load rfl rfl (Cell.own (Pick.tail (Pick.head)) rfl) rfl (WO.pg rfl rfl rfl (WO.p rfl rfl (WO.p rfl rfl ?_))))))
            refine WO.guard_bl rfl rfl (fun c14=>?_) (fun c14=>?_)
            ·refine WO.go' rfl (WO.field0 rfl rfl rfl (WO.go' rfl (WO.load rfl rfl (Cell.own (Pick.tail (Pick.head)) rfl) rfl (WO.pg rfl rfl rfl (WO.p rfl rfl (WO.p rfl rfl ?_))))))
             refine WO.guard_bl rfl rfl (fun c15=>?_) (fun c15=>?_)
             ·refine WO.go' rfl (WO.loadA rfl rfl (Cells.own Pick.head) rfl rfl (WO.go' rfl (WO.loadA rfl rfl (Cells.own (Pick.tail (Pick.head))) rfl rfl (WO.go' rfl (WO.callR (r:=.bool false) rfl Tryz.call24 (fun L w hi=>by have h:=ref_Less w (red (p*(Tu.lst (keep l ps)).x+q*(Tu.lst (keep l ps)).y) (Tu.lst (keep l ps)).den).1 (red (p*(Tu.lst (keep l ps)).x+q*(Tu.lst (keep l ps)).y) (Tu.lst (keep l ps)).den).2 (red y.1.c y.2).1 (red y.1.c y.2).2 (by omega) (by omega) (by omega) (by omega);rw [bl_f.2 hnl] at h;exact h) rfl (WO.pg rfl rfl rfl (WO.p rfl rfl (WO.p rfl rfl (WO.go' rfl ?_)))))))))
              refine WO.callR rfl Tryz.call17 (fun L w hi=>Ret.yes y17 w) rfl (WO.p rfl rfl (WO.p rfl rfl (WO.nil (W.ret ?_))))
              exact fin.ret (Res.one rfl (RV.tmp rfl)) rfl
             ·exfalso;omega
            ·exfalso;omega
           ·exfalso;omega
          ·exfalso;omega
end Go.Proofs.YtnehaifgcegemaaGreat
namespace Go.TX
open Go Go.TH
noncomputable section
variable {P:Program}
def smC (f:Nat) (_:Program):Sums:=fun g=>bif Nat.beq g f then some (fun args st=>match args with
 | [x]=>match x with
  | .map b=>rdMK st b fun es clk st1=>newK st1 (.map es clk) fun n st'=>some (.map n,st')
  | _=>none
 | _=>none) else none
theorem smC_ok {f:Nat} (hb:HasBody P f) (h:∀ (b:Nat) (es:Array MapEntry) (clock:Nat) (w:World),w.heap[b]?=some (.map es clock)→Calls P f #[.map (some b)] w fun e w'=>e=.returned (.map (some w.heap.size))∧w'=w.alloc (.map es clock)):SumOK P (smC f P):=by
 have key:∀ g s args st v st',smC f P g=some s→s args st=some (v,st')→g=f∧∃ b es clk,args=[.map b]∧st.h.get b=some (.map es clk)∧v=.map st.nx∧st'=⟨st.h.set st.nx (some (.map es clk)),st.nx+1,st.base,ins st.base b st.R,st.W⟩:=by
  intro g s args st v st' h1 h2
  unfold smC at h1
  cases hm:Nat.beq g f with
  | false=>rw [hm] at h1;cases h1
  | true =>
   rw [hm,cond_true,Option.some.injEq] at h1
   subst h1
   refine ⟨Nat.eq_of_beq_eq_true hm,?_⟩
   dsimp only at h2
   split at h2
   case h_2=>cases h2
   rename_i x
   split at h2
   case h_2=>cases h2
   rename_i b
   obtain ⟨es,clk,hg,h2⟩:=rdMK_some h2
   simp only [newK_eq,Option.some.injEq,Prod.mk.injEq] at h2
   exact ⟨b,es,clk,rfl,hg,h2.1.symm,h2.2.symm⟩
 refine ⟨fun g s args st v st' h1 h2=>?_,fun g s args st v st' h1 h2=>?_⟩
 ·obtain ⟨_,b,es,clk,_,hg,_,rfl⟩:=key g s args st v st' h1 h2
  refine ⟨Nat.le_succ _,rfl,ins_sub _ _ _,fun x hx=>?_⟩
  show KeepL (st.h.get x) ((st.h.set st.nx (some (.map es clk))).get x)
  rw [Tr.get_set,if_neg (by omega)]
  exact KeepL.refl _
 ·obtain ⟨rfl,b,es,clk,rfl,hg,rfl,rfl⟩:=key g s args st v st' h1 h2
  refine ⟨fun ρ D w us hu hs hD hf=>?_,hb⟩
  rw [RelL] at hu
  obtain ⟨u,r,rfl,h3,h4⟩:=hu
  rw [RelL] at h4
  subst h4
  rw [Rel] at h3
  obtain ⟨B,s0,hB,rfl⟩:=h3
  have hDb:D b:=hD _ List.mem_cons_self b (ins_has _ _ _)
  obtain ⟨b',s',ms,q1,q2,q3⟩:=hs.mapAt hDb hg
  rw [hB] at q1
  cases q1
  have f0:ρ st.nx=none:=hf _ List.mem_cons_self _ (Nat.le_refl _) (Nat.lt_succ_self _)
  have hle1:ρ.Le (ρ.put st.nx w.heap.size (0,0)):=Ren.put_le f0
  refine CallsIn.mono (callsIn_wide.2 (h B ms.toArray clk w q2)) ?_
  rintro e w' ⟨rfl,rfl⟩
  have ht:=Step.touch (R:=ins st.base b st.R) (W:=st.W) hs (ins_sub _ _ _) fun _ h=>h
  have hst2:=Step.new (st:=⟨st.h,st.nx,st.base,ins st.base b st.R,st.W⟩) (o:=.map es clk) (ob:=.map ms.toArray clk) (s:=(0,0)) (w':=w.alloc (.map ms.toArray clk)) ht.sim f0 ⟨ms,rfl,q3.mono hle1⟩ rfl rfl rfl rfl
  refine ⟨_,List.mem_cons_self,_,ρ.put st.nx w.heap.size (0,0),rfl,?_,ht.trans hst2⟩
  rw [Rel]
  exact ⟨w.heap.size,(0,0),Ren.put_at,rfl⟩
end
end Go.TX
