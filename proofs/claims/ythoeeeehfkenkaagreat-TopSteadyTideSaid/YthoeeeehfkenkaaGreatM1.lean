/-
  What is proved here: the rules of a small program logic over the walk's calculus (frames as lists of facts, memory as a list of disjoint pieces). Conditions: none; each rule states its own.
-/
import Derived.RangeFuncLeaves
import Derived.RangeFuncIn
import Derived.OrdersIn
import Derived.TacticsIn
import Derived.WalkKit
import Derived.Laws.StructEq
import Derived.Laws.Small
import Derived.Laws.Tables
import Derived.Laws.MakeOwn
import Derived.Laws.Slices
import Derived.IntWalk
set_option linter.unusedVariables false
set_option linter.unusedSimpArgs false
namespace Go.TH
open Go
abbrev Env:=List (Nat × Value)
def lk:Env→Nat→Option Value
 | [],_=>none
 |(k,v)::r,t=>bif Nat.beq k t then some v else lk r t
def ev (E:Env):Operand→Option Value
 | .tmp t=>lk E t
 | .const v=>some v
 | .global g=>some (.pointer (some ⟨g,0,none⟩))
 | .func f=>some (.func (.func f) #[] #[])
structure Fr (N:Nat) (E:Env) (a:Act):Prop where
 size:a.tmps.size=N
 get:∀ t v,lk E t=some v→a.tmps[t]?=some v
theorem Fr.eval {N:Nat} {E:Env} {a:Act} (h:Fr N E a) {x:Operand} {v:Value} (he:ev E x=some v):a.eval x=v:=by
 cases x with
 | tmp t =>
  have h1:=h.get t v he
  simp only [Act.eval]
  simp [Array.getD_eq_getD_getElem?,h1]
 | const u=>simpa [ev,Act.eval] using he
 | global g=>simpa [ev,Act.eval] using he
 | func f=>simpa [ev,Act.eval] using he
theorem Fr.put {N:Nat} {E:Env} {a:Act} (h:Fr N E a) {d:Nat} {v:Value} (hd:Nat.blt d N=true):Fr N ((d,v)::E) (a.put (some d) v):=by
 have hd':d<N:=by simpa [Nat.blt_eq] using hd
 refine ⟨by simp [Act.put,h.size],fun t u hu=>?_⟩
 simp only [lk] at hu
 by_cases e:d=t
 ·subst e
  simp at hu
  subst hu
  simp [Act.put,h.size,hd']
 ·have:Nat.beq d t=false:=by
   cases hb:Nat.beq d t with
   | false=>rfl
   | true=>exact absurd (Nat.eq_of_beq_eq_true hb) e
  rw [this] at hu
  simp at hu
  have:=h.get t u hu
  simp [Act.put,Array.getElem?_setIfInBounds_ne e,this]
theorem Fr.weaken {N:Nat} {E E':Env} {a:Act} (h:Fr N E a) (hE:∀ t v,lk E' t=some v→lk E t=some v):Fr N E' a:=⟨h.size,fun t v hv=>h.get t v (hE t v hv)⟩
def EnvIn (E:Env):Env→Prop
 | []=>True
 |(k,v)::r=>lk E k=some v∧EnvIn E r
theorem EnvIn.lk {E:Env}:∀ {E':Env},EnvIn E E'→∀ t v,lk E' t=some v→lk E t=some v
 | [],_,_,_,h=>by simp [TH.lk] at h
 |(k,u)::r,hi,t,v,h=>by
  simp only [TH.lk] at h
  cases hb:Nat.beq k t with
  | true =>
   rw [hb] at h
   simp at h
   have:=Nat.eq_of_beq_eq_true hb
   subst this;subst h
   exact hi.1
  | false =>
   rw [hb] at h
   simp at h
   exact EnvIn.lk hi.2 t v h
abbrev Hp:=Nat→Option Obj
abbrev HP:=Hp→Prop
def Split (h h1 h2:Hp):Prop:=∀ k,(h1 k=none∧h k=h2 k)∨(h2 k=none∧h k=h1 k)
def sat:List HP→HP
 | [],_=>True
 | A::H,h=>∃ h1 h2,Split h h1 h2∧A h1∧sat H h2
def pt (b:Nat) (o:Obj):HP:=fun h=>∀ k,h k=if k=b then some o else none
theorem Split.comm {h h1 h2:Hp} (s:Split h h1 h2):Split h h2 h1:=fun k=>(s k).symm
theorem Split.swap {h a r b c:Hp} (s:Split h a r) (t:Split r b c):∃ r',Split h b r'∧Split r' a c:=by
 refine ⟨fun k=>(a k).orElse fun _=>c k,fun k=>?_,fun k=>?_⟩
 ·have h1:=s k;have h2:=t k
  cases ha:a k <;> cases hb:b k <;> cases hc:c k <;> simp_all
 ·have h1:=s k;have h2:=t k
  cases ha:a k <;> cases hb:b k <;> cases hc:c k <;> simp_all
inductive Pick:HP→List HP→List HP→Prop
 | head {A:HP} {H:List HP}:Pick A (A::H) H
 | tail {A B:HP} {H H':List HP}:Pick A H H'→Pick A (B::H) (B::H')
theorem Pick.sat {A:HP} {H H':List HP} (p:Pick A H H'):∀ {h:Hp},sat H h→sat (A::H') h:=by
 induction p with
 | head=>exact fun h=>h
 | tail p ih =>
  intro h hs
  obtain ⟨hb,r,s,hB,hr⟩:=hs
  obtain ⟨ha,c,t,hA,hc⟩:=ih hr
  obtain ⟨r',s',t'⟩:=s.swap t
  exact ⟨ha,r',s',hA,hb,c,t',hB,hc⟩
theorem Pick.back {A:HP} {H H':List HP} (p:Pick A H H'):∀ {h:Hp},TH.sat (A::H') h→TH.sat H h:=by
 induction p with
 | head=>exact fun h=>h
 | tail p ih =>
  intro h hs
  obtain ⟨ha,r,s,hA,hb,c,t,hB,hc⟩:=hs
  obtain ⟨r',s',t'⟩:=s.swap t
  exact ⟨hb,r',s',hB,ih ⟨ha,c,t',hA,hc⟩⟩
theorem Pick.app {A:HP} {H H':List HP} (p:Pick A H H'):∀ (L:List HP),Pick A (L++H) (L++H')
 | []=>p
 | _::L=>.tail (p.app L)
theorem sat_mono {A A':HP} {H:List HP} {h:Hp} (hA:∀ h,A h→A' h) (hs:sat (A::H) h):sat (A'::H) h :=
 let ⟨h1,h2,s,a,r⟩:=hs;⟨h1,h2,s,hA _ a,r⟩
theorem sat_sub {h:Hp}:∀ {h':Hp} (H:List HP),(∀ k o,h' k=some o→h k=some o)→sat H h'→sat H h:=by
 intro h' H hs
 induction H generalizing h h' with
 | nil=>exact fun _=>trivial
 | cons A H ih =>
  rintro ⟨h1,h2,s,hA,hr⟩
  refine ⟨h1,fun k=>if h1 k=none then h k else none,fun k=>?_,hA,ih ?_ hr⟩
  ·rcases s k with ⟨a,b⟩ | ⟨a,b⟩
   ·left;simp [a]
   ·by_cases hn:h1 k=none
    ·left;simp [hn]
    ·right
     simp only [hn,if_false,true_and]
     obtain ⟨o,ho⟩:=Option.ne_none_iff_exists'.1 hn
     rw [ho];exact hs k o (by rw [b,ho])
  ·intro k o ho
   rcases s k with ⟨a,b⟩ | ⟨a,b⟩
   ·simp only [a,if_true];exact hs k o (by rw [b,ho])
   ·rw [a] at ho;cases ho
inductive Sub:List HP→List HP→Prop
 | nil {H:List HP}:Sub H []
 | cons {A:HP} {H H' L:List HP}:Pick A H H'→Sub H' L→Sub H (A::L)
theorem Sub.sat {H L:List HP} (s:Sub H L):∀ {h:Hp},TH.sat H h→TH.sat L h:=by
 induction s with
 | nil=>exact fun _=>trivial
 | cons p _ ih =>
  intro h hs
  obtain ⟨h1,h2,sp,a,r⟩:=p.sat hs
  exact ⟨h1,h2,sp,a,ih r⟩
theorem Sub.refl:∀ (H:List HP),Sub H H
 | []=>.nil
 | _::H=>.cons .head (Sub.refl H)
theorem Sub.tail {A:HP} {H L:List HP} (s:Sub H L):Sub (A::H) L:=by
 induction s with
 | nil=>exact .nil
 | cons p _ ih=>exact .cons (.tail p) ih
theorem Sub.drop (A:HP) (H:List HP):Sub (A::H) H:=(Sub.refl H).tail
theorem Sub.app {H L:List HP} (s:Sub H L):∀ (K:List HP),Sub (K++H) (K++L)
 | []=>s
 | _::K=>.cons .head (s.app K)
theorem sat_app {H1:List HP}:∀ {H2:List HP} {h:Hp},sat (H1++H2) h→∃ h1 h2,Split h h1 h2∧sat H1 h1∧sat H2 h2:=by
 induction H1 with
 | nil=>exact fun {H2 h} hs=>⟨fun _=>none,h,fun k=>.inl ⟨rfl,rfl⟩,trivial,hs⟩
 | cons A H1 ih =>
  intro H2 h hs
  obtain ⟨ha,r,s,hA,hr⟩:=hs
  obtain ⟨h1,h2,t,x,y⟩:=ih hr
  refine ⟨fun k=>(ha k).orElse fun _=>h1 k,h2,fun k=>?_,⟨ha,h1,fun k=>?_,hA,x⟩,y⟩
  ·have e1:=s k;have e2:=t k
   cases p:ha k <;> cases q:h1 k <;> cases u:h2 k <;> simp_all
  ·have e1:=s k;have e2:=t k
   cases p:ha k <;> cases q:h1 k <;> cases u:h2 k <;> simp_all
theorem sat_join {H1:List HP}:∀ {H2:List HP} {h h1 h2:Hp},Split h h1 h2→sat H1 h1→sat H2 h2→sat (H1++H2) h:=by
 induction H1 with
 | nil =>
  intro H2 h h1 h2 s _ y
  refine sat_sub H2 (fun k o ho=>?_) y
  rcases s k with ⟨a,b⟩ | ⟨a,b⟩
  ·rw [b];exact ho
  ·rw [a] at ho;cases ho
 | cons A H1 ih =>
  rintro H2 h h1 h2 s ⟨ha,r,t,hA,hr⟩ y
  have sc:=s.comm
  obtain ⟨r',s',t'⟩:=sc.swap t
  exact ⟨ha,r',s',hA,ih t'.comm hr y⟩
theorem Pick.mem {A:HP}:∀ {H1 H2:List HP},Pick A (H1++A::H2) (H1++H2)
 | [],_=>.head
 | _::H1,H2=>.tail (Pick.mem (H1:=H1) (H2:=H2))
theorem Sub.rot:∀ (L Hp Hr:List HP),Sub (L++(Hp++Hr)) (Hp++(L++Hr))
 | L,[],Hr=>Sub.refl _
 | L,A::Hp,Hr=>by
  show Sub (L++A::(Hp++Hr)) (A::(Hp++(L++Hr)))
  exact .cons Pick.mem (Sub.rot L Hp Hr)
theorem Sub.rot':∀ (L Hq Hr:List HP),Sub (Hq++(L++Hr)) (L++(Hq++Hr)):=fun L Hq Hr=>Sub.rot Hq L Hr
theorem Pick.sub {A:HP} {H H' H0:List HP} (p:Pick A H H') (s:Sub H0 H):∃ H0',Pick A H0 H0'∧Sub H0' H':=by
 induction p generalizing H0 with
 | head=>cases s with | cons p s=>exact ⟨_,p,s⟩
 | tail p ih =>
  cases s with
  | cons q s =>
   obtain ⟨H1,p1,s1⟩:=ih s
   obtain ⟨H2,p2,q2⟩:=Pick.swap q p1
   exact ⟨H2,p2,.cons q2 s1⟩
where
 Pick.swap {A B:HP} {H0 H1 H2:List HP} (q:Pick B H0 H1) (p:Pick A H1 H2):∃ H3,Pick A H0 H3∧Pick B H3 H2:=by
  induction q generalizing H2 with
  | head=>exact ⟨_,.tail p,.head⟩
  | tail q ih =>
   cases p with
   | head=>exact ⟨_,.head,q⟩
   | tail p =>
    obtain ⟨H3,a,b⟩:=ih p
    exact ⟨_,.tail a,.tail b⟩
theorem Sub.trans {H1 H2 H3:List HP} (s:Sub H1 H2) (t:Sub H2 H3):Sub H1 H3:=by
 induction t generalizing H1 with
 | nil=>exact .nil
 | cons p _ ih =>
  obtain ⟨H',p',s'⟩:=p.sub s
  exact .cons p' (ih s')
def own (w0:World) (M:List Nat) (w:World):Hp:=fun k=>if k<w0.heap.size∧k ∉ M then none else w.heap[k]?
structure Inv (w0:World) (M:List Nat) (H:List HP) (w:World):Prop where
 os:w.os=w0.os
 tape:w.tape=w0.tape
 output:w.output=w0.output
 size:w0.heap.size≤w.heap.size
 keep:∀ k,k<w0.heap.size→k ∉ M→w.heap[k]?=w0.heap[k]?
 mine:sat H (own w0 M w)
theorem Inv.sub {w0:World} {M:List Nat} {H H':List HP} {w:World} (h:Inv w0 M H w) (s:Sub H H'):Inv w0 M H' w :=
 ⟨h.os,h.tape,h.output,h.size,h.keep,s.sat h.mine⟩
theorem Inv.pick {w0:World} {M:List Nat} {A:HP} {H H':List HP} {w:World} (h:Inv w0 M H w) (p:Pick A H H'):Inv w0 M (A::H') w :=
 ⟨h.os,h.tape,h.output,h.size,h.keep,p.sat h.mine⟩
theorem Inv.look {w0:World} {M:List Nat} {b:Nat} {o:Obj} {H H':List HP} {w:World} (h:Inv w0 M H w) (p:Pick (pt b o) H H'):w.heap[b]?=some o∧(w0.heap.size≤b∨b∈M):=by
 obtain ⟨h1,h2,s,a,_⟩:=(h.pick p).mine
 have e:TH.own w0 M w b=some o:=by
  have e1:h1 b=some o:=by rw [a b];simp
  rcases s b with ⟨x,_⟩ | ⟨_,y⟩
  ·rw [e1] at x;cases x
  ·rw [y,e1]
 unfold TH.own at e
 split at e
 ·cases e
 ·rename_i hn
  refine ⟨e,?_⟩
  by_cases hb:w0.heap.size≤b
  ·exact .inl hb
  ·exact .inr (Decidable.byContradiction fun hm=>hn ⟨by omega,hm⟩)
theorem Inv.alloc {w0:World} {M:List Nat} {H:List HP} {w:World} (h:Inv w0 M H w) (o:Obj):Inv w0 M (pt w.heap.size o::H) (w.alloc o):=by
 refine ⟨h.os,h.tape,h.output,by simp;have:=h.size;omega,fun k hk hm=>?_,?_⟩
 ·rw [← h.keep k hk hm]
  show (w.heap.push o)[k]?=_
  rw [Array.getElem?_push,if_neg (by have:=h.size;omega)]
 ·refine ⟨fun k=>if k=w.heap.size then some o else none,own w0 M w,fun k=>?_,fun k=>rfl,h.mine⟩
  show (_∧own w0 M (w.alloc o) k=_)∨(_∧own w0 M (w.alloc o) k=_)
  by_cases hk:k=w.heap.size
  ·subst hk
   right
   have hs:=h.size
   constructor
   ·unfold TH.own;split
    ·rfl
    ·simp
   ·have:¬ (w.heap.size<w0.heap.size∧w.heap.size ∉ M):=fun x=>by omega
    simp only [TH.own,this,if_false]
    show (w.heap.push o)[w.heap.size]?=_
    simp
  ·left
   refine ⟨by simp [hk],?_⟩
   have e:(w.alloc o).heap[k]?=w.heap[k]?:=by
    show (w.heap.push o)[k]?=_
    rw [Array.getElem?_push,if_neg hk]
   simp only [TH.own,e]
theorem Inv.set {w0:World} {M:List Nat} {b:Nat} {o o':Obj} {H H':List HP} {w w':World} (h:Inv w0 M H w) (p:Pick (pt b o) H H')
 (hos:w'.os=w.os) (ht:w'.tape=w.tape) (hout:w'.output=w.output) (hs:w'.heap.size=w.heap.size)
 (hb:w'.heap[b]?=some o') (hk:∀ k,k≠b→w'.heap[k]?=w.heap[k]?):Inv w0 M (pt b o'::H') w':=by
 have hl:=h.look p
 refine ⟨hos.trans h.os,ht.trans h.tape,hout.trans h.output,by rw [hs];exact h.size,fun k hk' hm=>?_,?_⟩
 ·have:k≠b:=fun e=>by subst e;rcases hl.2 with x | x;omega;exact hm x
  rw [hk k this];exact h.keep k hk' hm
 ·obtain ⟨h1,h2,s,a,r⟩:=(h.pick p).mine
  refine ⟨fun k=>if k=b then some o' else none,h2,fun k=>?_,fun k=>rfl,r⟩
  show (_∧own w0 M w' k=_)∨(_∧own w0 M w' k=_)
  by_cases e:k=b
  ·subst e
   right
   have e1:h1 k=some o:=by rw [a k];simp
   have e2:h2 k=none:=by
    rcases s k with ⟨x,_⟩ | ⟨y,_⟩
    ·rw [e1] at x;cases x
    ·exact y
   refine ⟨e2,?_⟩
   have:¬ (k<w0.heap.size∧k ∉ M):=fun ⟨x,y⟩=>by rcases hl.2 with z | z;omega;exact y z
   simp only [TH.own,this,if_false,hb,if_true]
  ·left
   refine ⟨by simp [e],?_⟩
   have e1:h1 k=none:=by rw [a k];simp [e]
   have e3:own w0 M w' k=own w0 M w k:=by simp only [TH.own,hk k e]
   rw [e3]
   rcases s k with ⟨_,y⟩ | ⟨y,z⟩
   ·exact y
   ·rw [z,e1,y]
theorem Inv.drawn {w0:World} {M:List Nat} {H:List HP} {w:World} (h:Inv w0 M H w):Inv w0 M H { w with drawn:=w.drawn+1 } :=
 ⟨h.os,h.tape,h.output,h.size,h.keep,h.mine⟩
def isAggB (P:Program) (T:TypeId):Option Bool:=(P.underlying T).map fun | .struct _ | .array _ _=>true | _=>false
def szv (P:Program) (T:TypeId):Option Nat:=(P.info? T).map (·.size)
def zv (P:Program) (T:TypeId):Option Value:=(P.info? T).bind (·.zero)
def byv (P:Program) (T:TypeId):Option Nat:=(P.info? T).map (·.bytes)
structure CT (P:Program) (T:TypeId):Prop where
 one:isAggB P T=some false
 size:szv P T=some 1
structure AT (P:Program) (T:TypeId) (n:Nat):Prop where
 agg:isAggB P T=some true
 size:szv P T=some n
structure SlT (P:Program) (T e sz by':Nat):Prop where
 u:P.underlying T=some (.slice e)
 size:szv P e=some sz
 bytes:byv P e=some by'
structure ArT (P:Program) (T len e sz:Nat):Prop where
 u:P.underlying T=some (.array len e)
 size:szv P e=some sz
def fieldOf (P:Program) (T f:Nat):Option (Nat × Nat):=match P.underlying T with | some (.struct fs)=>(fs[f]?).map fun x=>(x.offset,x.type) | _=>none
structure FT (P:Program) (T f fo ft:Nat):Prop where
 at_:fieldOf P T f=some (fo,ft)
 size:(szv P ft).map (Nat.beq · 0)=some false
structure ZT (P:Program) (T:Nat) (z:Value):Prop where
 zero:zv P T=some z
structure IT (P:Program) (T:Nat) (k:IntKind):Prop where
 u:P.underlying T=some (.int k)
inductive TK where
 | none
 | int (k:IntKind)
 | one
 | sl (e sz by':Nat)
 | st (fs:List (Nat × Nat))
 | ar (len e sz:Nat)
structure TI where
 kind:TK
 n:Nat
 z:Option Value
def veq:Value→Value→Bool
 | .int k n,.int k' n'=>k==k'&&n==n'
 | .bool b,.bool b'=>b==b'
 | .slice none 0 0,.slice none 0 0=>true
 | .pointer none,.pointer none=>true
 | .map none,.map none=>true
 | .nilFunc,.nilFunc=>true
 | .nilIface,.nilIface=>true
 | _,_=>false
theorem veq_eq:∀ {u v:Value},veq u v=true→u=v:=by
 intro u v h
 unfold veq at h
 split at h <;> simp_all
def veqs:List Value→List Value→Bool
 | [],[]=>true
 | u::r,v::s=>veq u v&&veqs r s
 | _,_=>false
theorem veqs_eq:∀ {us vs:List Value},veqs us vs=true→us=vs
 | [],[],_=>rfl
 | [],_::_,h=>by simp [veqs] at h
 | _::_,[],h=>by simp [veqs] at h
 | u::r,v::s,h=>by simp only [veqs,Bool.and_eq_true] at h;rw [veq_eq h.1,veqs_eq h.2]
def zeq:Value→Value→Bool
 | .agg us,.agg vs=>veqs us.toList vs.toList
 | u,v=>veq u v
theorem zeq_eq {u v:Value} (h:zeq u v=true):u=v:=by
 unfold zeq at h
 split at h
 ·have:=veqs_eq h
  rename_i us vs
  exact congrArg Value.agg (Array.toList_inj.1 this)
 ·exact veq_eq h
def oeq (o:Option Nat) (n:Nat):Bool:=match o with | some m=>Nat.beq m n | none=>false
theorem oeq_eq {o:Option Nat} {n:Nat} (h:oeq o n=true):o=some n:=by
 cases o with
 | none=>simp [oeq] at h
 | some m=>exact congrArg some (Nat.eq_of_beq_eq_true h)
def kindChk (P:Program) (T:TypeId):TK→Bool
 | .none=>true
 | .int k=>match P.underlying T with | some (.int k')=>decide (k'=k) | _=>false
 | .one=>match isAggB P T with | some b=>!b | none=>false
 | .sl e sz by'=>match P.underlying T with | some (.slice e')=>Nat.beq e' e&&oeq (szv P e) sz&&oeq (byv P e) by' | _=>false
 | .st fs=>match P.underlying T with | some (.struct fs')=>decide (fs'.toList.map (fun f=>(f.offset,f.type))=fs)&&fs.all (fun f=>(szv P f.2).map (Nat.beq · 0)==some false) | _=>false
 | .ar len e sz=>match P.underlying T with | some (.array len' e')=>Nat.beq len' len&&Nat.beq e' e&&oeq (szv P e) sz | _=>false
def tiChk (P:Program) (T:TypeId) (ti:TI):Bool :=
 match ti.kind with
 | .none=>true
 | k=>kindChk P T k&&oeq (szv P T) ti.n&&(match ti.z with | some z=>(match zv P T with | some u=>zeq u z | none=>false) | none=>true)
structure TTab (P:Program) where
 tab:List TI
 ok:(tab.zipIdx.all fun (ti,T)=>tiChk P T ti)=true
variable {P:Program}
def TTab.get (t:TTab P) (T:Nat):TI:=t.tab.getD T ⟨.none,0,none⟩
theorem TTab.chk (t:TTab P) (T:Nat):tiChk P T (t.get T)=true:=by
 unfold TTab.get
 cases h:t.tab[T]? with
 | none=>simp [List.getD,h,tiChk]
 | some ti =>
  have:=List.all_eq_true.1 t.ok (ti,T) (by rw [List.mem_zipIdx_iff_getElem?];simpa using h)
  simpa [List.getD,h] using this
def TTab.one? (t:TTab P) (T:Nat):Bool:=match (t.get T).kind with | .int _ | .one | .sl ..=>Nat.beq (t.get T).n 1 | _=>false
def TTab.ag? (t:TTab P) (T:Nat):Option Nat:=match (t.get T).kind with | .st _ | .ar ..=>some (t.get T).n | _=>none
def TTab.sl? (t:TTab P) (T:Nat):Option (Nat × Nat × Nat):=match (t.get T).kind with | .sl e sz by'=>some (e,sz,by') | _=>none
def TTab.ar? (t:TTab P) (T:Nat):Option (Nat × Nat × Nat):=match (t.get T).kind with | .ar len e sz=>some (len,e,sz) | _=>none
def TTab.fd? (t:TTab P) (T f:Nat):Option (Nat × Nat):=match (t.get T).kind with | .st fs=>fs[f]? | _=>none
def TTab.z? (t:TTab P) (T:Nat):Option Value:=match (t.get T).kind with | .none=>none | _=>(t.get T).z
def TTab.it? (t:TTab P) (T:Nat):Option IntKind:=match (t.get T).kind with | .int k=>some k | _=>none
def TTab.some? (t:TTab P) (T:Nat):Bool:=match (t.get T).kind with | .none=>false | _=>true
theorem tiChk_kind {T:Nat} {ti:TI} (h:tiChk P T ti=true):kindChk P T ti.kind=true:=by
 unfold tiChk at h
 cases hk:ti.kind <;> simp_all [kindChk]
theorem tiChk_size {T:Nat} {ti:TI} (h:tiChk P T ti=true) (hn:ti.kind≠.none):szv P T=some ti.n:=by
 unfold tiChk at h
 cases hk:ti.kind <;> simp_all <;> exact oeq_eq h.1.2
theorem CT.of {t:TTab P} {T:Nat} (h:t.one? T=true):CT P T:=by
 have hc:=t.chk T
 have hk:=tiChk_kind hc
 unfold TTab.one? at h
 cases hkd:(t.get T).kind <;> simp only [hkd] at h <;> try (cases h;done)
 all_goals
  have hs:=tiChk_size hc (by rw [hkd];simp)
  rw [Nat.eq_of_beq_eq_true h] at hs
  refine ⟨?_,hs⟩
  rw [hkd] at hk
 ·simp only [kindChk] at hk
  unfold isAggB
  split at hk
  ·rename_i hu;rw [hu];rfl
  ·cases hk
 ·simp only [kindChk] at hk
  split at hk
  ·rename_i b hu;rw [hu];simpa using hk
  ·cases hk
 ·simp only [kindChk] at hk
  unfold isAggB
  split at hk
  ·rename_i hu;rw [hu];rfl
  ·cases hk
theorem AT.of {t:TTab P} {T n:Nat} (h:t.ag? T=some n):AT P T n:=by
 have hc:=t.chk T
 have hk:=tiChk_kind hc
 unfold TTab.ag? at h
 cases hkd:(t.get T).kind <;> simp only [hkd] at h <;> try (cases h;done)
 all_goals
  have hs:=tiChk_size hc (by rw [hkd];simp)
  cases h
  refine ⟨?_,hs⟩
  rw [hkd] at hk
  simp only [kindChk] at hk
  unfold isAggB
  split at hk
  ·rename_i hu;rw [hu];rfl
  ·cases hk
theorem SlT.of {t:TTab P} {T e sz by':Nat} (h:t.sl? T=some (e,sz,by')):SlT P T e sz by':=by
 have hk:=tiChk_kind (t.chk T)
 unfold TTab.sl? at h
 cases hkd:(t.get T).kind <;> simp only [hkd] at h <;> try (cases h;done)
 cases h
 rw [hkd] at hk
 simp only [kindChk] at hk
 split at hk
 ·rename_i e' hu
  simp only [Bool.and_eq_true] at hk
  rw [Nat.eq_of_beq_eq_true hk.1.1] at hu
  exact ⟨hu,oeq_eq hk.1.2,oeq_eq hk.2⟩
 ·cases hk
theorem ArT.of {t:TTab P} {T len e sz:Nat} (h:t.ar? T=some (len,e,sz)):ArT P T len e sz:=by
 have hk:=tiChk_kind (t.chk T)
 unfold TTab.ar? at h
 cases hkd:(t.get T).kind <;> simp only [hkd] at h <;> try (cases h;done)
 cases h
 rw [hkd] at hk
 simp only [kindChk] at hk
 split at hk
 ·rename_i e' l' hu
  simp only [Bool.and_eq_true] at hk
  rw [Nat.eq_of_beq_eq_true hk.1.1,Nat.eq_of_beq_eq_true hk.1.2] at hu
  exact ⟨hu,oeq_eq hk.2⟩
 ·cases hk
theorem FT.of {t:TTab P} {T f fo ft:Nat} (h:t.fd? T f=some (fo,ft)):FT P T f fo ft:=by
 have hk:=tiChk_kind (t.chk T)
 unfold TTab.fd? at h
 cases hkd:(t.get T).kind <;> simp only [hkd] at h <;> try (cases h;done)
 rw [hkd] at hk
 simp only [kindChk] at hk
 split at hk
 ·rename_i fs' hu
  simp only [Bool.and_eq_true,decide_eq_true_eq] at hk
  obtain ⟨hk1,hk2⟩:=hk
  refine ⟨?_,?_⟩
  ·unfold fieldOf
   rw [hu]
   rw [← hk1] at h
   simp only [List.getElem?_map] at h
   cases hx:fs'.toList[f]? with
   | none=>simp [hx] at h
   | some x =>
    simp [hx] at h
    have:fs'[f]?=some x:=by simpa using hx
    simp [this,h]
  ·have:=List.all_eq_true.1 hk2 (fo,ft) (List.mem_of_getElem? h)
   simpa using this
 ·cases hk
theorem ZT.of {t:TTab P} {T:Nat} {z:Value} (h:t.z? T=some z):ZT P T z:=by
 have hc:=t.chk T
 unfold TTab.z? at h
 have hz:(t.get T).z=some z:=by cases hkd:(t.get T).kind <;> simp_all
 have hn:(t.get T).kind≠.none:=by intro e;simp [e] at h
 refine ⟨?_⟩
 unfold tiChk at hc
 cases hkd:(t.get T).kind <;> simp only [hkd] at hc hn <;> try (exact absurd rfl hn)
 all_goals
  simp only [Bool.and_eq_true,hz] at hc
  have h2:=hc.2
  split at h2
  ·rename_i u hu;rw [hu,zeq_eq h2]
  ·cases h2
theorem IT.of {t:TTab P} {T:Nat} {k:IntKind} (h:t.it? T=some k):IT P T k:=by
 have hk:=tiChk_kind (t.chk T)
 unfold TTab.it? at h
 cases hkd:(t.get T).kind <;> simp only [hkd] at h <;> try (cases h;done)
 cases h
 rw [hkd] at hk
 simp only [kindChk] at hk
 split at hk
 ·rename_i k' hu;simp at hk;subst hk;exact ⟨hu⟩
 ·cases hk
theorem some?_of {t:TTab P} {T:Nat} (h:t.some? T=true):(P.underlying T).isSome=true:=by
 have hk:=tiChk_kind (t.chk T)
 unfold TTab.some? at h
 cases hkd:(t.get T).kind <;> simp only [hkd] at h hk <;> try (cases h;done)
 all_goals
  simp only [kindChk,isAggB] at hk
  cases hu:P.underlying T <;> simp_all
structure Cx (P:Program) where
 ro:Option Nat
 N:Nat
 w0:World
 M:List Nat
 /-- memory below B is not written -/
 B:Nat
 hB:B≤w0.heap.size
 hM:∀ b∈M,B≤b
 mixed:P.follows .mixedOrders=true
 tt:TTab P
def Cx.F {P:Program} (C:Cx P):Fence:={ Fence.wide with round:=C.ro }
def mark (r:Nat):Deferred:={ target:=.collected r,args:=#[] }
def ptd (r:Nat):HP:=pt r (.deferred (some []))
structure St {P:Program} (C:Cx P) (L:List HP) (ds:List Nat) (E:Env) (H:List HP) (a:Act) (w:World):Prop where
 defers:a.defers=ds.map mark
 fr:Fr C.N E a
 inv:Inv C.w0 C.M ((ds.map ptd++L)++H) w
abbrev Post:=Exit→Env→List HP→Prop
def W {P:Program} (C:Cx P) (c:Code) (Q:Post) (E:Env) (H:List HP):Prop :=
 ∀ L ds a w,St C L ds E H a w→c.wpIn C.F 0 P (fun e a' w'=>∃ ds' E' H',Q e E' H'∧St C L ds' E' H' a' w') a w
section
variable {P:Program} {C:Cx P} {Q:Post} {E:Env} {H:List HP}
theorem W.mono {c:Code} {Q':Post} (h:W C c Q E H) (hq:∀ e E H,Q e E H→Q' e E H):W C c Q' E H :=
 fun L ds a w hs=>wpIn_mono (h L ds a w hs) fun e _ _ ⟨ds',E',H',q,s⟩=>⟨ds',E',H',hq e E' H' q,s⟩
theorem W.weaken {c:Code} {E':Env} {H':List HP} (hE:EnvIn E E') (hH:Sub H H') (h:W C c Q E' H'):W C c Q E H :=
 fun L ds a w hs=>h L ds a w ⟨hs.defers,hs.fr.weaken hE.lk,hs.inv.sub (hH.app _)⟩
theorem W.skip (h:Q .normal E H):W C .skip Q E H:=fun _ ds _ _ hs=>wpIn_skip ⟨ds,E,H,h,hs⟩
theorem W.exit {id:Nat} (h:Q (.exit id) E H):W C (.exit id) Q E H:=fun _ ds _ _ hs=>wpIn_exit ⟨ds,E,H,h,hs⟩
theorem W.ret (h:Q .ret E H):W C .ret Q E H:=fun _ ds _ _ hs=>wpIn_ret ⟨ds,E,H,h,hs⟩
@[reducible] def thn (K:Env→List HP→Prop) (Q:Post):Post
 | .normal=>K
 | e=>Q e
theorem W.seq {x y:Code} (h:W C x (thn (fun E H=>W C y Q E H) Q) E H):W C (.seq x y) Q E H:=by
 intro L ds a w hs
 refine wpIn_seq (wpIn_mono (h L ds a w hs) ?_)
 rintro e a' w' ⟨ds',E',H',q,s⟩
 cases e with
 | normal=>exact q L ds' a' w' s
 | exit id=>exact ⟨ds',E',H',q,s⟩
 | goto l=>exact ⟨ds',E',H',q,s⟩
 | ret=>exact ⟨ds',E',H',q,s⟩
 | panic c=>exact ⟨ds',E',H',q,s⟩
 | outgrown=>exact ⟨ds',E',H',q,s⟩
@[reducible] def blk (id:Nat) (Q:Post):Post
 | .exit id'=>if id'=id then Q .normal else Q (.exit id')
 | e=>Q e
theorem W.block {id:Nat} {c:Code} (h:W C c (blk id Q) E H):W C (.block id c) Q E H:=by
 intro L ds a w hs
 refine wpIn_block (wpIn_mono (h L ds a w hs) ?_)
 rintro e a' w' ⟨ds',E',H',q,s⟩
 cases e with
 | exit id' =>
  simp only [blk] at q
  simp only [Exit.inBlock]
  split
  ·rename_i e;rw [if_pos e] at q;exact ⟨ds',E',H',q,s⟩
  ·rename_i e;rw [if_neg e] at q;exact ⟨ds',E',H',q,s⟩
 | normal=>exact ⟨ds',E',H',q,s⟩
 | goto l=>exact ⟨ds',E',H',q,s⟩
 | ret=>exact ⟨ds',E',H',q,s⟩
 | panic c=>exact ⟨ds',E',H',q,s⟩
 | outgrown=>exact ⟨ds',E',H',q,s⟩
theorem blk_same {id:Nat} (h:Q .normal E H):blk id Q (.exit id) E H:=by simp only [blk,if_true];exact h
theorem blk_other {id id':Nat} (hn:Nat.beq id' id=false) (h:Q (.exit id') E H):blk id Q (.exit id') E H:=by
 have:¬ id'=id:=fun e=>by subst e;simp at hn
 simp only [blk,this,if_false];exact h
theorem W.cond_t {c:Operand} {x y:Code} (hc:ev E c=some (.bool true)) (h:W C x Q E H):W C (.cond c x y) Q E H :=
 fun L ds a w hs=>wpIn_cond_true (hs.fr.eval hc) (h L ds a w hs)
theorem W.cond_f {c:Operand} {x y:Code} (hc:ev E c=some (.bool false)) (h:W C y Q E H):W C (.cond c x y) Q E H :=
 fun L ds a w hs=>wpIn_cond_false (hs.fr.eval hc) (h L ds a w hs)
theorem W.cond {c:Operand} {x y:Code} {t:Bool} (hc:ev E c=some (.bool t)) (ht:t=true→W C x Q E H) (hf:t=false→W C y Q E H):W C (.cond c x y) Q E H :=
 fun L ds a w hs=>wpIn_cond_split (hs.fr.eval hc) (fun e=>ht e L ds a w hs) (fun e=>hf e L ds a w hs)
theorem W.loop {X:Type} {c:Code} (p:X→Prop) (e:X→Env) (m:X→List HP) (μ:X→Nat) (x0:X) (h0:p x0) (hE:EnvIn E (e x0)) (hH:Sub H (m x0))
 (round:∀ x,p x→W C c (thn (fun E' H'=>∃ x',p x'∧μ x'<μ x∧EnvIn E' (e x')∧Sub H' (m x')) Q) (e x) (m x)):W C (.loop c) Q E H:=by
 intro L ds a w hs b k cs hro hb hr
 have key:∀ j x,μ x=j→p x→∀ ds a w,St C L ds (e x) (m x) a w →
  ∃ e' a' w',(∃ ds' E' H',Q e' E' H'∧St C L ds' E' H' a' w')∧ArrivesIn (Machine.fenced P C.F) P (lone (b.atR a (.code c::.inLoop c::k)) cs w) b k cs e' a' w':=by
  intro j
  induction j using Nat.strongRecOn with
  | _ j ih =>
   intro x hn hp ds a w hs
   obtain ⟨e',a₁,w₁,⟨ds₁,E₁,H₁,hq,hs₁⟩,harr⟩:=round x hp L ds a w hs b (.inLoop c::k) cs hro hb hr
   cases e' with
   | normal =>
    obtain ⟨x',hp',hlt,hE',hH'⟩:=hq
    obtain ⟨e₂,a₂,w₂,hq₂,harr₂⟩:=ih (μ x') (hn▸hlt) x' rfl hp' ds₁ a₁ w₁ ⟨hs₁.defers,hs₁.fr.weaken hE'.lk,hs₁.inv.sub (hH'.app _)⟩
    exact ⟨e₂,a₂,w₂,hq₂,.of_steps (StepsIn.trans harr (.one (fenced_calm hb hr rfl) stepR_inLoop)) harr₂⟩
   | exit id=>exact ⟨_,a₁,w₁,⟨ds₁,E₁,H₁,hq,hs₁⟩,.pass (x:=.inLoop c) rfl (fun _ _=>.inl (by simp)) harr⟩
   | goto l=>exact ⟨_,a₁,w₁,⟨ds₁,E₁,H₁,hq,hs₁⟩,.pass (x:=.inLoop c) rfl (fun _ _=>.inl (by simp)) harr⟩
   | ret=>exact ⟨_,a₁,w₁,⟨ds₁,E₁,H₁,hq,hs₁⟩,.pass (x:=.inLoop c) rfl (fun _ _=>.inl (by simp)) harr⟩
   | panic ch=>exact ⟨_,a₁,w₁,⟨ds₁,E₁,H₁,hq,hs₁⟩,.pass (x:=.inLoop c) rfl (fun _ _=>.inl (by simp)) harr⟩
   | outgrown=>exact ⟨_,a₁,w₁,⟨ds₁,E₁,H₁,hq,hs₁⟩,.pass (x:=.inLoop c) rfl (fun _ _=>.inl (by simp)) harr⟩
 obtain ⟨e',a',w',hq,harr⟩:=key _ x0 rfl h0 ds a w ⟨hs.defers,hs.fr.weaken hE.lk,hs.inv.sub (hH.app _)⟩
 exact ⟨e',a',w',hq,.of_steps (.one (fenced_calm hb hr rfl) stepR_loop) harr⟩
end
end Go.TH
namespace Go.TH
open Go
theorem Oper.wpIn_mono2 {F:Fence} {n:Nat} {P:Program} {o:Oper} {a:Act} {w:World} {K K':Act→World→Prop} {Q Q':Exit→Act→World→Prop} (h:∀ a w,K a w→K' a w) (hQ:∀ e a w,e≠.normal→Q e a w→Q' e a w)
 (hh:o.wpIn F n P a w K Q):o.wpIn F n P a w K' Q':=by
 unfold Oper.wpIn at *
 refine ⟨hh.1,?_⟩
 have hh:=hh.2
 have hL:LetsOut Q→LetsOut Q':=fun ⟨a,w,q⟩=>⟨a,w,hQ _ _ _ (by simp) q⟩
 generalize (o.semAt F.round a.eval).run P w=r at *
 cases r with
 | ok x w' =>
  cases x <;> simp only [Oper.uponIn] at hh ⊢ <;>
   first
    | exact h _ _ hh
    | exact ⟨hh.1,CallsIn.mono hh.2 (fun e w'' he=>by cases e <;> first | exact h _ _ he | exact hQ _ _ _ (by simp) he | exact hL he)⟩
    | exact ⟨hh.1,RowsIn.mono hh.2 (fun _ _ he=>h _ _ he)⟩
    | exact ⟨hh.1,RoundIn.mono hh.2 (fun e w'' he=>by cases e <;> first | exact h _ _ he | exact hQ _ _ _ (by simp) he | exact hL he)⟩
 | halt x w'=>cases x <;> simp only [Oper.uponIn] at hh ⊢ <;> first | exact hh | exact hQ _ _ _ (by simp) hh
section
variable {P:Program} {T:TypeId} {w:World}
theorem run_isAgg {b:Bool} (h:isAggB P T=some b):(isAgg T).run P w=.ok b w:=by
 unfold isAggB at h
 cases hu:P.underlying T with
 | none=>simp [hu] at h
 | some d =>
  simp only [hu,Option.map_some,Option.some.injEq] at h
  simp only [isAgg,Sem.run_bind,run_underlying hu,Result.andThen_ok]
  cases d <;> simp_all
theorem run_sizeOf {n:Nat} (h:szv P T=some n):(sizeOf T).run P w=.ok n w:=by
 unfold szv at h
 cases hu:P.info? T with
 | none=>simp [hu] at h
 | some i=>simp [hu] at h;simp [sizeOf,typeInfo,hu,h]
theorem run_zeroValue {z:Value} (h:zv P T=some z):(zeroValue T).run P w=.ok z w:=by
 unfold zv at h
 cases hu:P.info? T with
 | none=>simp [hu] at h
 | some i=>simp [hu] at h;simp [zeroValue,typeInfo,hu,h]
theorem run_loadVar1 {p:Addr} {v:Value} (hT:CT P T) (h:w.cell? p=some v):(loadVar T p).run P w=.ok v w:=by
 simp only [loadVar,Sem.run_bind,run_isAgg hT.one,Result.andThen_ok]
 simp [h]
theorem run_loadVarA {p:Addr} {n:Nat} {vs:List Value} (hT:AT P T n) (hl:vs.length=n) (h:∀ j v,vs[j]?=some v→w.cell? (p.add j)=some v):(loadVar T p).run P w=.ok (.agg vs.toArray) w:=by
 simp only [loadVar,Sem.run_bind,run_isAgg hT.agg,Result.andThen_ok,if_true,run_sizeOf hT.size]
 rw [← hl,run_loadCells_list w p vs h]
 simp
end
section
variable {P:Program} {C:Cx P} {E:Env} {H:List HP}
abbrev KP:=Env→List HP→Prop
def WO (C:Cx P) (ops:Array Oper) (l:List Oper) (K:KP) (E:Env) (H:List HP):Prop :=
 ∀ L ds a w,St C L ds E H a w→wpListIn C.F 0 P ops (fun e a' w'=>∃ ds' E' H',thn K (fun _ _ _=>False) e E' H'∧St C L ds' E' H' a' w') l a w
theorem W.region {Q:Post} {id:Nat} {l:List Oper} (h:WO C l.toArray l (Q .normal) E H):W C (.region id l.toArray false) Q E H:=by
 intro L ds a w hs
 refine wpIn_mono (wpIn_region_lit (h L ds a w hs)) ?_
 rintro e a' w' ⟨ds',E',H',q,s⟩
 cases e <;> first | exact ⟨ds',E',H',q,s⟩ | exact q.elim
theorem WO.nil {ops:Array Oper} {K:KP} (h:K E H):WO C ops [] K E H:=fun L ds a w hs=>wpListIn_nil ⟨ds,E,H,h,hs⟩
def XO (C:Cx P) (o:Oper) (X:Value→List HP→Prop) (E:Env) (H:List HP):Prop :=
 ∀ (L:List HP) a w,Fr C.N E a→Inv C.w0 C.M (L++H) w →
  o.wpIn C.F 0 P a w (fun a' w'=>∃ v H',X v H'∧a'=a.put o.dst v∧Inv C.w0 C.M (L++H') w') (fun _ _ _=>False)
theorem act_put_defers (a:Act) (d:Option Tmp) (v:Value):(a.put d v).defers=a.defers:=by cases d <;> rfl
theorem WO.step {ops:Array Oper} {K:KP} {o:Oper} {rest:List Oper} {d:Nat} (hg:o.guard=none) (hd:o.dst=some d) (hN:Nat.blt d C.N=true)
 (hx:XO C o (fun v H'=>WO C ops rest K ((d,v)::E) H') E H):WO C ops (o::rest) K E H:=by
 intro L ds a w hs
 refine wpListIn_plain hg fun K' hK=>?_
 refine Oper.wpIn_mono2 ?_ (fun _ _ _ _ h=>h.elim) (hx _ a w hs.fr hs.inv)
 rintro a' w' ⟨v,H',x,rfl,hi⟩
 refine hK _ _ (x L ds _ w' ⟨?_,?_,hi⟩)
 ·rw [act_put_defers];exact hs.defers
 ·rw [hd];exact hs.fr.put hN
theorem WO.step0 {ops:Array Oper} {K:KP} {o:Oper} {rest:List Oper} (hg:o.guard=none) (hd:o.dst=none)
 (hx:XO C o (fun _ H'=>WO C ops rest K E H') E H):WO C ops (o::rest) K E H:=by
 intro L ds a w hs
 refine wpListIn_plain hg fun K' hK=>?_
 refine Oper.wpIn_mono2 ?_ (fun _ _ _ _ h=>h.elim) (hx _ a w hs.fr hs.inv)
 rintro a' w' ⟨v,H',x,rfl,hi⟩
 refine hK _ _ (x L ds _ w' ⟨?_,?_,hi⟩)
 ·rw [act_put_defers];exact hs.defers
 ·rw [hd];exact hs.fr
theorem WO.go {ops:Array Oper} {K:KP} {dst:Option Tmp} {op:Op} {ty:TypeId} {pos:String} {af:Array Edge} {rest:List Oper} {j dj:Nat} {want:Bool}
 (hj:(ops[j]?).bind (·.dst)=some dj) (hb:lk E dj=some (.bool want))
 (h:WO C ops (⟨dst,op,ty,pos,af,none⟩::rest) K E H):WO C ops (⟨dst,op,ty,pos,af,some (j,want)⟩::rest) K E H:=by
 intro L ds a w hs
 have h1:=h L ds a w hs
 have hw:Region.wanted ⟨dst,op,ty,pos,af,some (j,want)⟩ (yielded ops a.tmps)=true:=by
  simp [Region.wanted,yielded,hj,hs.fr.get _ _ hb]
 simp only [wpListIn,hw,if_true] at h1 ⊢
 exact h1
theorem WO.passV {ops:Array Oper} {K:KP} {d:Nat} {op:Op} {ty:TypeId} {pos:String} {af:Array Edge} {rest:List Oper} {j dj:Nat} {want:Bool} {v:Value}
 (hj:(ops[j]?).bind (·.dst)=some dj) (hb:lk E dj=some v) (hne:v=.bool (!want)∨∃ a,v=.tuple a) (hN:Nat.blt d C.N=true)
 (h:WO C ops rest K ((d,undef)::E) H):WO C ops (⟨some d,op,ty,pos,af,some (j,want)⟩::rest) K E H:=by
 intro L ds a w hs
 have hw:Region.wanted ⟨some d,op,ty,pos,af,some (j,want)⟩ (yielded ops a.tmps)=false:=by
  rcases hne with rfl | ⟨u,rfl⟩
  ·simp only [Region.wanted,yielded,hj,Option.bind_some,hs.fr.get _ _ hb]
   cases want <;> rfl
  ·simp only [Region.wanted,yielded,hj,Option.bind_some,hs.fr.get _ _ hb]
   rfl
 simp only [wpListIn,hw]
 exact ⟨fun _ _=>trivial,h L ds _ w ⟨by rw [act_put_defers];exact hs.defers,hs.fr.put hN,hs.inv⟩⟩
theorem WO.part {ops:Array Oper} {K:KP} {l:List Oper} {dj:Nat} {b:Bool} (hb:lk E dj=some (.bool b))
 (ht:b=true→WO C ops l K ((dj,.bool true)::E) H) (hf:b=false→WO C ops l K ((dj,.bool false)::E) H):WO C ops l K E H:=by
 intro L ds a w hs
 have key:∀ c,b=c→Fr C.N ((dj,.bool c)::E) a:=fun c e=>by
  subst e
  refine hs.fr.weaken fun t v hv=>?_
  simp only [lk] at hv
  cases hb':Nat.beq dj t with
  | true=>rw [hb'] at hv;simp at hv;have:=Nat.eq_of_beq_eq_true hb';subst this;subst hv;exact hb
  | false=>rw [hb'] at hv;simpa using hv
 cases b with
 | true=>exact ht rfl L ds a w ⟨hs.defers,key _ rfl,hs.inv⟩
 | false=>exact hf rfl L ds a w ⟨hs.defers,key _ rfl,hs.inv⟩
theorem XO.run {o:Oper} {X:Value→List HP→Prop} (hnd:∀ c,o.op≠.defer c)
 (h:∀ (L:List HP) a w,Fr C.N E a→Inv C.w0 C.M (L++H) w→∃ v w' H',((execOp a.eval o).run P w=.ok (.value v) w'∨((execOp a.eval o).run P w=.ok .skip w'∧v=undef))∧X v H'∧Inv C.w0 C.M (L++H') w'):XO C o X E H:=by
 intro L a w hf hi
 obtain ⟨v,w',H',hr,hx,hi'⟩:=h L a w hf hi
 refine ⟨fun _ _=>trivial,?_⟩
 rw [Oper.semAt_eq _ _ _ hnd]
 rcases hr with hr | ⟨hr,rfl⟩
 ·rw [hr];exact ⟨v,H',hx,rfl,hi'⟩
 ·rw [hr];exact ⟨_,H',hx,rfl,hi'⟩
theorem WO.pure {ops:Array Oper} {K:KP} {rest:List Oper} {d:Nat} {op:Op} {ty:TypeId} {pos:String} {af:Array Edge} (v:Value) (hnd:∀ c,op≠.defer c)
 (hv:∀ (L:List HP) a w,Fr C.N E a→Inv C.w0 C.M (L++H) w→(execOp a.eval ⟨some d,op,ty,pos,af,none⟩).run P w=.ok (.value v) w) (hN:Nat.blt d C.N=true) (h:WO C ops rest K ((d,v)::E) H) :
 WO C ops (⟨some d,op,ty,pos,af,none⟩::rest) K E H :=
 WO.step rfl rfl hN (XO.run hnd fun L a w hf hi=>⟨v,w,H,.inl (hv L a w hf hi),h,hi⟩)
section rules
variable {ops:Array Oper} {K:KP} {rest:List Oper} {d:Nat} {ty:TypeId} {pos:String} {af:Array Edge} {x y z:Operand} {T T':TypeId}
theorem WO.extract {vs:List Value} {i:Nat} {v:Value} (hx:ev E x=some (.tuple vs.toArray)) (hi:vs[i]?=some v) (hN:Nat.blt d C.N=true) (h:WO C ops rest K ((d,v)::E) H):WO C ops (⟨some d,.extract x i,ty,pos,af,none⟩::rest) K E H :=
 WO.pure v (by simp) (fun L a w hf _=>by simp [execOp,hf.eval hx,Instr.extract,hi]) hN h
def in64 (n:Int):Prop := -9223372036854775808≤n∧n≤9223372036854775807
def w64 (n:Int):Int:=IntKind.i64.wrap n
theorem w64_in {n:Int} (h:in64 n):w64 n=n:=IntWalk.i64_in n (by unfold in64 at h;omega)
@[irreducible] def bl (p:Prop) [Decidable p]:Bool:=decide p
theorem bl_eq (p:Prop) [Decidable p]:bl p=decide p:=by unfold bl;rfl
theorem bl_t {p:Prop} [Decidable p]:bl p=true↔p:=by rw [bl_eq];simp
theorem bl_f {p:Prop} [Decidable p]:bl p=false↔¬ p:=by rw [bl_eq];simp
theorem WO.quo {a b:Int} (hx:ev E x=some (.int .i64 a)) (hy:ev E y=some (.int .i64 b)) (hb:b≠0) (hr:in64 (a.tdiv b)) (hN:Nat.blt d C.N=true) (h:WO C ops rest K ((d,.int .i64 (a.tdiv b))::E) H):WO C ops (⟨some d,.binOp .quo T x y T',ty,pos,af,none⟩::rest) K E H :=
 WO.pure _ (by simp) (fun L c w hf _=>by simp only [execOp,hf.eval hx,hf.eval hy];simp [binOp_quo,eqGuard_quo,Op.intDiv,hb];exact w64_in hr) hN h
theorem WO.rem {k:IntKind} {a b:Int} (hx:ev E x=some (.int k a)) (hy:ev E y=some (.int k b)) (hb:b≠0) (hN:Nat.blt d C.N=true) (h:WO C ops rest K ((d,.int k (a.tmod b))::E) H):WO C ops (⟨some d,.binOp .rem T x y T',ty,pos,af,none⟩::rest) K E H :=
 WO.pure _ (by simp) (fun L c w hf _=>by simp only [execOp,hf.eval hx,hf.eval hy];simp [binOp_rem,eqGuard_rem,Op.intDiv,hb]) hN h
theorem WO.leq {k:IntKind} {a b:Int} (hx:ev E x=some (.int k a)) (hy:ev E y=some (.int k b)) (hN:Nat.blt d C.N=true) (h:WO C ops rest K ((d,.bool (bl (a≤b)))::E) H):WO C ops (⟨some d,.binOp .leq T x y T',ty,pos,af,none⟩::rest) K E H :=
 WO.pure _ (by simp) (fun L c w hf _=>by simp only [execOp,hf.eval hx,hf.eval hy];simp [binOp_leq,eqGuard_leq,bl_eq]) hN h
theorem WO.gtr {k:IntKind} {a b:Int} (hx:ev E x=some (.int k a)) (hy:ev E y=some (.int k b)) (hN:Nat.blt d C.N=true) (h:WO C ops rest K ((d,.bool (bl (b<a)))::E) H):WO C ops (⟨some d,.binOp .gtr T x y T',ty,pos,af,none⟩::rest) K E H :=
 WO.pure _ (by simp) (fun L c w hf _=>by simp only [execOp,hf.eval hx,hf.eval hy];simp [binOp_gtr,eqGuard_gtr,bl_eq]) hN h
theorem WO.eql {k:IntKind} {a b:Int} (hx:ev E x=some (.int k a)) (hy:ev E y=some (.int k b)) (hN:Nat.blt d C.N=true) (h:WO C ops rest K ((d,.bool (bl (a=b)))::E) H):WO C ops (⟨some d,.binOp .eql T x y T',ty,pos,af,none⟩::rest) K E H :=
 WO.pure _ (by simp) (fun L c w hf _=>by simp only [execOp,hf.eval hx,hf.eval hy];simp [binOp_eql,bl_eq,eqGuard_at_int];by_cases e:a=b <;> simp [e]) hN h
theorem WO.neq {k:IntKind} {a b:Int} (hx:ev E x=some (.int k a)) (hy:ev E y=some (.int k b)) (hN:Nat.blt d C.N=true) (h:WO C ops rest K ((d,.bool (bl (a≠b)))::E) H):WO C ops (⟨some d,.binOp .neq T x y T',ty,pos,af,none⟩::rest) K E H :=
 WO.pure _ (by simp) (fun L c w hf _=>by simp only [execOp,hf.eval hx,hf.eval hy];simp [binOp_neq,bl_eq,eqGuard_at_int];by_cases e:a=b <;> simp [e]) hN h
theorem WO.neg {a:Int} (hx:ev E x=some (.int .i64 a)) (hr:in64 (-a)) (hN:Nat.blt d C.N=true) (h:WO C ops rest K ((d,.int .i64 (-a))::E) H):WO C ops (⟨some d,.unOp .neg T x,ty,pos,af,none⟩::rest) K E H :=
 WO.pure _ (by simp) (fun L c w hf _=>by simp only [execOp,hf.eval hx];simp [Op.unary,Op.intArith];exact w64_in hr) hN h
end rules
end
end Go.TH
namespace Go.TH
open Go
section
variable {P:Program} {C:Cx P} {E:Env} {H:List HP}
def Cell (C:Cx P) (H:List HP) (p:Addr) (v:Value):Prop:=∀ (L:List HP) w,Inv C.w0 C.M (L++H) w→w.cell? p=some v
def lget:List Value→Nat→Option Value
 | [],_=>none
 | v::_,0=>some v
 | _::r,n+1=>lget r n
theorem lget_eq:∀ (l:List Value) (n:Nat),lget l n=l[n]?
 | [],_=>by simp [lget]
 | _::_,0=>by simp [lget]
 | _::r,n+1=>by simp [lget,lget_eq r n]
theorem Cell.own {b:Nat} {cs:List Value} {t:TypeId} {fr:Nat × Nat} {H':List HP} {off:Nat} {v:Value} (p:Pick (pt b (.cells cs.toArray t fr)) H H') (hv:lget cs off=some v):Cell C H ⟨b,off,none⟩ v:=by
 intro L w hi
 have h1:=(hi.look (p.app L)).1
 rw [lget_eq] at hv
 simp [World.cell?,h1,hv]
theorem Cell.old {p:Addr} {v:Value} (hb:p.block<C.B) (h:C.w0.cell? p=some v):Cell C H p v:=by
 intro L w hi
 have:w.heap[p.block]?=C.w0.heap[p.block]?:=hi.keep _ (Nat.lt_of_lt_of_le hb C.hB) (fun hm=>by have:=C.hM _ hm;omega)
 rw [← h]
 simp only [World.cell?,this]
def Cells (C:Cx P) (H:List HP) (p:Addr) (vs:List Value):Prop:=∀ j v,vs[j]?=some v→Cell C H (p.add j) v
theorem Cells.two {p:Addr} {u v:Value} (h0:Cell C H p u) (h1:Cell C H (p.add 1) v):Cells C H p [u,v]:=by
 intro j x hx
 match j with
 | 0=>simp at hx;subst hx;simpa [Addr.add] using h0
 | 1=>simp at hx;subst hx;exact h1
 | j+2=>simp at hx
theorem Cells.own {b:Nat} {cs:List Value} {t:TypeId} {fr:Nat × Nat} {H':List HP} (p:Pick (pt b (.cells cs.toArray t fr)) H H'):Cells C H ⟨b,0,none⟩ cs:=by
 intro j v hv
 have:(Addr.add ⟨b,0,none⟩ j)=⟨b,j,none⟩:=by unfold Addr.add;split <;> simp_all
 rw [this]
 exact Cell.own p (by rw [lget_eq];exact hv)
theorem Cells.ownAt {b off n:Nat} {cs vs:List Value} {t:TypeId} {fr:Nat × Nat} {H':List HP} (p:Pick (pt b (.cells cs.toArray t fr)) H H') (h:(cs.drop off).take n=vs):Cells C H ⟨b,off,none⟩ vs:=by
 intro j v hv
 have:(Addr.add ⟨b,off,none⟩ j)=⟨b,off+j,none⟩:=by unfold Addr.add;split <;> simp_all
 rw [this]
 refine Cell.own p ?_
 rw [lget_eq]
 subst h
 rw [List.getElem?_take] at hv
 split at hv
 ·rw [List.getElem?_drop] at hv;simpa using hv
 ·cases hv
section rules
variable {ops:Array Oper} {K:KP} {rest:List Oper} {d:Nat} {ty:TypeId} {pos:String} {af:Array Edge} {x y z:Operand} {T T':TypeId}
theorem WO.load {p:Addr} {v:Value} (hx:ev E x=some (.pointer (some p))) (hT:C.tt.one? T=true) (hc:Cell C H p v) (hN:Nat.blt d C.N=true) (h:WO C ops rest K ((d,v)::E) H):WO C ops (⟨some d,.load T x,ty,pos,af,none⟩::rest) K E H :=
 WO.pure v (by simp) (fun L a w hf hi=>by simp [execOp,hf.eval hx,Instr.loadAt,Instr.sureAddr,run_loadVar1 (CT.of hT) (hc L w hi)]) hN h
theorem WO.loadA {p:Addr} {n:Nat} {vs:List Value} (hx:ev E x=some (.pointer (some p))) (hT:C.tt.ag? T=some n) (hc:Cells C H p vs) (hl:vs.length=n) (hN:Nat.blt d C.N=true) (h:WO C ops rest K ((d,.agg vs.toArray)::E) H):WO C ops (⟨some d,.load T x,ty,pos,af,none⟩::rest) K E H :=
 WO.pure _ (by simp) (fun L a w hf hi=>by simp [execOp,hf.eval hx,Instr.loadAt,Instr.sureAddr,run_loadVarA (AT.of hT) hl (fun j v hv=>hc j v hv L w hi)]) hN h
theorem Inv.alloc' {w0:World} {M:List Nat} {L H:List HP} {w:World} (h:Inv w0 M (L++H) w) (o:Obj):Inv w0 M (L++pt w.heap.size o::H) (w.alloc o):=by
 have h1:=h.alloc o
 refine h1.sub ?_
 have:∀ (L':List HP),Sub (pt w.heap.size o::(L'++H)) (L'++pt w.heap.size o::H):=by
  intro L'
  induction L' with
  | nil=>exact Sub.refl _
  | cons A L' ih=>exact .cons (.tail .head) ih
 exact this L
theorem WO.boxA {cs:Array Value} (hx:ev E x=some (.agg cs)) (hN:Nat.blt d C.N=true) (h:∀ b,C.w0.heap.size≤b→WO C ops rest K ((d,.pointer (some ⟨b,0,none⟩))::E) (pt b (.cells cs T (0,0))::H)):WO C ops (⟨some d,.box T x,ty,pos,af,none⟩::rest) K E H :=
 WO.step rfl rfl hN (XO.run (by simp) fun L a w hf hi=>⟨_,w.alloc (.cells cs T),_,.inl (by simp [execOp,hf.eval hx,Instr.box,newVar,newRow,Value.cells]),h _ hi.size,hi.alloc' _⟩)
theorem WO.box1 {v:Value} (hx:ev E x=some v) (hv:v.oneCell'=true) (hN:Nat.blt d C.N=true) (h:∀ b,C.w0.heap.size≤b→WO C ops rest K ((d,.pointer (some ⟨b,0,none⟩))::E) (pt b (.cells #[v] T (0,0))::H)):WO C ops (⟨some d,.box T x,ty,pos,af,none⟩::rest) K E H :=
 WO.step rfl rfl hN (XO.run (by simp) fun L a w hf hi=>⟨_,w.alloc (.cells #[v] T),_,.inl (by
  have hc:v.cells=#[v]:=by cases v <;> simp_all [Value.cells,Value.oneCell']
  simp [execOp,hf.eval hx,Instr.box,newVar,newRow,hc]),h _ hi.size,hi.alloc' _⟩)
theorem WO.alloc {z:Value} {cs:Array Value} (hz:C.tt.z? T=some z) (hc:z.cells=cs) (hN:Nat.blt d C.N=true) (h:∀ b,C.w0.heap.size≤b→WO C ops rest K ((d,.pointer (some ⟨b,0,none⟩))::E) (pt b (.cells cs T (0,0))::H)):WO C ops (⟨some d,.alloc T,ty,pos,af,none⟩::rest) K E H :=
 WO.step rfl rfl hN (XO.run (by simp) fun L a w hf hi=>⟨_,w.alloc (.cells cs T),_,.inl (by
  simp [execOp,Instr.alloc,run_zeroValue (ZT.of hz).zero,newVar,newRow,hc]),h _ hi.size,hi.alloc' _⟩)
theorem setCell_heap_same {w:World} {b off:Nat} {cs:Array Value} {t:TypeId} {fr:Nat × Nat} (v:Value) (h:w.heap[b]?=some (.cells cs t fr)):(w.setCell ⟨b,off,none⟩ v).heap[b]?=some (.cells (cs.setIfInBounds off v) t fr):=by
 simp [World.setCell,Array.getElem?_modify,h]
theorem setCell_heap_other {w:World} {b off k:Nat} (v:Value) (h:k≠b):(w.setCell ⟨b,off,none⟩ v).heap[k]?=w.heap[k]?:=RowKit.Below.heap_setCell w ⟨b,off,none⟩ v k h
def wrl:List Value→Nat→List Value→List Value
 | cs,_,[]=>cs
 | cs,i,v::r=>wrl (cs.set i v) (i+1) r
theorem wrl_length:∀ (vs cs:List Value) (i:Nat),(wrl cs i vs).length=cs.length
 | [],_,_=>rfl
 | v::r,cs,i=>by simp [wrl,wrl_length r]
theorem wrl_eq:∀ (vs pre cs:List Value),vs.length≤cs.length→wrl (pre++cs) pre.length vs=pre++vs++cs.drop vs.length
 | [],pre,cs,_=>by simp [wrl]
 | v::r,pre,[],h=>by simp at h
 | v::r,pre,c::cs,h=>by
  have h':r.length≤cs.length:=by simpa using h
  have:=wrl_eq r (pre++[v]) cs h'
  simp only [wrl]
  have e:(pre++c::cs).set pre.length v=(pre++[v])++cs:=by simp
  rw [e]
  simpa using this
theorem wrl_all {vs cs:List Value} (h:cs.length=vs.length):wrl cs 0 vs=vs:=by
 have:=wrl_eq vs [] cs (by omega)
 simp at this
 rw [this,List.drop_eq_nil_of_le (by omega)];simp
theorem run_storeCells_own {b off:Nat} {t:TypeId}:∀ (vs:List Value) (i:Nat) (w:World) (cs:List Value),w.heap[b]?=some (.cells cs.toArray t (0,0))→off+i+vs.length≤cs.length→(∀ v∈vs,v.oneCell'=true) →
 ∃ w',(storeCells ⟨b,off,none⟩ vs i).run P w=.ok () w'∧w'.os=w.os∧w'.tape=w.tape∧w'.output=w.output∧w'.heap.size=w.heap.size ∧
  w'.heap[b]?=some (.cells (wrl cs (off+i) vs).toArray t (0,0))∧∀ k,k≠b→w'.heap[k]?=w.heap[k]?
 | [],i,w,cs,h,_,_=>⟨w,by simp [storeCells],rfl,rfl,rfl,rfl,h,fun _ _=>rfl⟩
 | v::r,i,w,cs,h,hl,h1=>by
  have ea:(Addr.add ⟨b,off,none⟩ i)=⟨b,off+i,none⟩:=by unfold Addr.add;split <;> simp_all
  have hlt:off+i<cs.length:=by simp at hl;omega
  have hcell:w.cell? ⟨b,off+i,none⟩=some cs[off+i]:=by simp [World.cell?,h,hlt]
  have hfr:w.frozen? ⟨b,off+i,none⟩=false:=by simp [World.frozen?,h]
  have hw1:(w.setCell ⟨b,off+i,none⟩ v).heap[b]?=some (.cells (cs.set (off+i) v).toArray t (0,0)):=by
   rw [setCell_heap_same v h];simp
  obtain ⟨w',hr,a1,a2,a3,a4,a5,a6⟩:=run_storeCells_own (off:=off) r (i+1) (w.setCell ⟨b,off+i,none⟩ v) (cs.set (off+i) v) hw1 (by simp at hl ⊢;omega) (fun u hu=>h1 u (by simp [hu]))
  refine ⟨w',?_,a1,a2,a3,?_,?_,fun k hk=>?_⟩
  ·simp only [storeCells,Sem.run_bind,ea]
   rw [run_store P w _ v _ (h1 v (by simp))]
   simp only [hcell,hfr]
   simpa using hr
  ·rw [a4];simp
  ·rw [a5];simp [wrl,Nat.add_assoc]
  ·rw [a6 k hk,setCell_heap_other v hk]
theorem run_storeVar_own {b off:Nat} {t:TypeId} {w:World} {cs:List Value} {v:Value} {vs:List Value} (hv:v.cells=vs.toArray) (hs:szv P T=some vs.length) (h:w.heap[b]?=some (.cells cs.toArray t (0,0))) (hl:off+vs.length≤cs.length) (h1:∀ v∈vs,v.oneCell'=true) :
 ∃ w',(storeVar T ⟨b,off,none⟩ v).run P w=.ok () w'∧w'.os=w.os∧w'.tape=w.tape∧w'.output=w.output∧w'.heap.size=w.heap.size ∧
  w'.heap[b]?=some (.cells (wrl cs off vs).toArray t (0,0))∧∀ k,k≠b→w'.heap[k]?=w.heap[k]?:=by
 obtain ⟨w',hr,r⟩:=run_storeCells_own (P:=P) (off:=off) vs 0 w cs h (by omega) h1
 refine ⟨w',?_,r⟩
 simp only [storeVar,Sem.run_bind,run_sizeOf hs,Result.andThen_ok,hv]
 simpa using hr
theorem XO.store {b off:Nat} {t:TypeId} {cs:List Value} {v:Value} {vs:List Value} {H':List HP} {X:Value→List HP→Prop} (hx:ev E x=some (.pointer (some ⟨b,off,none⟩))) (hy:ev E y=some v) (hv:v.cells=vs.toArray) (hs:szv P T=some vs.length) (p:Pick (pt b (.cells cs.toArray t (0,0))) H H') (hl:off+vs.length≤cs.length) (h1:∀ v∈vs,v.oneCell'=true)
 (h:X undef (pt b (.cells (wrl cs off vs).toArray t (0,0))::H')):XO C ⟨none,.store T x y,ty,pos,af,none⟩ X E H :=
 XO.run (by simp) fun L a w hf hi=>by
  obtain ⟨w',hr,a1,a2,a3,a4,a5,a6⟩:=run_storeVar_own (P:=P) hv hs (hi.look (p.app L)).1 hl h1
  refine ⟨undef,w',_,.inr ⟨?_,rfl⟩,h,?_⟩
  ·simp [execOp,hf.eval hx,hf.eval hy,Instr.storeAt,Instr.sureAddr,hr]
  ·have:=hi.set (p.app L) a1 a2 a3 a4 a5 a6
   refine this.sub ?_
   have:∀ (L':List HP) (A:HP),Sub (A::(L'++H')) (L'++A::H'):=by
    intro L' A
    induction L' with
    | nil=>exact Sub.refl _
    | cons B L' ih=>exact .cons (.tail .head) ih
   exact this L _
theorem WO.store1 {b off:Nat} {t:TypeId} {cs:List Value} {v:Value} {H':List HP} (hx:ev E x=some (.pointer (some ⟨b,off,none⟩))) (hy:ev E y=some v) (hT:C.tt.one? T=true) (h1:v.oneCell'=true) (p:Pick (pt b (.cells cs.toArray t (0,0))) H H') (hl:Nat.blt off cs.length=true)
 (h:WO C ops rest K E (pt b (.cells (cs.set off v).toArray t (0,0))::H')):WO C ops (⟨none,.store T x y,ty,pos,af,none⟩::rest) K E H :=
 WO.step0 rfl rfl (XO.store (vs:=[v]) hx hy (by cases v <;> simp_all [Value.cells,Value.oneCell']) (CT.of hT).size p (by simp;have:=Nat.blt_eq.mp hl;omega) (by simp [h1]) h)
theorem WO.storeA {b n:Nat} {t:TypeId} {cs vs:List Value} {H':List HP} (hx:ev E x=some (.pointer (some ⟨b,0,none⟩))) (hy:ev E y=some (.agg vs.toArray)) (hT:C.tt.ag? T=some n) (hn:vs.length=n) (p:Pick (pt b (.cells cs.toArray t (0,0))) H H') (hl:cs.length=n) (h1:vs.all (·.oneCell')=true)
 (h:WO C ops rest K E (pt b (.cells vs.toArray t (0,0))::H')):WO C ops (⟨none,.store T x y,ty,pos,af,none⟩::rest) K E H :=
 WO.step0 rfl rfl (XO.store (vs:=vs) hx hy (by simp [Value.cells]) (by rw [(AT.of hT).size,hn]) p (by omega) (by simpa using h1) (by rw [wrl_all (by omega)];exact h))
theorem WO.storeP {b off n:Nat} {t:TypeId} {cs vs:List Value} {H':List HP} (hx:ev E x=some (.pointer (some ⟨b,off,none⟩))) (hy:ev E y=some (.agg vs.toArray)) (hT:C.tt.ag? T=some n) (hn:vs.length=n) (p:Pick (pt b (.cells cs.toArray t (0,0))) H H') (hl:off+n≤cs.length) (h1:vs.all (·.oneCell')=true)
 (h:WO C ops rest K E (pt b (.cells (wrl cs off vs).toArray t (0,0))::H')):WO C ops (⟨none,.store T x y,ty,pos,af,none⟩::rest) K E H :=
 WO.step0 rfl rfl (XO.store (vs:=vs) hx hy (by simp [Value.cells]) (by rw [(AT.of hT).size,hn]) p (by omega) (by simpa using h1) h)
def base (v:Value):Addr:=match v with | .slice (some a) _ _=>a | _=>⟨0,0,none⟩
@[irreducible] def elt (v:Value) (i:Nat) (sz:Nat):Addr:=(base v).add (i*sz)
@[irreducible] def prt (p:Addr) (fo:Nat):Addr:=p.add fo
theorem elt_eq (v:Value) (i:Nat) (sz:Nat):elt v i sz=(base v).add (i*sz):=by unfold elt;rfl
theorem prt_eq (p:Addr) (fo:Nat):prt p fo=p.add fo:=by unfold prt;rfl
theorem run_fieldAt {f fo ft:Nat} {w:World} {p:Addr} (hT:FT P T f fo ft):(Instr.fieldAt T (.pointer (some p)) f).run P w=.ok (.pointer (some (p.add fo))) w:=by
 have h:=hT.at_
 unfold fieldOf at h
 cases hu:P.underlying T with
 | none=>simp [hu] at h
 | some d =>
  cases d <;> simp [hu] at h
  rename_i fs
  obtain ⟨x,hx,rfl,rfl⟩:=h
  have hs:=hT.size
  cases hz:szv P x.type with
  | none=>simp [hz] at hs
  | some n =>
   simp [hz] at hs
   have hn:n≠0:=by
    intro e;subst e;simp at hs
   simp only [Instr.fieldAt,Sem.run_bind,run_underlying hu,Result.andThen_ok,hx,Instr.sureAddr]
   simp [fieldPlace,run_sizeOf hz,hn]
theorem WO.field0 {f ft:Nat} {p:Addr} (hT:C.tt.fd? T f=some (0,ft)) (hx:ev E x=some (.pointer (some p))) (hN:Nat.blt d C.N=true) (h:WO C ops rest K ((d,.pointer (some p))::E) H):WO C ops (⟨some d,.fieldAddr T x f,ty,pos,af,none⟩::rest) K E H :=
 WO.pure _ (by simp) (fun L a w hf hi=>by simp [execOp,hf.eval hx,run_fieldAt (FT.of hT),Addr.add]) hN h
theorem WO.fieldL {f fo ft b off:Nat} (hT:C.tt.fd? T f=some (fo,ft)) (hx:ev E x=some (.pointer (some ⟨b,off,none⟩))) (hN:Nat.blt d C.N=true) (h:WO C ops rest K ((d,.pointer (some ⟨b,off+fo,none⟩))::E) H):WO C ops (⟨some d,.fieldAddr T x f,ty,pos,af,none⟩::rest) K E H :=
 WO.pure _ (by simp) (fun L a w hf hi=>by
  have:(Addr.add ⟨b,off,none⟩ fo)=⟨b,off+fo,none⟩:=by unfold Addr.add;split <;> simp_all
  simp [execOp,hf.eval hx,run_fieldAt (FT.of hT),this]) hN h
theorem WO.field {f fo ft:Nat} {p:Addr} (hT:C.tt.fd? T f=some (fo,ft)) (hx:ev E x=some (.pointer (some p))) (hN:Nat.blt d C.N=true) (h:WO C ops rest K ((d,.pointer (some (prt p fo)))::E) H):WO C ops (⟨some d,.fieldAddr T x f,ty,pos,af,none⟩::rest) K E H :=
 WO.pure _ (by simp) (fun L a w hf hi=>by simp [execOp,hf.eval hx,run_fieldAt (FT.of hT),prt_eq]) hN h
structure IsSl (v:Value) (n:Nat):Prop where
 le:n≤9223372036854775807
 is:∃ a c,v=.slice a n c∧(0<n→∃ b o,a=some ⟨b,o,none⟩)
theorem WO.len {n by' e sz:Nat} {v:Value} (hT:C.tt.sl? T=some (e,sz,by')) (hx:ev E x=some v) (hS:IsSl v n) (hN:Nat.blt d C.N=true) (h:WO C ops rest K ((d,.int .i64 (n:Int))::E) H):WO C ops (⟨some d,.call ⟨.builtin .len,#[x],#[T]⟩,ty,pos,af,none⟩::rest) K E H :=
 WO.pure _ (by simp) (fun L a w hf hi=>by
  obtain ⟨a0,c,rfl,_⟩:=hS.is
  simp [execOp,resolve,hf.eval hx,invoke,builtin,Builtin.len_,run_underlying (SlT.of hT).u,goInt]) hN h
theorem WO.indexAddrZ {n by' e sz:Nat} {k:IntKind} {i:Int} {v:Value} (hT:C.tt.sl? T=some (e,sz,by')) (hx:ev E x=some v) (hy:ev E y=some (.int k i)) (hS:IsSl v n) (h0:0≤i) (h1:i<n) (hN:Nat.blt d C.N=true)
 (h:WO C ops rest K ((d,.pointer (some (elt v i.toNat sz)))::E) H):WO C ops (⟨some d,.indexAddr T x y,ty,pos,af,none⟩::rest) K E H :=
 WO.pure _ (by simp) (fun L a w hf hi=>by
  obtain ⟨a0,c,rfl,hb⟩:=hS.is
  obtain ⟨b,o,rfl⟩:=hb (by omega)
  simp [execOp,hf.eval hx,hf.eval hy,Instr.indexAt,run_underlying (SlT.of hT).u,asIntOf,h0,h1,run_sizeOf (SlT.of hT).size,base,elt_eq]) hN h
theorem WO.indexAddr {n by' e sz:Nat} {k:IntKind} {i:Nat} {v:Value} (hT:C.tt.sl? T=some (e,sz,by')) (hx:ev E x=some v) (hy:ev E y=some (.int k (i:Int))) (hS:IsSl v n) (h1:i<n) (hN:Nat.blt d C.N=true)
 (h:WO C ops rest K ((d,.pointer (some (elt v i sz)))::E) H):WO C ops (⟨some d,.indexAddr T x y,ty,pos,af,none⟩::rest) K E H :=
 WO.indexAddrZ hT hx hy hS (by omega) (by omega) hN h
theorem WO.indexArr {len e sz:Nat} {k:IntKind} {i:Int} {p:Addr} (hT:C.tt.ar? T=some (len,e,sz)) (hx:ev E x=some (.pointer (some p))) (hy:ev E y=some (.int k i)) (h0:0≤i) (h1:i<len) (hN:Nat.blt d C.N=true)
 (h:WO C ops rest K ((d,.pointer (some (p.add (i.toNat*sz))))::E) H):WO C ops (⟨some d,.indexAddr T x y,ty,pos,af,none⟩::rest) K E H :=
 WO.pure _ (by simp) (fun L a w hf hi=>by
  simp [execOp,hf.eval hx,hf.eval hy,Instr.indexAt,run_underlying (ArT.of hT).u,asIntOf,h0,h1,run_sizeOf (ArT.of hT).size,Instr.sureAddr]) hN h
structure RdF {α:Type} (enc:α→List Value) (sz:Nat) (B:Nat) (w:World) (v:Value) (xs:List α):Prop where
 sl:IsSl v xs.length
 blk:0<xs.length→(base v).block<B
 cell:∀ (i:Nat) (x:α),xs[i]?=some x→∀ (j:Nat) (u:Value),(enc x)[j]?=some u→w.cell? (((base v).add (i*sz)).add j)=some u
theorem addr_add_block (a:Addr) (n:Nat):(a.add n).block=a.block:=by unfold Addr.add;split <;> rfl
theorem RdF.cellNat {α:Type} {enc:α→List Value} {sz:Nat} {v:Value} {xs:List α} (h:RdF enc sz C.B C.w0 v xs) {i:Nat} {x:α} (hx:xs[i]?=some x) {j:Nat} {u:Value} (hu:(enc x)[j]?=some u):Cell C H (((base v).add (i*sz)).add j) u:=by
 refine Cell.old ?_ (h.cell i _ hx j u hu)
 rw [addr_add_block,addr_add_block];exact h.blk (by have:=(List.getElem?_eq_some_iff.1 hx).1;omega)
theorem getD_some {α:Type} {xs:List α} {i:Nat} (h1:i<xs.length) (z:α):xs[i]?=some (xs.getD i z):=by simp [h1]
theorem RdF.cellAt {α:Type} {enc:α→List Value} {sz:Nat} {v:Value} {xs:List α} (h:RdF enc sz C.B C.w0 v xs) {i:Nat} (h1:i<xs.length) (z:α) {j:Nat} {u:Value} (hu:lget (enc (xs.getD i z)) j=some u):Cell C H (prt (elt v i sz) j) u:=by
 rw [lget_eq] at hu
 rw [prt_eq,elt_eq]
 exact h.cellNat (getD_some h1 z) hu
theorem RdF.cell0 {α:Type} {enc:α→List Value} {sz:Nat} {v:Value} {xs:List α} (h:RdF enc sz C.B C.w0 v xs) {i:Nat} (h1:i<xs.length) (z:α) {u:Value} (hu:lget (enc (xs.getD i z)) 0=some u):Cell C H (elt v i sz) u:=by
 rw [lget_eq] at hu
 have:=h.cellNat (H:=H) (getD_some h1 z) hu
 rw [elt_eq]
 simpa [Addr.add] using this
theorem RdF.cells {α:Type} {enc:α→List Value} {sz:Nat} {v:Value} {xs:List α} (h:RdF enc sz C.B C.w0 v xs) {i:Nat} (h1:i<xs.length) (z:α):Cells C H (elt v i sz) (enc (xs.getD i z)) :=
 fun _ _ hu=>by rw [elt_eq];exact h.cellNat (getD_some h1 z) hu
def encI (n:Int):List Value:=[.int .i64 n]
def encP (r:Int × Int):List Value:=[.int .i64 r.1,.int .i64 r.2]
def encV (v:Value):List Value:=[v]
structure RdR {α:Type} (enc:α→List Value) (sz:Nat) (B:Nat) (w:World) (v:Value) (rv:List Value) (xss:List (List α)):Prop where
 out:RdF encV 1 B w v rv
 len:rv.length=xss.length
 row':∀ i,i<xss.length→RdF enc sz B w (rv.getD i undef) (xss.getD i [])
theorem RdR.row {α:Type} {enc:α→List Value} {sz B:Nat} {w:World} {v:Value} {rv:List Value} {xss:List (List α)} (h:RdR enc sz B w v rv xss) (i:Nat) (h1:i<xss.length):RdF enc sz B w (rv.getD i undef) (xss.getD i []):=h.row' _ h1
theorem RdR.sl {α:Type} {enc:α→List Value} {sz B:Nat} {w:World} {v:Value} {rv:List Value} {xss:List (List α)} (h:RdR enc sz B w v rv xss):IsSl v xss.length:=h.len▸h.out.sl
theorem RdF.later {α:Type} {enc:α→List Value} {sz:Nat} {v:Value} {xs:List α} {L:List HP} {w:World} (h:RdF enc sz C.B C.w0 v xs) (hi:Inv C.w0 C.M (L++H) w):RdF enc sz w.heap.size w v xs :=
 ⟨h.sl,fun hl=>Nat.lt_of_lt_of_le (h.blk hl) (Nat.le_trans C.hB hi.size),fun _ _ hx _ _ hu=>(h.cellNat (H:=H) hx hu) L w hi⟩
theorem RdR.later {α:Type} {enc:α→List Value} {sz:Nat} {v:Value} {rv:List Value} {xss:List (List α)} {L:List HP} {w:World} (h:RdR enc sz C.B C.w0 v rv xss) (hi:Inv C.w0 C.M (L++H) w):RdR enc sz w.heap.size w v rv xss :=
 ⟨h.out.later hi,h.len,fun i hl=>(h.row' i hl).later hi⟩
end rules
end
end Go.TH
namespace Go.TH
open Go
section
variable {P:Program}
def Ct (P:Program) (f:FuncId) (args:Array Value) (w:World) (R:Value→World→Prop):Prop:=CallsIn Fence.wide 0 P f args w fun e w'=>∃ v,e=.returned v∧R v w'
theorem Ct.mono {f:FuncId} {args:Array Value} {w:World} {R R':Value→World→Prop} (h:Ct P f args w R) (hR:∀ v w',R v w'→R' v w'):Ct P f args w R' :=
 CallsIn.mono h fun _ _ ⟨v,e,r⟩=>⟨v,e,hR _ _ r⟩
theorem callsIn_round {ro:Option Nat} {n:Nat} {f:FuncId} {args:Array Value} {w:World} {R:Ending→World→Prop} (h:CallsIn Fence.wide n P f args w R):CallsIn { Fence.wide with round:=ro } n P f args w R:=h
theorem handed {w0 w:World} {M:List Nat} {Hp Hr:List HP} (hi:Inv w0 M (Hp++Hr) w):∃ (M':List Nat) (h1 h2:TH.Hp),Split (own w0 M w) h1 h2∧sat Hp h1∧sat Hr h2∧(∀ k,k∈M'↔h1 k≠none):=by
 obtain ⟨h1,h2,s,a,b⟩:=sat_app hi.mine
 refine ⟨(List.range w.heap.size).filter (fun k=>(h1 k).isSome),h1,h2,s,a,b,fun k=>?_⟩
 simp only [List.mem_filter,List.mem_range]
 constructor
 ·rintro ⟨_,h⟩ e;rw [e] at h;cases h
 ·intro h
  obtain ⟨o,ho⟩:=Option.ne_none_iff_exists'.1 h
  refine ⟨?_,by rw [ho];rfl⟩
  have e:own w0 M w k=some o:=by
   rcases s k with ⟨x,_⟩ | ⟨_,y⟩
   ·exact absurd x h
   ·rw [y,ho]
  unfold own at e
  split at e
  ·cases e
  ·exact (Array.getElem?_eq_some_iff.1 e).1
theorem handed_own {w0 w:World} {M M':List Nat} {h1 h2:TH.Hp} (s:Split (own w0 M w) h1 h2) (hM:∀ k,k∈M'↔h1 k≠none):∀ k,k∈M'→(w0.heap.size≤k∨k∈M)∧w.heap[k]?=h1 k:=by
 intro k hk
 have e:=(hM k).1 hk
 have e1:own w0 M w k=h1 k:=by
  rcases s k with ⟨a,_⟩ | ⟨_,b⟩
  ·exact absurd a e
  ·exact b
 unfold own at e1
 split at e1
 ·exact absurd e1.symm e
 ·rename_i hn
  refine ⟨?_,e1⟩
  by_cases hb:w0.heap.size≤k
  ·exact .inl hb
  ·exact .inr (Decidable.byContradiction fun hm=>hn ⟨by omega,hm⟩)
theorem handed_start {w0 w:World} {M M':List Nat} {Hp:List HP} {h1 h2:TH.Hp} (s:Split (own w0 M w) h1 h2) (a:sat Hp h1) (hM:∀ k,k∈M'↔h1 k≠none):Inv w M' Hp w:=by
 refine ⟨rfl,rfl,rfl,Nat.le_refl _,fun _ _ _=>rfl,sat_sub Hp (fun k o ho=>?_) a⟩
 have hk:k∈M':=(hM k).2 (by rw [ho];simp)
 have:=(handed_own s hM k hk).2
 unfold own
 rw [if_neg (fun h=>h.2 hk),this,ho]
theorem handed_back {w0 w w':World} {M M':List Nat} {Hr Hq:List HP} {h1 h2:TH.Hp} (hi:Inv w0 M [] w) (s:Split (own w0 M w) h1 h2) (b:sat Hr h2) (hM:∀ k,k∈M'↔h1 k≠none) (h':Inv w M' Hq w'):Inv w0 M (Hq++Hr) w':=by
 have hsz:=hi.size
 refine ⟨h'.os.trans hi.os,h'.tape.trans hi.tape,h'.output.trans hi.output,Nat.le_trans hi.size h'.size,fun k hk hm=>?_,?_⟩
 ·have hn:k ∉ M':=fun x=>by rcases (handed_own s hM k x).1 with y | y;omega;exact hm y
  rw [h'.keep k (by omega) hn];exact hi.keep k hk hm
 ·refine sat_join (h1:=own w M' w') (h2:=fun k=>if k<w.heap.size∧k ∉ M' then own w0 M w k else none) (fun k=>?_) h'.mine (sat_sub Hr (fun k o ho=>?_) b)
  ·by_cases c:k<w.heap.size∧k ∉ M'
   ·left
    refine ⟨by unfold own;rw [if_pos c],?_⟩
    show own w0 M w' k=if k<w.heap.size∧k ∉ M' then own w0 M w k else none
    rw [if_pos c]
    have:=h'.keep k c.1 c.2
    unfold own;rw [this]
   ·right
    refine ⟨if_neg c,?_⟩
    have:¬ (k<w0.heap.size∧k ∉ M):=by
     rintro ⟨x,y⟩
     by_cases hk:k∈M'
     ·rcases (handed_own s hM k hk).1 with z | z;omega;exact y z
     ·exact c ⟨by omega,hk⟩
    unfold own;rw [if_neg this,if_neg c]
  ·have e1:h1 k=none:=by
    rcases s k with ⟨x,_⟩ | ⟨x,_⟩
    ·exact x
    ·rw [ho] at x;cases x
   have hk:k ∉ M':=fun x=>(hM k).1 x e1
   have e2:own w0 M w k=some o:=by
    rcases s k with ⟨_,y⟩ | ⟨x,_⟩
    ·rw [y,ho]
    ·rw [ho] at x;cases x
   have hlt:k<w.heap.size:=by
    have e3:=e2
    unfold own at e3
    split at e3
    ·cases e3
    ·exact (Array.getElem?_eq_some_iff.1 e3).1
   show (if k<w.heap.size∧k ∉ M' then own w0 M w k else none)=some o
   rw [if_pos ⟨hlt,hk⟩,e2]
variable {C:Cx P} {E:Env} {H:List HP}
theorem uponIn_enter_of {F:Fence} {n:Nat} {o:Oper} {a:Act} {K:Act→World→Prop} {Q:Exit→Act→World→Prop} {f:FuncId} {args:Array Value} {w:World} {r:Option Nat} {R:Value→World→Prop} (hF:F={ Fence.wide with round:=r }) (hn:n=0)
 (h:Ct P f args w R) (hK:∀ v w',R v w'→K (a.put o.dst v) w'):o.uponIn F n P a K Q (.ok (.enter f args) w):=by
 subst hF;subst hn
 refine ⟨fun h=>by simp [Fence.wide] at h,?_⟩
 refine CallsIn.mono (callsIn_round (ro:=r) h) ?_
 rintro e w' ⟨v,rfl,hv⟩
 exact hK v w' hv
def evs (E:Env):List Operand→Option (List Value)
 | []=>some []
 | x::r=>match ev E x,evs E r with | some v,some vs=>some (v::vs) | _,_=>none
theorem evs_map {N:Nat} {a:Act} (hf:Fr N E a):∀ {xs:List Operand} {vs:List Value},evs E xs=some vs→xs.map a.eval=vs
 | [],vs,h=>by simp [evs] at h;simp [h]
 | x::r,vs,h=>by
  simp only [evs] at h
  cases hx:ev E x with
  | none=>simp [hx] at h
  | some v =>
   cases hr:evs E r with
   | none=>simp [hx,hr] at h
   | some us =>
    simp [hx,hr] at h
    subst h
    simp [hf.eval hx,evs_map hf hr]
theorem XO.callF {X:Value→List HP→Prop} {dst:Option Tmp} {x:Operand} {xs:List Operand} {ats:Array TypeId} {ty:TypeId} {pos:String} {af:Array Edge} {f:FuncId} {first captured:Array Value} {vs:List Value} {Hp Hr:List HP} {Post:Value→List HP→Prop}
 (hf:ev E x=some (.func (.func f) first captured)) (hxs:evs E xs=some vs) (hcall:∀ (args:Array Value) (w:World),(callFunc f args).run P w=.ok (.enter f args) w)
 (hH:Sub H (Hp++Hr))
 (hspec:∀ (L:List HP) w M',Inv C.w0 C.M (L++H) w→(∀ b∈M',C.w0.heap.size≤b∨b∈C.M)→Inv w M' Hp w→Ct P f (first++vs.toArray++captured) w fun v w'=>∃ Hq,Post v Hq∧Inv w M' Hq w')
 (h:∀ v Hq,Post v Hq→X v (Hq++Hr)):XO C ⟨dst,.call ⟨.value x,xs.toArray,ats⟩,ty,pos,af,none⟩ X E H:=by
 intro L a w hfr hi
 refine ⟨fun _ _=>trivial,?_⟩
 rw [Oper.semAt_eq _ _ _ (by simp)]
 have hev:(execOp a.eval ⟨dst,.call ⟨.value x,xs.toArray,ats⟩,ty,pos,af,none⟩).run P w=.ok (.enter f (first++vs.toArray++captured)) w:=by
  have:=evs_map hfr hxs
  simp [execOp,resolve,hfr.eval hf,Deferred.ofValue,invoke,this,hcall]
 rw [hev]
 have hi2:Inv C.w0 C.M (Hp++(L++Hr)) w:=by
  refine hi.sub ?_
  have s1:=hH.app L
  refine Sub.trans s1 ?_
  exact Sub.rot L Hp Hr
 obtain ⟨M',h1,h2,s,pa,pb,hM⟩:=handed hi2
 refine uponIn_enter_of (r:=C.ro) rfl rfl (hspec L w M' hi (fun b hb=>(handed_own s hM b hb).1) (handed_start s pa hM)) ?_
 rintro v w' ⟨Hq,hq,hi'⟩
 refine ⟨v,Hq++Hr,h v Hq hq,rfl,?_⟩
 have:=handed_back (hi.sub .nil) s pb hM hi'
 exact this.sub (Sub.rot' L Hq Hr)
end
end Go.TH
namespace Go.TH
open Go
section
variable {P:Program} {C:Cx P} {E:Env} {H:List HP}
def Res (C:Cx P) (fn:Func) (E:Env) (H:List HP) (v:Value):Prop:=∀ (L:List HP) a w,Fr C.N E a→Inv C.w0 C.M (L++H) w→(results fn a.tmps).run P w=.ok v w
def rvS (tmps:Array Value) (r:ResultVar):Sem Value:=match r with | .tmp t=>Pure.pure (tmps.getD t undef) | .cell b t=>do loadVar t (← asAddr (tmps.getD b undef))
theorem results_rvS (fn:Func) (tmps:Array Value):results fn tmps=(do let vs ← fn.results.mapM (rvS tmps);pure (if h:vs.size=1 then vs[0] else .tuple vs)):=rfl
def RV (C:Cx P) (E:Env) (H:List HP) (r:ResultVar) (v:Value):Prop:=∀ (L:List HP) a w,Fr C.N E a→Inv C.w0 C.M (L++H) w→(rvS a.tmps r).run P w=.ok v w
theorem RV.tmp {t:Nat} {v:Value} (h:lk E t=some v):RV C E H (.tmp t) v:=fun L a w hf _=>by
 have:=hf.get t v h
 simp [rvS,Array.getD_eq_getD_getElem?,this]
theorem RV.cell {b:Nat} {t:TypeId} {p:Addr} {n:Nat} {vs:List Value} (h:lk E b=some (.pointer (some p))) (hT:C.tt.ag? t=some n) (hl:vs.length=n) (hc:Cells C H p vs):RV C E H (.cell b t) (.agg vs.toArray):=fun L a w hf hi=>by
 have:=hf.get b _ h
 simp [rvS,Array.getD_eq_getD_getElem?,this,asAddr,run_loadVarA (AT.of hT) hl (fun j v hv=>hc j v hv L w hi)]
theorem RV.cell1 {b:Nat} {t:TypeId} {p:Addr} {v:Value} (h:lk E b=some (.pointer (some p))) (hT:C.tt.one? t=true) (hc:Cell C H p v):RV C E H (.cell b t) v:=fun L a w hf hi=>by
 have:=hf.get b _ h
 simp [rvS,Array.getD_eq_getD_getElem?,this,asAddr,run_loadVar1 (CT.of hT) (hc L w hi)]
theorem Res.none {fn:Func} (hr:fn.results=#[]):Res C fn E H (.tuple #[]):=fun L a w hf hi=>by simp [results_rvS,hr]
theorem Res.one {fn:Func} {r:ResultVar} {v:Value} (hr:fn.results=#[r]) (h:RV C E H r v):Res C fn E H v:=fun L a w hf hi=>by
 simp [results_rvS,hr,h L a w hf hi]
theorem Res.two {fn:Func} {r s:ResultVar} {u v:Value} (hr:fn.results=#[r,s]) (h1:RV C E H r u) (h2:RV C E H s v):Res C fn E H (.tuple #[u,v]):=fun L a w hf hi=>by
 simp [results_rvS,hr,h1 L a w hf hi,h2 L a w hf hi]
theorem Res.three {fn:Func} {r s t:ResultVar} {u v x:Value} (hr:fn.results=#[r,s,t]) (h1:RV C E H r u) (h2:RV C E H s v) (h3:RV C E H t x):Res C fn E H (.tuple #[u,v,x]):=fun L a w hf hi=>by
 simp [results_rvS,hr,h1 L a w hf hi,h2 L a w hf hi,h3 L a w hf hi]
def fin (C:Cx P) (fn:Func) (Pst:Value→List HP→Prop):Post
 | .normal,E,H | .ret,E,H=>∃ v,Res C fn E H v∧Pst v H
 | _,_,_=>False
theorem fin.ret {fn:Func} {Pst:Value→List HP→Prop} {v:Value} (h:Res C fn E H v) (p:Pst v H):fin C fn Pst .ret E H:=⟨v,h,p⟩
theorem fin.normal {fn:Func} {Pst:Value→List HP→Prop} {v:Value} (h:Res C fn E H v) (p:Pst v H):fin C fn Pst .normal E H:=⟨v,h,p⟩
theorem leaves_marks {fn:Func} {tmps:Array Value} {R:Ending→World→Prop} {w0:World} {M:List Nat} {F:Fence} {n:Nat}:∀ (ds:List Nat) (H:List HP) (w:World),Inv w0 M (ds.map ptd++H) w →
 (∀ w',Inv w0 M H w'→∃ v,(results fn tmps).run P w'=.ok v w'∧R (.returned v) w')→LeavesInM F n P fn tmps R (ds.map mark) .returning w
 | [],H,w,hi,h=>h w hi
 | r::ds,H,w,hi,h=>by
  have hl:=(hi.look (b:=r) (o:=.deferred (some [])) .head).1
  refine ⟨by simp,.inl ⟨r,{ w with heap:=w.heap.setIfInBounds r (.deferred none) },rfl,?_,?_⟩⟩
  ·have:r<w.heap.size:=(Array.getElem?_eq_some_iff.1 hl).1
   simp only [Instr.takeDeferred,Sem.run_bind]
   simp [getObj,setObj,Sem.run,hl,Result.andThen]
  ·refine leaves_marks ds H _ ?_ h
   have hlt:r<w.heap.size:=(Array.getElem?_eq_some_iff.1 hl).1
   have hs:=hi.set (b:=r) (o:=.deferred (some [])) (o':=.deferred none) (H':=ds.map ptd++H) (w':={ w with heap:=w.heap.setIfInBounds r (.deferred none) }) .head rfl rfl rfl (by simp) (by simp [hlt]) (fun k hk=>by simp [Array.getElem?_setIfInBounds_ne (Ne.symm hk)])
   exact hs.sub (Sub.drop _ _)
theorem Ct.of_W {f:FuncId} {fn:Func} {c:Code} {args:Array Value} {w:World} {M:List Nat} {Hp:List HP} {Pst:Value→List HP→Prop} {E:Env} (C:Cx P) (hro:C.ro=none) (hw:C.w0=w) (hM:C.M=M)
 (hf:P.funcs[f]?=some fn) (hb:fn.body=some c) (hN:fn.ntmps=C.N) (ha:args.size≤C.N) (hE:∀ t v,lk E t=some v→args[t]?=some v)
 (h:W C c (fin C fn Pst) E Hp) (hi:Inv w M Hp w):Ct P f args w fun v w'=>∃ Hq,Pst v Hq∧Inv w M Hq w':=by
 subst hw;subst hM
 have hF:C.F=Fence.wide:=by unfold Cx.F;rw [hro];rfl
 refine callsIn_of_wp_marks hf hb trivial ?_
 have h0:=h [] [] { tmps:=args++Array.replicate (fn.ntmps-args.size) undef,defers:=[] } C.w0 ⟨rfl,⟨by simp;omega,fun t v hv=>?_⟩,hi⟩
 ·rw [hF] at h0
  refine wpIn_mono h0 ?_
  rintro e a' w' ⟨ds,E',H',q,s⟩
  cases e <;> simp only [fin] at q <;> try exact q.elim
  all_goals
   obtain ⟨v,hr,hp⟩:=q
   show LeavesInM _ _ _ _ _ _ a'.defers .returning w'
   rw [s.defers]
   exact leaves_marks ds H' w' (by simpa using s.inv) fun w'' hi''=>⟨v,hr [] a' w'' s.fr hi'',v,rfl,H',hp,hi''⟩
 ·have h1:=hE t v hv
  rw [Array.getElem?_append_left (Array.getElem?_eq_some_iff.1 h1).1]
  exact h1
end
end Go.TH
namespace Go.TH
open Go
section
variable {P:Program} {C:Cx P} {E:Env} {H:List HP}
theorem W.cond_bl {Q:Post} {c:Operand} {x y:Code} {p:Prop} [Decidable p] (hc:ev E c=some (.bool (bl p))) (ht:p→W C x Q E H) (hf:¬ p→W C y Q E H):W C (.cond c x y) Q E H :=
  W.cond hc (fun e=>ht (bl_t.1 e)) (fun e=>hf (bl_f.1 e))
theorem W.cond_nbl {Q:Post} {c:Operand} {x y:Code} {p:Prop} [Decidable p] (hc:ev E c=some (.bool (!(bl p)))) (ht:¬ p→W C x Q E H) (hf:p→W C y Q E H):W C (.cond c x y) Q E H :=
  W.cond hc (fun e=>ht (bl_f.1 (by simpa using e))) (fun e=>hf (bl_t.1 (by simpa using e)))
theorem WO.part_bl {ops:Array Oper} {K:KP} {l:List Oper} {dj:Nat} {p:Prop} [Decidable p] (hb:lk E dj=some (.bool (bl p)))
    (ht:p→WO C ops l K ((dj,.bool true)::E) H) (hf:¬ p→WO C ops l K ((dj,.bool false)::E) H):WO C ops l K E H :=
  WO.part hb (fun e=>ht (bl_t.1 e)) (fun e=>hf (bl_f.1 e))
theorem WO.part_nbl {ops:Array Oper} {K:KP} {l:List Oper} {dj:Nat} {p:Prop} [Decidable p] (hb:lk E dj=some (.bool (!(bl p))))
    (ht:¬ p→WO C ops l K ((dj,.bool true)::E) H) (hf:p→WO C ops l K ((dj,.bool false)::E) H):WO C ops l K E H :=
  WO.part hb (fun e=>ht (bl_f.1 (by simpa using e))) (fun e=>hf (bl_t.1 (by simpa using e)))
def Ret (P:Program) (f:FuncId) (args:Array Value) (w:World) (r:Value):Prop:=Ct P f args w fun v w'=>∃ Hq,(v=r∧Hq=[])∧Inv w [] Hq w'
section rules
variable {ops:Array Oper} {K:KP} {rest:List Oper} {d:Nat} {ty:TypeId} {pos:String} {af:Array Edge} {x:Operand} {xs:List Operand} {ats:Array TypeId} {f:FuncId} {vs:List Value}
theorem WO.call {Post:Value→List HP→Prop} (hxs:evs E xs=some vs) (hcall:∀ (args:Array Value) (w:World),(callFunc f args).run P w=.ok (.enter f args) w)
    (hspec:∀ (L:List HP) w,Inv C.w0 C.M (L++H) w→Ct P f vs.toArray w fun v w'=>∃ Hq,Post v Hq∧Inv w [] Hq w') (hN:Nat.blt d C.N=true)
    (h:∀ v Hq,Post v Hq→WO C ops rest K ((d,v)::E) (Hq++H)):WO C ops (⟨some d,.call ⟨.value (.func f),xs.toArray,ats⟩,ty,pos,af,none⟩::rest) K E H:=by
  refine WO.step rfl rfl hN (XO.callF (Hp:=[]) (Hr:=H) (Post:=Post) (first:=#[]) (captured:=#[]) rfl hxs hcall (Sub.refl _) (fun L w M' hi _ _=>?_) h)
  have hc:=hspec L w hi
  simp only [List.nil_append,Array.append_empty,Array.empty_append]
  refine hc.mono fun v w' ⟨Hq,hp,hi'⟩=>⟨Hq,hp,?_⟩
  exact ⟨hi'.os,hi'.tape,hi'.output,hi'.size,fun k hk _=>hi'.keep k hk (by simp),sat_sub Hq (fun k o ho=>by
    unfold own at ho ⊢
    split at ho
    · cases ho
    · rename_i hn
      rw [if_neg (fun hh=>hn ⟨hh.1,by simp⟩)];exact ho) hi'.mine⟩
theorem WO.callR {r:Value} (hxs:evs E xs=some vs) (hcall:∀ (args:Array Value) (w:World),(callFunc f args).run P w=.ok (.enter f args) w)
    (hspec:∀ (L:List HP) w,Inv C.w0 C.M (L++H) w→Ret P f vs.toArray w r) (hN:Nat.blt d C.N=true)
    (h:WO C ops rest K ((d,r)::E) H):WO C ops (⟨some d,.call ⟨.value (.func f),xs.toArray,ats⟩,ty,pos,af,none⟩::rest) K E H :=
  WO.call hxs hcall hspec hN fun v Hq ⟨e1,e2⟩=>by subst e1;subst e2;exact h
end rules
def fnCx (hm:P.follows .mixedOrders=true) (tt:TTab P) (N:Nat) (w:World):Cx P:=⟨none,N,w,[],w.heap.size,Nat.le_refl _,by simp,hm,tt⟩
theorem Ret.of_W {f:FuncId} {fn:Func} {c:Code} {args:Array Value} {w:World} {r:Value} {E:Env} (hm:P.follows .mixedOrders=true) (tt:TTab P)
    (hf:P.funcs[f]?=some fn) (hb:fn.body=some c) (ha:args.size≤fn.ntmps) (hE:∀ t v,lk E t=some v→args[t]?=some v)
    (h:W (fnCx hm tt fn.ntmps w) c (fin (fnCx hm tt fn.ntmps w) fn (fun v _=>v=r)) E []):Ret P f args w r:=by
  have:=Ct.of_W (M:=[]) (Hp:=[]) (Pst:=fun v _=>v=r) (fnCx hm tt fn.ntmps w) rfl rfl rfl hf hb rfl ha hE h ⟨rfl,rfl,rfl,Nat.le_refl _,fun _ _ _=>rfl,trivial⟩
  exact this.mono fun v w' ⟨Hq,e,hi⟩=>⟨[],⟨e,rfl⟩,hi.sub .nil⟩
def afs (o:Oper):List Nat:=o.after.toList.filterMap fun e=>if Region.binds .any e then some e.on else none
structure SE where
  ix:Nat
  d:Nat
  v:Value
def selE (af:List Nat) (E0:Env):List SE→Env
  | []=>E0
  | s::r=>bif af.elem s.ix then (s.d,s.v)::selE af E0 r else selE af E0 r
def allE (E0:Env):List SE→Env
  | []=>E0
  | s::r=>(s.d,s.v)::allE E0 r
def delE (ds:List Nat):Env→Env
  | []=>[]
  | (k,v)::r=>bif ds.elem k then delE ds r else (k,v)::delE ds r
theorem lk_delE {ds:List Nat}:∀ {E:Env} {t:Nat} {v:Value},lk (delE ds E) t=some v→lk E t=some v∧t ∉ ds
  | [],_,_,h=>by simp [delE,lk] at h
  | (k,u)::r,t,v,h=>by
    simp only [delE] at h
    cases he:ds.elem k with
    | true =>
      rw [he] at h
      simp only [cond_true] at h
      obtain ⟨h1,h2⟩:=lk_delE h
      refine ⟨?_,h2⟩
      simp only [lk]
      cases hb:Nat.beq k t with
      | true=>have:=Nat.eq_of_beq_eq_true hb;subst this;exact absurd (by simpa using he) h2
      | false=>simpa using h1
    | false =>
      rw [he] at h
      simp only [cond_false,lk] at h ⊢
      cases hb:Nat.beq k t with
      | true=>rw [hb] at h;have:=Nat.eq_of_beq_eq_true hb;subst this;exact ⟨by simpa using h,by simpa using he⟩
      | false=>rw [hb] at h;simp only [cond_false] at h ⊢;exact lk_delE h
theorem lk_selE {af:List Nat} {E0:Env}:∀ {sp:List SE} {t:Nat} {u:Value},lk (selE af E0 sp) t=some u→(∃ s∈sp,s.ix∈af∧s.d=t∧s.v=u)∨lk E0 t=some u
  | [],_,_,h=>.inr h
  | s::r,t,u,h=>by
    simp only [selE] at h
    cases he:af.elem s.ix with
    | false => rw [he] at h; rcases lk_selE h with ⟨s', h1, h2⟩ | h1
               · exact .inl ⟨s',by simp [h1],h2⟩
               · exact .inr h1
    | true =>
      rw [he] at h
      simp only [cond_true,lk] at h
      cases hb:Nat.beq s.d t with
      | true=>rw [hb] at h;exact .inl ⟨s,by simp,by simpa using he,Nat.eq_of_beq_eq_true hb,by simpa using h⟩
      | false =>
        rw [hb] at h
        rcases lk_selE h with ⟨s',h1,h2⟩ | h1
        · exact .inl ⟨s',by simp [h1],h2⟩
        · exact .inr h1
theorem lk_allE {E0:Env}:∀ {sp:List SE} {t:Nat} {u:Value},lk (allE E0 sp) t=some u→(∃ s∈sp,s.d=t∧s.v=u)∨lk E0 t=some u
  | [],_,_,h=>.inr h
  | s::r,t,u,h=>by
    simp only [allE,lk] at h
    cases hb:Nat.beq s.d t with
    | true=>rw [hb] at h;exact .inl ⟨s,by simp,Nat.eq_of_beq_eq_true hb,by simpa using h⟩
    | false =>
      rw [hb] at h
      rcases lk_allE h with ⟨s',h1,h2⟩ | h1
      · exact .inl ⟨s',by simp [h1],h2⟩
      · exact .inr h1
inductive Qu (C:Cx P) (ops:Array Oper) (E0:Env) (H:List HP):List SE→List Oper→List SE→Prop
  | nil {pre:List SE}:Qu C ops E0 H pre [] pre
  | cons {pre sp:List SE} {o:Oper} {l:List Oper} {v:Value} {d k:Nat} (hd:o.dst=some d) (hN:Nat.blt d C.N=true) (hk:pre.length=k)
      (h:WO C ops [o] (fun E' H'=>E'=(d,v)::selE (afs o) E0 pre∧H'=H) (selE (afs o) E0 pre) H) (r:Qu C ops E0 H (⟨k,d,v⟩::pre) l sp):Qu C ops E0 H pre (o::l) sp
theorem wpIn_put {F:Fence} {n:Nat} {o:Oper} {a:Act} {w:World} {K:Act→World→Prop} {Q:Exit→Act→World→Prop} (hh:o.wpIn F n P a w K Q) :
    o.wpIn F n P a w (fun a' w'=>K a' w'∧∃ u,a'.tmps=(a.put o.dst u).tmps) Q:=by
  unfold Oper.wpIn at *
  refine ⟨hh.1,?_⟩
  have hh:=hh.2
  have e:∀ (d:List Deferred) u,(({ a with defers:=d }:Act).put o.dst u).tmps=(a.put o.dst u).tmps:=fun d u=>by cases o.dst <;> rfl
  generalize (o.semAt F.round a.eval).run P w=r at *
  cases r with
  | ok x w' =>
    cases x <;> simp only [Oper.uponIn] at hh ⊢ <;>
      first
        | exact ⟨hh,_,rfl⟩
        | exact ⟨hh,_,e _ _⟩
        | exact ⟨hh.1,CallsIn.mono hh.2 (fun e w'' he=>by cases e <;> first | exact ⟨he,_,rfl⟩ | exact he)⟩
        | exact ⟨hh.1,RowsIn.mono hh.2 (fun _ _ he=>⟨he,_,rfl⟩)⟩
        | exact ⟨hh.1,RoundIn.mono hh.2 (fun e w'' he=>by cases e <;> first | exact ⟨he,_,rfl⟩ | exact he)⟩
  | halt x w'=>cases x <;> simp only [Oper.uponIn] at hh ⊢ <;> exact hh
theorem getD_set (ls:Array Bool) (i j:Nat) (hi:i<ls.size):(ls.setIfInBounds i true).getD j true=(ls.getD j true||(i==j)):=by
  by_cases e:i=j
  · subst e;simp [Array.getD_eq_getD_getElem?,hi]
  · simp [Array.getD_eq_getD_getElem?,Array.getElem?_setIfInBounds_ne e,e]
theorem count_set:∀ (ls:List Bool) (i:Nat),ls[i]?=some false→(ls.set i true).count false+1=ls.count false
  | [],i,h=>by simp at h
  | b::ls,0,h=>by simp at h;subst h;simp
  | b::ls,i+1,h=>by
    have:=count_set ls i (by simpa using h)
    simp only [List.set_cons_succ,List.count_cons]
    omega
section
variable {ops:Array Oper} {E0:Env} {tail:List Oper} {K:KP} {pre:List SE} {o:Oper} {l:List Oper} {d k:Nat}
end
def enumE:Nat→List Value→Env
  | _,[]=>[]
  | k,v::r=>(k,v)::enumE (k+1) r
theorem lk_enumE:∀ (vs:List Value) (k t:Nat) (v:Value),lk (enumE k vs) t=some v→k≤t∧vs[t-k]?=some v
  | [],_,_,_,h=>by simp [enumE,lk] at h
  | u::r,k,t,v,h=>by
    simp only [enumE,lk] at h
    cases hb:Nat.beq k t with
    | true=>rw [hb] at h;have:=Nat.eq_of_beq_eq_true hb;subst this;simp at h;subst h;simp
    | false =>
      rw [hb] at h
      simp only [cond_false] at h
      obtain ⟨h1,h2⟩:=lk_enumE r (k+1) t v h
      refine ⟨by omega,?_⟩
      have:t-k=(t-(k+1))+1:=by omega
      rw [this];simpa using h2
theorem Ret.of {f:FuncId} {fn:Func} {c:Code} {vs:List Value} {w:World} {r:Value} (hm:P.follows .mixedOrders=true) (tt:TTab P)
    (hf:P.funcs[f]?=some fn) (hb:fn.body=some c) (ha:Nat.ble vs.length fn.ntmps=true)
    (h:W (fnCx hm tt fn.ntmps w) c (fin (fnCx hm tt fn.ntmps w) fn (fun v _=>v=r)) (enumE 0 vs) []):Ret P f vs.toArray w r :=
  Ret.of_W hm tt hf hb (by simpa using Nat.ble_eq.mp ha) (fun t v hv=>by
    have:=lk_enumE vs 0 t v hv
    simpa using this.2) h
theorem Ct.of {f:FuncId} {fn:Func} {c:Code} {vs:List Value} {w:World} {Pst:Value→List HP→Prop} (hm:P.follows .mixedOrders=true) (tt:TTab P)
    (hf:P.funcs[f]?=some fn) (hb:fn.body=some c) (ha:Nat.ble vs.length fn.ntmps=true)
    (h:W (fnCx hm tt fn.ntmps w) c (fin (fnCx hm tt fn.ntmps w) fn Pst) (enumE 0 vs) []):Ct P f vs.toArray w fun v w'=>∃ Hq,Pst v Hq∧Inv w [] Hq w' :=
  Ct.of_W (M:=[]) (Hp:=[]) (fnCx hm tt fn.ntmps w) rfl rfl rfl hf hb rfl (by simpa [fnCx] using Nat.ble_eq.mp ha) (fun t v hv=>by
    have:=lk_enumE vs 0 t v hv
    simpa using this.2) h ⟨rfl,rfl,rfl,Nat.le_refl _,fun _ _ _=>rfl,trivial⟩
section
variable {ops:Array Oper} {K:KP} {dst:Option Tmp} {op:Op} {ty:TypeId} {pos:String} {af:Array Edge} {rest:List Oper} {j dj:Nat} {want:Bool} {p:Prop} [Decidable p]
theorem WO.guard_bl (hj:(ops[j]?).bind (·.dst)=some dj) (hb:lk E dj=some (.bool (bl p)))
    (ht:p→WO C ops (⟨dst,op,ty,pos,af,some (j,want)⟩::rest) K ((dj,.bool true)::E) H) (hf:¬ p→WO C ops (⟨dst,op,ty,pos,af,some (j,want)⟩::rest) K ((dj,.bool false)::E) H):WO C ops (⟨dst,op,ty,pos,af,some (j,want)⟩::rest) K E H :=
  WO.part_bl hb ht hf
theorem WO.guard_nbl (hj:(ops[j]?).bind (·.dst)=some dj) (hb:lk E dj=some (.bool (!(bl p))))
    (ht:¬ p→WO C ops (⟨dst,op,ty,pos,af,some (j,want)⟩::rest) K ((dj,.bool true)::E) H) (hf:p→WO C ops (⟨dst,op,ty,pos,af,some (j,want)⟩::rest) K ((dj,.bool false)::E) H):WO C ops (⟨dst,op,ty,pos,af,some (j,want)⟩::rest) K E H :=
  WO.part_nbl hb ht hf
end
end
end Go.TH
namespace Go.TH
open Go
section
variable {P:Program} {C:Cx P} {E:Env} {H:List HP}
def kEq:IntKind→IntKind→Bool
 | .i64,.i64=>true
 | .u8,.u8=>true
 | .i32,.i32=>true
 | .u32,.u32=>true
 | .u64,.u64=>true
 | _,_=>false
theorem kEq_eq {k k':IntKind} (h:kEq k k'=true):k=k':=by unfold kEq at h;split at h <;> simp_all
def cmpV (op:BinOp) (a b:Int):Option Value :=
 match op with
 | .lss=>some (.bool (bl (a<b)))
 | .leq=>some (.bool (bl (a≤b)))
 | .gtr=>some (.bool (bl (b<a)))
 | .geq=>some (.bool (bl (b≤a)))
 | .eql=>some (.bool (bl (a=b)))
 | .neq=>some (.bool (bl (a≠b)))
 | _=>none
def pstep (E:Env):Op→Option Value
 | .move x=>ev E x
 | .assign x=>ev E x
 | .pick c a b=>match ev E c with
  | some (.bool true)=>ev E a
  | some (.bool false)=>ev E b
  | _=>none
 | .extract x i=>match ev E x with
  | some (.tuple vs)=>lget vs.toList i
  | _=>none
 | .nilCheck x=>match ev E x with
  | some (.pointer (some p))=>some (.pointer (some p))
  | some (.func (.func f) a b)=>some (.func (.func f) a b)
  | _=>none
 | .binOp op _ x y _=>match ev E x,ev E y with
  | some (.int k a),some (.int k' b)=>bif kEq k k' then cmpV op a b else none
  | _,_=>none
 | .unOp .not _ x=>match ev E x with
  | some (.bool b)=>some (.bool (!b))
  | _=>none
 | .makeFunc (.func f) first captured=>match evs E first.toList,evs E captured.toList with
  | some a,some b=>some (.func (.func f) a.toArray b.toArray)
  | _,_=>none
 | _=>none
theorem run_cmp {op:BinOp} {t:TypeId} {x y:Operand} {k:IntKind} {a b:Int} {v:Value} {w:World} (h:cmpV op a b=some v):(do eqGuard op t x y (.int k a) (.int k b);binOp op t (.int k a) (.int k b):Sem Value).run P w=.ok v w:=by
 unfold cmpV at h
 cases op <;> simp only [Option.some.injEq,reduceCtorEq] at h <;> subst h
 ·simp [eqGuard_at_int,binOp_eql,bl_eq];by_cases e:a=b <;> simp [e]
 ·simp [eqGuard_at_int,binOp_neq,bl_eq];by_cases e:a=b <;> simp [e]
 ·simp [eqGuard_at_int,binOp_lss,bl_eq]
 ·simp [eqGuard_at_int,binOp_leq,bl_eq]
 ·simp [eqGuard_at_int,binOp_gtr,bl_eq]
 ·simp [eqGuard_at_int,binOp_geq,bl_eq]
theorem pstep_ok {op:Op} {v:Value} (h:pstep E op=some v) {N d:Nat} {ty:TypeId} {pos:String} {af:Array Edge} {a:Act} {w:World} (hf:Fr N E a) :
 (execOp a.eval ⟨some d,op,ty,pos,af,none⟩).run P w=.ok (.value v) w:=by
 cases op <;> first | (simp only [pstep,reduceCtorEq] at h;done) | skip
 case move x=>simp only [pstep] at h;simp [execOp,hf.eval h]
 case assign x=>simp only [pstep] at h;simp [execOp,hf.eval h]
 case pick c x y =>
  simp only [pstep] at h
  split at h
  ·rename_i hc;simp [execOp,hf.eval hc,hf.eval h,asBool]
  ·rename_i hc;simp [execOp,hf.eval hc,hf.eval h,asBool]
  ·cases h
 case extract x i =>
  simp only [pstep] at h
  split at h
  ·rename_i vs hx
   rw [lget_eq] at h
   have h':vs[i]?=some v:=by simpa using h
   simp [execOp,hf.eval hx,Instr.extract,h']
  ·cases h
 case nilCheck x =>
  simp only [pstep] at h
  split at h
  ·rename_i p hx;cases h;simp [execOp,hf.eval hx]
  ·rename_i f b c hx;cases h;simp [execOp,hf.eval hx]
  ·cases h
 case binOp op t x y t' =>
  simp only [pstep] at h
  split at h
  ·rename_i k a' k' b hx hy
   cases hk:kEq k k' with
   | false=>rw [hk] at h;cases h
   | true =>
    rw [hk] at h
    have:=kEq_eq hk
    subst this
    have:=run_cmp (P:=P) (t:=t) (x:=x) (y:=y) (k:=k) (w:=w) h
    simp only [Sem.run_bind] at this
    simp only [execOp,hf.eval hx,hf.eval hy,Sem.run_bind]
    rw [this];simp
  ·cases h
 case unOp op t x =>
  cases op <;> simp only [pstep,reduceCtorEq] at h
  split at h
  ·rename_i b hx;cases h;simp [execOp,hf.eval hx,Op.unary]
  ·cases h
 case makeFunc fn first captured =>
  cases fn <;> simp only [pstep,reduceCtorEq] at h
  split at h
  ·rename_i b c h1 h2
   cases h
   have e1:=evs_map hf h1
   have e2:=evs_map hf h2
   have e1':first.map a.eval=b.toArray:=by rw [← e1];exact (Array.toList_inj.1 (by rw [Array.toList_map]))
   have e2':captured.map a.eval=c.toArray:=by rw [← e2];exact (Array.toList_inj.1 (by rw [Array.toList_map]))
   simp [execOp,Instr.makeFunc,e1',e2']
  ·cases h
section rules
variable {ops:Array Oper} {K:KP} {rest:List Oper} {d:Nat} {ty:TypeId} {pos:String} {af:Array Edge} {x y z:Operand} {T T':TypeId} {op:Op}
theorem pstep_nd (h:(pstep E op).isSome=true):∀ c,op≠.defer c:=by intro c e;subst e;simp [pstep] at h
theorem WO.p {v:Value} (h:pstep E op=some v) (hN:Nat.blt d C.N=true) (hr:WO C ops rest K ((d,v)::E) H):WO C ops (⟨some d,op,ty,pos,af,none⟩::rest) K E H :=
 WO.pure v (pstep_nd (by rw [h];rfl)) (fun L a w hf _=>pstep_ok h hf) hN hr
def gsay (ops:Array Oper) (E:Env) (j:Nat) (want:Bool):Option Bool :=
 match (ops[j]?).bind (·.dst) with
 | some dj=>match lk E dj with
  | some (.bool true)=>some want
  | some (.bool false)=>some (!want)
  | some (.tuple _)=>some false
  | _=>none
 | none=>none
theorem gsay_t {j:Nat} {want:Bool} (h:gsay ops E j want=some true):∃ dj,(ops[j]?).bind (·.dst)=some dj∧lk E dj=some (.bool want):=by
 unfold gsay at h
 split at h
 ·rename_i dj hd
  refine ⟨dj,hd,?_⟩
  split at h
  ·rename_i hl;simp at h;rw [h];exact hl
  ·rename_i hl;simp at h;rw [h];exact hl
  ·cases h
  ·cases h
 ·cases h
theorem gsay_f {j:Nat} {want:Bool} (h:gsay ops E j want=some false):∃ dj v,(ops[j]?).bind (·.dst)=some dj∧lk E dj=some v∧(v=.bool (!want)∨∃ a,v=.tuple a):=by
 unfold gsay at h
 split at h
 ·rename_i dj hd
  refine ⟨dj,?_⟩
  split at h
  ·rename_i hl;simp at h;rw [h];exact ⟨_,hd,hl,.inl rfl⟩
  ·rename_i hl;simp at h;rw [h];exact ⟨_,hd,hl,.inl rfl⟩
  ·rename_i hl;exact ⟨_,hd,hl,.inr ⟨_,rfl⟩⟩
  ·cases h
 ·cases h
theorem WO.pg {v:Value} {j:Nat} {want:Bool} (hg:gsay ops E j want=some true) (h:pstep E op=some v) (hN:Nat.blt d C.N=true) (hr:WO C ops rest K ((d,v)::E) H):WO C ops (⟨some d,op,ty,pos,af,some (j,want)⟩::rest) K E H :=
 let ⟨_,h1,h2⟩:=gsay_t hg;WO.go h1 h2 (WO.p h hN hr)
theorem WO.go' {dst:Option Tmp} {j:Nat} {want:Bool} (hg:gsay ops E j want=some true) (hr:WO C ops (⟨dst,op,ty,pos,af,none⟩::rest) K E H):WO C ops (⟨dst,op,ty,pos,af,some (j,want)⟩::rest) K E H :=
 let ⟨_,h1,h2⟩:=gsay_t hg;WO.go h1 h2 hr
theorem WO.no {j:Nat} {want:Bool} (hg:gsay ops E j want=some false) (hN:Nat.blt d C.N=true) (hr:WO C ops rest K ((d,undef)::E) H):WO C ops (⟨some d,op,ty,pos,af,some (j,want)⟩::rest) K E H :=
 let ⟨_,_,h1,h2,h3⟩:=gsay_f hg;WO.passV h1 h2 h3 hN hr
def arith (op:BinOp) (a b:Int):Option Int:=match op with | .add=>some (a+b) | .sub=>some (a-b) | .mul=>some (a*b) | _=>none
theorem run_arith {bop:BinOp} {a b n:Int} {w:World} {v:Value} (h:arith bop a b=some n) (hv:.int .i64 (w64 n)=v):(do eqGuard bop T x y (.int .i64 a) (.int .i64 b);binOp bop T (.int .i64 a) (.int .i64 b):Sem Value).run P w=.ok v w:=by
 unfold arith at h
 subst hv
 cases bop <;> simp only [Option.some.injEq,reduceCtorEq] at h <;> subst h
 ·simp [binOp_add,eqGuard_add,Op.intArith];rfl
 ·simp [binOp_sub,eqGuard_sub,Op.intArith];rfl
 ·simp [binOp_mul,eqGuard_mul,Op.intArith];rfl
theorem WO.ar {bop:BinOp} {a b n:Int} (hx:ev E x=some (.int .i64 a)) (hy:ev E y=some (.int .i64 b)) (ha:arith bop a b=some n) (hr:in64 n) (hN:Nat.blt d C.N=true) (h:WO C ops rest K ((d,.int .i64 n)::E) H):WO C ops (⟨some d,.binOp bop T x y T',ty,pos,af,none⟩::rest) K E H :=
 WO.pure _ (by simp) (fun L c w hf _=>by
  have:=run_arith (P:=P) (T:=T) (x:=x) (y:=y) (w:=w) ha (congrArg (Value.int .i64) (w64_in hr))
  simp only [Sem.run_bind] at this
  simp only [execOp,hf.eval hx,hf.eval hy,Sem.run_bind]
  rw [this];simp) hN h
end rules
theorem W.sreg {Q:Post} {id:Nat} {l:List Oper} {y:Code} (h:WO C l.toArray l (fun E H=>W C y Q E H) E H):W C (.seq (.region id l.toArray false) y) Q E H:=W.seq (W.region h)
section
variable {c:Code} {Q:Post}
theorem W.loop2 {X Y:Type} (p:X→Y→Prop) (e:X→Y→Env) (m:X→Y→List HP) (μ:X→Y→Nat) (x10:X) (x20:Y) (h0:p x10 x20) (hE:EnvIn E (e x10 x20)) (hH:Sub H (m x10 x20))
 (round:∀ x1 x2,p x1 x2→W C c (thn (fun E' H'=>∃ x1' x2',p x1' x2'∧μ x1' x2'<μ x1 x2∧EnvIn E' (e x1' x2')∧Sub H' (m x1' x2')) Q) (e x1 x2) (m x1 x2)):W C (.loop c) Q E H :=
 W.loop (X:=X × Y) (fun x=>p x.1 x.2) (fun x=>e x.1 x.2) (fun x=>m x.1 x.2) (fun x=>μ x.1 x.2) (x10,x20) h0 hE hH fun x hp=>(round x.1 x.2 hp).mono fun ex E' H' q=>by
  cases ex <;> first | exact q | skip
  obtain ⟨x1',x2',a,b,c',d⟩:=q
  exact ⟨(x1',x2'),a,b,c',d⟩
theorem W.loop3 {X Y Z:Type} (p:X→Y→Z→Prop) (e:X→Y→Z→Env) (m:X→Y→Z→List HP) (μ:X→Y→Z→Nat) (x10:X) (x20:Y) (x30:Z) (h0:p x10 x20 x30) (hE:EnvIn E (e x10 x20 x30)) (hH:Sub H (m x10 x20 x30))
 (round:∀ x1 x2 x3,p x1 x2 x3→W C c (thn (fun E' H'=>∃ x1' x2' x3',p x1' x2' x3'∧μ x1' x2' x3'<μ x1 x2 x3∧EnvIn E' (e x1' x2' x3')∧Sub H' (m x1' x2' x3')) Q) (e x1 x2 x3) (m x1 x2 x3)):W C (.loop c) Q E H :=
 W.loop (X:=X × Y × Z) (fun x=>p x.1 x.2.1 x.2.2) (fun x=>e x.1 x.2.1 x.2.2) (fun x=>m x.1 x.2.1 x.2.2) (fun x=>μ x.1 x.2.1 x.2.2) (x10,x20,x30) h0 hE hH fun x hp=>(round x.1 x.2.1 x.2.2 hp).mono fun ex E' H' q=>by
  cases ex <;> first | exact q | skip
  obtain ⟨x1',x2',x3',a,b,c',d⟩:=q
  exact ⟨(x1',x2',x3'),a,b,c',d⟩
theorem W.loop4 {X Y Z U:Type} (p:X→Y→Z→U→Prop) (e:X→Y→Z→U→Env) (m:X→Y→Z→U→List HP) (μ:X→Y→Z→U→Nat) (x10:X) (x20:Y) (x30:Z) (x40:U) (h0:p x10 x20 x30 x40) (hE:EnvIn E (e x10 x20 x30 x40)) (hH:Sub H (m x10 x20 x30 x40))
 (round:∀ x1 x2 x3 x4,p x1 x2 x3 x4→W C c (thn (fun E' H'=>∃ x1' x2' x3' x4',p x1' x2' x3' x4'∧μ x1' x2' x3' x4'<μ x1 x2 x3 x4∧EnvIn E' (e x1' x2' x3' x4')∧Sub H' (m x1' x2' x3' x4')) Q) (e x1 x2 x3 x4) (m x1 x2 x3 x4)):W C (.loop c) Q E H :=
 W.loop (X:=X × Y × Z × U) (fun x=>p x.1 x.2.1 x.2.2.1 x.2.2.2) (fun x=>e x.1 x.2.1 x.2.2.1 x.2.2.2) (fun x=>m x.1 x.2.1 x.2.2.1 x.2.2.2) (fun x=>μ x.1 x.2.1 x.2.2.1 x.2.2.2) (x10,x20,x30,x40) h0 hE hH fun x hp=>(round x.1 x.2.1 x.2.2.1 x.2.2.2 hp).mono fun ex E' H' q=>by
  cases ex <;> first | exact q | skip
  obtain ⟨x1',x2',x3',x4',a,b,c',d⟩:=q
  exact ⟨(x1',x2',x3',x4'),a,b,c',d⟩
theorem W.loop5 {X Y Z U V:Type} (p:X→Y→Z→U→V→Prop) (e:X→Y→Z→U→V→Env) (m:X→Y→Z→U→V→List HP) (μ:X→Y→Z→U→V→Nat) (x10:X) (x20:Y) (x30:Z) (x40:U) (x50:V) (h0:p x10 x20 x30 x40 x50) (hE:EnvIn E (e x10 x20 x30 x40 x50)) (hH:Sub H (m x10 x20 x30 x40 x50))
 (round:∀ x1 x2 x3 x4 x5,p x1 x2 x3 x4 x5→W C c (thn (fun E' H'=>∃ x1' x2' x3' x4' x5',p x1' x2' x3' x4' x5'∧μ x1' x2' x3' x4' x5'<μ x1 x2 x3 x4 x5∧EnvIn E' (e x1' x2' x3' x4' x5')∧Sub H' (m x1' x2' x3' x4' x5')) Q) (e x1 x2 x3 x4 x5) (m x1 x2 x3 x4 x5)):W C (.loop c) Q E H :=
 W.loop (X:=X × Y × Z × U × V) (fun x=>p x.1 x.2.1 x.2.2.1 x.2.2.2.1 x.2.2.2.2) (fun x=>e x.1 x.2.1 x.2.2.1 x.2.2.2.1 x.2.2.2.2) (fun x=>m x.1 x.2.1 x.2.2.1 x.2.2.2.1 x.2.2.2.2) (fun x=>μ x.1 x.2.1 x.2.2.1 x.2.2.2.1 x.2.2.2.2) (x10,x20,x30,x40,x50) h0 hE hH fun x hp=>(round x.1 x.2.1 x.2.2.1 x.2.2.2.1 x.2.2.2.2 hp).mono fun ex E' H' q=>by
  cases ex <;> first | exact q | skip
  obtain ⟨x1',x2',x3',x4',x5',a,b,c',d⟩:=q
  exact ⟨(x1',x2',x3',x4',x5'),a,b,c',d⟩
end
end
end Go.TH
namespace Go.TH
theorem take_succ_getD {α:Type} {l:List α} {i:Nat} (h:i<l.length) (z:α):l.take (i+1)=l.take i++[l.getD i z]:=by
 rw [List.take_succ_eq_append_getElem h]
 simp [h]
theorem all_succ {α:Type} {p:α→Prop} {l:List α} {i:Nat} (h:i<l.length) (z:α) (h1:∀ x∈l.take i,p x) (h2:p (l.getD i z)):∀ x∈l.take (i+1),p x:=by
 rw [take_succ_getD h z]
 intro x hx
 rcases List.mem_append.1 hx with hx | hx
 ·exact h1 x hx
 ·simp only [List.mem_singleton] at hx;subst hx;exact h2
theorem all_len {α:Type} {p:α→Prop} {l:List α} {i:Nat} (h:l.length≤i) (h1:∀ x∈l.take i,p x):∀ x∈l,p x:=by
 rw [List.take_of_length_le h] at h1;exact h1
theorem getD_mem {α:Type} {l:List α} {i:Nat} (h:i<l.length) (z:α):l.getD i z∈l:=by
 have:l.getD i z=l[i]:=by simp [h]
 rw [this];exact List.getElem_mem h
theorem not_all_getD {α:Type} {p:α→Prop} {l:List α} {i:Nat} (h:i<l.length) (z:α) (hn:¬ p (l.getD i z)):¬ ∀ x∈l,p x:=fun ha=>hn (ha _ (getD_mem h z))
theorem toNat_lt {i:Int} {n:Nat} (h:i<n) (h0:0≤i):i.toNat<n:=by omega
end Go.TH
namespace Go.TH
open Go
theorem sat_perm {H H':List HP} (p:H.Perm H'):∀ {h:Hp},sat H h→sat H' h:=by
 induction p with
 | nil=>exact fun h=>h
 | cons A _ ih=>exact fun ⟨h1,h2,s,a,r⟩=>⟨h1,h2,s,a,ih r⟩
 | swap A B H =>
  rintro h ⟨hb,r,s,hB,ha,c,t,hA,hc⟩
  obtain ⟨r',s',t'⟩:=s.swap t
  exact ⟨ha,r',s',hA,hb,c,t',hB,hc⟩
 | trans _ _ ih1 ih2=>exact fun h=>ih2 (ih1 h)
theorem Inv.perm {w0:World} {M:List Nat} {H H':List HP} {w:World} (h:Inv w0 M H w) (p:H.Perm H'):Inv w0 M H' w :=
 ⟨h.os,h.tape,h.output,h.size,h.keep,sat_perm p h.mine⟩
theorem Pick.perm {A:HP} {H H':List HP} (p:Pick A H H'):H.Perm (A::H'):=by
 induction p with
 | head=>exact .refl _
 | tail p ih=>exact (List.Perm.cons _ ih).trans (.swap _ _ _)
inductive Nd
 | g (k:Nat) (X:List Nat) (Q:HP) | r (k:Nat) (X:List Nat) | b (k:Nat) (X:List Nat) | f (k:Nat) (X:List Nat) | c (k:Nat) (X:List Nat) | s (k:Nat) (X:List Nat) | a (k d:Nat) (z:Obj)
def Nd.ix:Nd→Nat
 | .g k _ _=>k
 | .r k _=>k
 | .b k _=>k
 | .f k _=>k
 | .c k _=>k
 | .s k _=>k
 | .a k _ _=>k
def Nd.isF:Nd→Bool
 | .f _ _=>true
 | _=>false
def Nd.al:Nd→List Nat
 | .a k _ _=>[k]
 | _=>[]
def Nd.X:Nd→List Nat
 | .g _ X _=>X
 | .r _ X=>X
 | .b _ X=>X
 | .f _ X=>X
 | .c _ X=>X
 | .s _ X=>X
 | .a _ _ _=>[]
def cloT (l:List Oper):List (List Nat) :=
 l.foldl (fun T o=>T++[(List.range T.length).filter fun j=>(afs o).any fun a=>Nat.beq a j||(T.getD a []).elem j]) []
def cloOk (l:List Oper) (T:List (List Nat)):Bool :=
 l.zipIdx.all fun (o,i)=>(T.getD i []).all fun j=>(afs o).any fun a=>Nat.beq a j||(T.getD a []).elem j
def dtChk (l:List Oper) (T:List (List Nat)) (m:Nat) (AL:List Nat):List Nd→List Nd→Bool
 | [],dn=>(List.range m).all fun i=>(dn.map Nd.ix).elem i
 | nd::p,dn =>
  (!(dn.map Nd.ix).elem nd.ix&&Nat.blt nd.ix m&&Nat.blt nd.ix l.length &&
  (match nd with
   | .c k _=>!AL.elem k&&dn.all (fun n=>!n.isF||(T.getD k []).elem n.ix)&&l.zipIdx.all (fun (o,j)=>(dn.map Nd.ix).elem j||AL.elem j||Nat.beq j k||(afs o).any fun x=>!(dn.map Nd.ix).elem x&&!AL.elem x)
   | .s k _=>!AL.elem k&&dn.all (fun n=>!n.isF||(T.getD k []).elem n.ix)&&l.zipIdx.all (fun (o,j)=>(dn.map Nd.ix).elem j||AL.elem j||Nat.beq j k||(afs o).any fun x=>!(dn.map Nd.ix).elem x&&!AL.elem x)
   | .a k _ _=>AL.elem k&&l.zipIdx.all (fun (o,j)=>(dn.map Nd.ix).elem j||AL.elem j||(afs o).any fun x=>!(dn.map Nd.ix).elem x&&(Nat.beq x k||!AL.elem x))
   | n=>!AL.elem n.ix))&&dtChk l T m AL p (nd::dn)
def distinct:List Nat→Bool
 | []=>true
 | x::r=>!r.elem x&&distinct r
def xOk (l:List Oper) (T:List (List Nat)) (m:Nat) (EK:List Nat) (n:Nd):Bool :=
 (l.take m).zipIdx.all fun (o,k)=>(T.getD k []).elem n.ix||match o.dst with
   | none=>true
   | some d=>n.X.elem d||!EK.elem d
def drawDOk (l:List Oper) (m:Nat) (plan:List Nd) (XT EK:List Nat):Bool :=
 (plan.all fun n=>xOk l (cloT l) m EK n) &&
 ((l.take m).all fun o=>match o.dst with
   | none=>true
   | some d=>XT.elem d||!EK.elem d) &&
 (l.zipIdx.all fun (o,i)=>(afs o).all (Nat.blt · i)) &&
 ((l.take m).zipIdx.all fun (o,i)=>(l.take m).zipIdx.all fun (o',j)=>i==j||o.dst.isNone||o.dst != o'.dst) &&
 cloOk l (cloT l) &&
 (l.zipIdx.drop m).all (fun (_,i)=>(List.range i).all fun j=>((cloT l).getD i []).elem j) &&
 (plan.flatMap Nd.al).all (Nat.blt · m)&&distinct (plan.map Nd.ix) &&
 dtChk l (cloT l) m (plan.flatMap Nd.al) plan []
theorem distinct_inj {α:Type} {f:α→Nat}:∀ {l:List α},distinct (l.map f)=true→∀ {x y:α},x∈l→y∈l→f x=f y→x=y
 | [],_,_,_,h,_,_=>by simp at h
 | z::r,hd,x,y,hx,hy,e=>by
  simp only [List.map_cons,distinct,Bool.and_eq_true,Bool.not_eq_true'] at hd
  have hn:∀ u∈r,f u≠f z:=fun u hu e=>by
   have:(r.map f).elem (f z)=true:=by
    simp only [List.elem_eq_mem,decide_eq_true_eq]
    exact List.mem_map.2 ⟨u,hu,e⟩
   rw [this] at hd;exact absurd hd.1 (by simp)
  rcases List.mem_cons.1 hx with ex | hx1
  ·rcases List.mem_cons.1 hy with ey | hy1
   ·rw [ex,ey]
   ·exact absurd (by rw [← e,ex]) (hn y hy1)
  ·rcases List.mem_cons.1 hy with ey | hy1
   ·exact absurd (by rw [e,ey]) (hn x hx1)
   ·exact distinct_inj hd.2 hx1 hy1 e
section
variable {P:Program} {C:Cx P} {E:Env} {H:List HP}
def Keep (l:List Oper) (k:Nat) (H:List HP):List Nd→Prop
 | []=>True
 | .g j _ Q::dn=>(((cloT l).getD k []).elem j=true∨∃ R,Pick Q H R)∧Keep l k H dn
 | _::dn=>Keep l k H dn
theorem Keep.at {l:List Oper} {k:Nat} {H:List HP} {j:Nat} {X:List Nat} {Q:HP}:∀ {dn:List Nd},Keep l k H dn→Nd.g j X Q∈dn→((cloT l).getD k []).elem j=true∨∃ R,Pick Q H R
 | [],_,h=>by simp at h
 | nd::dn,hk,h=>by
  rcases List.mem_cons.1 h with rfl | h'
  ·exact hk.1
  ·clear h
   cases nd with
   | g k X Q=>exact Keep.at (And.right hk) h'
   | r k X=>have hk2:Keep l _ H dn:=hk;exact Keep.at hk2 h'
   | b k X=>have hk2:Keep l _ H dn:=hk;exact Keep.at hk2 h'
   | f k X=>have hk2:Keep l _ H dn:=hk;exact Keep.at hk2 h'
   | c k X=>have hk2:Keep l _ H dn:=hk;exact Keep.at hk2 h'
   | s k X=>have hk2:Keep l _ H dn:=hk;exact Keep.at hk2 h'
   | a k d z=>have hk2:Keep l _ H dn:=hk;exact Keep.at hk2 h'
def DT (C:Cx P) (l:List Oper) (m:Nat) (K:KP) (XT:List Nat) (E0:Env) (H0:List HP):List Nd→List Nd→List SE→List HP→Prop
 | [],_,pre,A=>WO C l.toArray (l.drop m) K (allE (delE XT E0) pre) (A++H0)
 | .r k X::p,dn,pre,A=>∃ o d v,l[k]?=some o∧o.dst=some d∧Nat.blt d C.N=true∧WO C l.toArray [o] (fun E' H'=>E'=(d,v)::selE (afs o) (delE X E0) pre∧H'=[]) (selE (afs o) (delE X E0) pre) []∧DT C l m K XT E0 H0 p (.r k X::dn) (⟨k,d,v⟩::pre) A
 | .b k X::p,dn,pre,A=>∃ o d v,l[k]?=some o∧o.dst=some d∧Nat.blt d C.N=true∧WO C l.toArray [o] (fun E' H'=>E'=(d,v)::selE (afs o) (delE X E0) pre∧H'=H0) (selE (afs o) (delE X E0) pre) H0∧DT C l m K XT E0 H0 p (.b k X::dn) (⟨k,d,v⟩::pre) A
 | .f k X::p,dn,pre,A=>∃ o d v,l[k]?=some o∧o.dst=some d∧Nat.blt d C.N=true∧WO C l.toArray [o] (fun E' H'=>E'=(d,v)::selE (afs o) (delE X E0) pre∧H'=A++H0) (selE (afs o) (delE X E0) pre) (A++H0)∧DT C l m K XT E0 H0 p (.f k X::dn) (⟨k,d,v⟩::pre) A
 | .c k X::p,dn,pre,A=>∃ o d,l[k]?=some o∧o.dst=some d∧Nat.blt d C.N=true∧WO C l.toArray [o] (fun E' H'=>∃ v A',E'=(d,v)::selE (afs o) (delE X E0) pre∧H'=A'++H0∧Keep l k (A'++H0) dn∧DT C l m K XT E0 H0 p (.c k X::dn) (⟨k,d,v⟩::pre) A') (selE (afs o) (delE X E0) pre) (A++H0)
 | .s k X::p,dn,pre,A=>∃ o,l[k]?=some o∧o.dst=none∧WO C l.toArray [o] (fun E' H'=>∃ A',E'=selE (afs o) (delE X E0) pre∧H'=A'++H0∧Keep l k (A'++H0) dn∧DT C l m K XT E0 H0 p (.s k X::dn) pre A') (selE (afs o) (delE X E0) pre) (A++H0)
 | .a k d z::p,dn,pre,A=>∀ b,DT C l m K XT E0 H0 p (.a k d z::dn) (⟨k,d,.pointer (some ⟨b,0,none⟩)⟩::pre) (pt b z::A)
 | .g k X Q::p,dn,pre,A=>∃ o d v,l[k]?=some o∧o.dst=some d∧Nat.blt d C.N=true∧(∃ R,Pick Q (A++H0) R)∧WO C l.toArray [o] (fun E' H'=>E'=(d,v)::selE (afs o) (delE X E0) pre∧H'=[Q]) (selE (afs o) (delE X E0) pre) [Q]∧DT C l m K XT E0 H0 p (.g k X Q::dn) (⟨k,d,v⟩::pre) A
def ALok (C:Cx P) (l:List Oper):List Nd→Prop
 | []=>True
 | .a k d z::p=>(∃ o,l[k]?=some o∧o.dst=some d∧Nat.blt d C.N=true∧WO C l.toArray [o] (fun E' H'=>∃ b,E'=[(d,.pointer (some ⟨b,0,none⟩))]∧H'=[pt b z]) [] [])∧ALok C l p
 | _::p=>ALok C l p
theorem ALok.at {l:List Oper} {plan:List Nd} (ha:ALok C l plan) {k d:Nat} {z:Obj} (h:Nd.a k d z∈plan):∃ o,l[k]?=some o∧o.dst=some d∧Nat.blt d C.N=true∧WO C l.toArray [o] (fun E' H'=>∃ b,E'=[(d,.pointer (some ⟨b,0,none⟩))]∧H'=[pt b z]) [] []:=by
 induction plan with
 | nil=>simp at h
 | cons nd p ih =>
  rcases List.mem_cons.1 h with rfl | h'
  ·exact ha.1
  ·clear h
   cases nd <;> first | exact ih ha h' | exact ih ha.2 h'
structure AE where
 k:Nat
 d:Nat
 b:Nat
 z:Obj
def AE.p (x:AE):HP:=pt x.b x.z
def PQ (C:Cx P) (l:List Oper) (E0:Env) (pre:List SE) (k:Nat) (X:List Nat) (Hq:List HP):Prop :=
 ∃ o d v Eq,l[k]?=some o∧o.dst=some d∧Nat.blt d C.N=true∧⟨k,d,v⟩∈pre∧WO C l.toArray [o] (fun E' H'=>E'=(d,v)::Eq∧H'=Hq) Eq Hq ∧
  ∀ t u,lk Eq t=some u→(∃ s∈pre,s.ix∈afs o∧s.d=t∧s.v=u)∨lk (delE X E0) t=some u
def Pd (C:Cx P) (l:List Oper) (E0:Env) (H0:List HP) (pre:List SE) (A:List HP):Nd→Prop
 | .g k X Q=>(∃ R,Pick Q (A++H0) R)∧PQ C l E0 pre k X [Q]
 | .r k X=>PQ C l E0 pre k X []
 | .b k X=>PQ C l E0 pre k X H0
 | .f k X=>∃ As Aq,A=As++Aq∧PQ C l E0 pre k X (Aq++H0)
 | .c _ _=>False
 | .s _ _=>False
 | .a _ _ _=>False
theorem PQ.more {l:List Oper} {E0:Env} {pre:List SE} {k:Nat} {X:List Nat} {Hq:List HP} (h:PQ C l E0 pre k X Hq) (s:SE):PQ C l E0 (s::pre) k X Hq:=by
 obtain ⟨o,d,v,Eq,h1,h2,h3,h4,h5,h6⟩:=h
 refine ⟨o,d,v,Eq,h1,h2,h3,by simp [h4],h5,fun t u hu=>?_⟩
 rcases h6 t u hu with ⟨s',a,b⟩ | h
 ·exact .inl ⟨s',by simp [a],b⟩
 ·exact .inr h
theorem Pd.more {l:List Oper} {E0:Env} {H0:List HP} {pre:List SE} {A:List HP} {nd:Nd} (h:Pd C l E0 H0 pre A nd) (s:SE):Pd C l E0 H0 (s::pre) A nd:=by
 cases nd <;> simp only [Pd] at h ⊢
 ·exact ⟨h.1,h.2.more s⟩
 ·exact h.more s
 ·exact h.more s
 ·obtain ⟨As,Aq,e,h⟩:=h;exact ⟨As,Aq,e,h.more s⟩
theorem Pd.moreA {l:List Oper} {E0:Env} {H0:List HP} {pre:List SE} {A:List HP} {nd:Nd} (h:Pd C l E0 H0 pre A nd) (B:HP):Pd C l E0 H0 pre (B::A) nd:=by
 cases nd <;> simp only [Pd] at h ⊢
 ·obtain ⟨⟨R,p⟩,h⟩:=h;exact ⟨⟨_,.tail p⟩,h⟩
 ·exact h
 ·exact h
 ·obtain ⟨As,Aq,e,h⟩:=h;exact ⟨B::As,Aq,by simp [e],h⟩
structure DS (C:Cx P) (l:List Oper) (m:Nat) (K:KP) (XT:List Nat) (E0:Env) (H0 L:List HP) (plan:List Nd) (ls:Array Bool) (a:Act) (w:World) (p dn:List Nd) (pre:List SE) (A:List HP) (al:List AE):Prop where
 chk:dtChk l (cloT l) m (plan.flatMap Nd.al) p dn=true
 dt:DT C l m K XT E0 H0 p dn pre A
 sub:∀ n∈p,n∈plan
 exe:∀ i,i<l.length→ls.getD i true=true→i∈dn.map Nd.ix∨i∈plan.flatMap Nd.al
 dnM:∀ n∈dn,n.ix<m
 dnP:∀ n∈dn,n∈plan
 preD:∀ s∈pre,s.ix∈dn.map Nd.ix
 uniq:∀ s∈pre,∀ s'∈pre,s.ix=s'.ix→s=s'
 preO:∀ s∈pre,∃ o,l[s.ix]?=some o∧o.dst=some s.d∧s.ix<m
 val:∀ s∈pre,ls.getD s.ix true=true→a.tmps[s.d]?=some s.v
 alO:∀ x∈al,Nd.a x.k x.d x.z∈plan∧x.k ∉ dn.map Nd.ix∧a.tmps[x.d]?=some (.pointer (some ⟨x.b,0,none⟩))
 alX:∀ x∈al,ls.getD x.k true=true
 alC:∀ k∈plan.flatMap Nd.al,k ∉ dn.map Nd.ix→ls.getD k true=true→∃ x∈al,x.k=k
 pend:∀ nd∈dn,ls.getD nd.ix true=false→Pd C l E0 H0 pre A nd
 mem:∃ ds:List Nat,a.defers=ds.map mark∧Inv C.w0 C.M ((ds.map ptd++L)++(al.map AE.p++(A++H0))) w
 frN:a.tmps.size=C.N
 frE:∀ t v,lk E0 t=some v→a.tmps[t]?=some v∨∃ k o,l[k]?=some o∧k<m∧o.dst=some t∧ls.getD k true=true
def NF (ls:Array Bool):List Nd→Prop
 | []=>True
 | .c _ _::_=>True
 | .s _ _::_=>True
 | .a k _ _::_=>ls.getD k true=false
 | _::_=>False
theorem al_mem {plan:List Nd} {k d:Nat} {z:Obj} (h:Nd.a k d z∈plan):k∈plan.flatMap Nd.al:=List.mem_flatMap.2 ⟨_,h,by simp [Nd.al]⟩
theorem mem_al {plan:List Nd} {k:Nat} (h:k∈plan.flatMap Nd.al):∃ d z,Nd.a k d z∈plan:=by
 obtain ⟨n,hn,hk⟩:=List.mem_flatMap.1 h
 cases n <;> simp [Nd.al] at hk
 subst hk
 exact ⟨_,_,hn⟩
section norm
variable {l:List Oper} {m:Nat} {K:KP} {XT:List Nat} {E0:Env} {H0 L:List HP} {plan:List Nd} {ls:Array Bool} {a:Act} {w:World}
theorem DS.quiet {nd:Nd} {p dn:List Nd} {pre:List SE} {A:List HP} {al:List AE} (h:DS C l m K XT E0 H0 L plan ls a w (nd::p) dn pre A al) (hal:nd.ix ∉ plan.flatMap Nd.al) {o:Oper} {d:Nat} {v:Value}
 (ho:l[nd.ix]?=some o) (hd:o.dst=some d) (hm:nd.ix<m) (hn:nd.ix ∉ dn.map Nd.ix) (hc:dtChk l (cloT l) m (plan.flatMap Nd.al) p (nd::dn)=true) (hdt:DT C l m K XT E0 H0 p (nd::dn) (⟨nd.ix,d,v⟩::pre) A)
 (hp:Pd C l E0 H0 (⟨nd.ix,d,v⟩::pre) A nd):DS C l m K XT E0 H0 L plan ls a w p (nd::dn) (⟨nd.ix,d,v⟩::pre) A al:=by
 have hlt:nd.ix<l.length:=(List.getElem?_eq_some_iff.1 ho).1
 have hf:ls.getD nd.ix true=false:=by
  cases hg:ls.getD nd.ix true with
  | false=>rfl
  | true=>rcases h.exe _ hlt hg with x | x;exact absurd x hn;exact absurd x hal
 refine ⟨hc,hdt,fun n hn'=>h.sub n (by simp [hn']),fun i hi hi'=>?_,?_,?_,?_,?_,?_,?_,?_,h.alX,?_,?_,h.mem,h.frN,h.frE⟩
 ·rcases h.exe i hi hi' with x | x
  ·exact .inl (by simp only [List.map_cons,List.mem_cons];exact .inr x)
  ·exact .inr x
 ·intro n hn'
  rcases List.mem_cons.1 hn' with rfl | hn'
  ·exact hm
  ·exact h.dnM n hn'
 ·intro n hn'
  rcases List.mem_cons.1 hn' with rfl | hn'
  ·exact h.sub _ (by simp)
  ·exact h.dnP n hn'
 ·intro s hs
  rcases List.mem_cons.1 hs with rfl | hs
  ·simp
  ·simp only [List.map_cons,List.mem_cons];exact .inr (h.preD s hs)
 ·intro s hs s' hs' e
  rcases List.mem_cons.1 hs with rfl | hs <;> rcases List.mem_cons.1 hs' with rfl | hs'
  ·rfl
  ·exact absurd (by have:=h.preD s' hs';rw [← e] at this;exact this) hn
  ·exact absurd (by have:=h.preD s hs;rw [e] at this;exact this) hn
  ·exact h.uniq s hs s' hs' e
 ·intro s hs
  rcases List.mem_cons.1 hs with rfl | hs
  ·exact ⟨o,ho,hd,hm⟩
  ·exact h.preO s hs
 ·intro s hs hl
  rcases List.mem_cons.1 hs with rfl | hs
  ·rw [hf] at hl;cases hl
  ·exact h.val s hs hl
 ·intro x hx
  obtain ⟨h1,h2,h3⟩:=h.alO x hx
  refine ⟨h1,?_,h3⟩
  simp only [List.map_cons,List.mem_cons,not_or]
  exact ⟨fun e=>hal (e▸al_mem h1),h2⟩
 ·intro k hk hk' hl
  simp only [List.map_cons,List.mem_cons,not_or] at hk'
  exact h.alC k hk hk'.2 hl
 ·intro n hn' hl
  rcases List.mem_cons.1 hn' with rfl | hn'
  ·exact hp
  ·exact (h.pend n hn' hl).more _
theorem DS.takeA {k d:Nat} {z:Obj} {p dn:List Nd} {pre:List SE} {A:List HP} {al:List AE} (h:DS C l m K XT E0 H0 L plan ls a w (.a k d z::p) dn pre A al) (hdis:distinct (plan.map Nd.ix)=true) (hl:ls.getD k true=true)
 (hm:k<m) (hn:k ∉ dn.map Nd.ix) (hc:dtChk l (cloT l) m (plan.flatMap Nd.al) p (.a k d z::dn)=true) (hal:ALok C l plan) :
 ∃ pre' A' al',DS C l m K XT E0 H0 L plan ls a w p (.a k d z::dn) pre' A' al':=by
 have hpl:Nd.a k d z∈plan:=h.sub _ (by simp)
 obtain ⟨x,hx,hxk⟩:=h.alC k (al_mem hpl) hn hl
 obtain ⟨x1,x2,x3⟩:=h.alO x hx
 have e:Nd.a x.k x.d x.z=.a k d z:=distinct_inj hdis x1 hpl (by simpa [Nd.ix] using hxk)
 simp only [Nd.a.injEq] at e
 obtain ⟨e1,e2,e3⟩:=e
 obtain ⟨al1,al2,rfl⟩:=List.append_of_mem hx
 obtain ⟨o,ho,hd,_,_⟩:=hal.at hpl
 obtain ⟨ds,hds,hi⟩:=h.mem
 have hdup:∀ y∈al1++al2,y.k=k→∃ s:Unit,True:=fun _ _ _=>⟨(),trivial⟩
 refine ⟨⟨k,d,.pointer (some ⟨x.b,0,none⟩)⟩::pre,pt x.b z::A,(al1++al2).filter (fun y=>!Nat.beq y.k k),hc,?_,fun n hn'=>h.sub n (by simp [hn']),fun i hi hi'=>?_,?_,?_,?_,?_,?_,?_,?_,fun y hy=>h.alX y (by rcases List.mem_append.1 (List.mem_filter.1 hy).1 with q | q <;> simp [q]),?_,?_,⟨ds,hds,?_⟩,h.frN,h.frE⟩
 ·exact h.dt x.b
 ·rcases h.exe i hi hi' with y | y
  ·exact .inl (by simp only [List.map_cons,List.mem_cons];exact .inr y)
  ·exact .inr y
 ·intro n hn'
  rcases List.mem_cons.1 hn' with rfl | hn'
  ·exact hm
  ·exact h.dnM n hn'
 ·intro n hn'
  rcases List.mem_cons.1 hn' with rfl | hn'
  ·exact h.sub _ (by simp)
  ·exact h.dnP n hn'
 ·intro s hs
  rcases List.mem_cons.1 hs with rfl | hs
  ·simp [Nd.ix]
  ·simp only [List.map_cons,List.mem_cons];exact .inr (h.preD s hs)
 ·intro s hs s' hs' e
  rcases List.mem_cons.1 hs with rfl | hs <;> rcases List.mem_cons.1 hs' with rfl | hs'
  ·rfl
  ·exact absurd (by have:=h.preD s' hs';rw [← e] at this;exact this) hn
  ·exact absurd (by have:=h.preD s hs;rw [e] at this;exact this) hn
  ·exact h.uniq s hs s' hs' e
 ·intro s hs
  rcases List.mem_cons.1 hs with rfl | hs
  ·exact ⟨o,ho,hd,hm⟩
  ·exact h.preO s hs
 ·intro s hs hl'
  rcases List.mem_cons.1 hs with rfl | hs
  ·rw [e2] at x3;exact x3
  ·exact h.val s hs hl'
 ·intro y hy
  obtain ⟨hy1,hy2⟩:=List.mem_filter.1 hy
  obtain ⟨h1,h2,h3⟩:=h.alO y (by rcases List.mem_append.1 hy1 with q | q <;> simp [q])
  refine ⟨h1,?_,h3⟩
  simp only [List.map_cons,List.mem_cons,not_or]
  refine ⟨fun e=>?_,h2⟩
  simp only [Nd.ix] at e
  simp [e] at hy2
 ·intro k' hk hk' hl'
  simp only [List.map_cons,List.mem_cons,not_or] at hk'
  obtain ⟨y,hy,hyk⟩:=h.alC k' hk hk'.2 hl'
  refine ⟨y,List.mem_filter.2 ⟨?_,?_⟩,hyk⟩
  ·rcases List.mem_append.1 hy with q | q
   ·simp [q]
   ·rcases List.mem_cons.1 q with rfl | q
    ·exact absurd (hyk.symm.trans e1) hk'.1
    ·simp [q]
  ·have:¬ y.k=k:=fun e=>hk'.1 (hyk.symm.trans e)
   cases hb:Nat.beq y.k k with
   | false=>rfl
   | true=>exact absurd (Nat.eq_of_beq_eq_true hb) this
 ·intro n hn' hl'
  rcases List.mem_cons.1 hn' with rfl | hn'
  ·simp only [Nd.ix] at hl';rw [hl] at hl';cases hl'
  ·exact ((h.pend n hn' hl').more _).moreA _
 ·
  refine hi.sub ?_
  refine Sub.app ?_ _
  have hxp:AE.p x=pt x.b z:=by simp [AE.p,e3]
  have hs:∀ (q:AE→Bool) (l1:List AE) (R:List HP),Sub (l1.map AE.p++R) ((l1.filter q).map AE.p++R):=by
   intro q l1 R
   induction l1 with
   | nil=>exact Sub.refl _
   | cons y l1 ih =>
    simp only [List.filter_cons]
    split
    ·exact .cons .head ih
    ·exact Sub.tail ih
  have p1:Sub (List.map AE.p (al1++x::al2)++(A++H0)) ((al1++al2).map AE.p++(pt x.b z::(A++H0))):=by
   have:=Sub.rot (al1.map AE.p) [AE.p x] (al2.map AE.p++(A++H0))
   have q2:=Sub.rot [pt x.b z] ((al1++al2).map AE.p) (A++H0)
   refine Sub.trans (H2:=[AE.p x]++(al1.map AE.p++(al2.map AE.p++(A++H0)))) ?_ ?_
   ·simpa [List.append_assoc] using this
   ·rw [hxp];simpa [List.append_assoc] using q2
  exact p1.trans (hs _ _ _)
theorem DS.norm (hdis:distinct (plan.map Nd.ix)=true) (hal:ALok C l plan):∀ {p dn:List Nd} {pre:List SE} {A:List HP} {al:List AE},DS C l m K XT E0 H0 L plan ls a w p dn pre A al →
 ∃ p' dn' pre' A' al',DS C l m K XT E0 H0 L plan ls a w p' dn' pre' A' al'∧NF ls p':=by
 intro p
 induction p with
 | nil=>exact fun h=>⟨_,_,_,_,_,h,trivial⟩
 | cons nd p ih =>
  intro dn pre A al h
  have hc:=h.chk
  simp only [dtChk,Bool.and_eq_true,Bool.not_eq_true'] at hc
  obtain ⟨⟨⟨⟨c1,c2⟩,c3⟩,c4⟩,c5⟩:=hc
  have c1':nd.ix ∉ dn.map Nd.ix:=by simpa using c1
  have c2':=Nat.blt_eq.mp c2
  cases nd with
  | g k X Q =>
   obtain ⟨o,d,v,ho,hd,hN,hpk,hwo,hdt⟩:=h.dt
   refine ih (h.quiet (by simpa using c4) ho hd c2' c1' c5 hdt ⟨hpk,o,d,v,_,ho,hd,hN,by simp [Nd.ix],hwo,fun t u hu=>?_⟩)
   rcases lk_selE hu with ⟨s,s1,s2⟩ | hu
   ·exact .inl ⟨s,by simp [s1],s2⟩
   ·exact .inr hu
  | r k X =>
   obtain ⟨o,d,v,ho,hd,hN,hwo,hdt⟩:=h.dt
   refine ih (h.quiet (by simpa using c4) ho hd c2' c1' c5 hdt ⟨o,d,v,_,ho,hd,hN,by simp [Nd.ix],hwo,fun t u hu=>?_⟩)
   rcases lk_selE hu with ⟨s,s1,s2⟩ | hu
   ·exact .inl ⟨s,by simp [s1],s2⟩
   ·exact .inr hu
  | b k X =>
   obtain ⟨o,d,v,ho,hd,hN,hwo,hdt⟩:=h.dt
   refine ih (h.quiet (by simpa using c4) ho hd c2' c1' c5 hdt ⟨o,d,v,_,ho,hd,hN,by simp [Nd.ix],hwo,fun t u hu=>?_⟩)
   rcases lk_selE hu with ⟨s,s1,s2⟩ | hu
   ·exact .inl ⟨s,by simp [s1],s2⟩
   ·exact .inr hu
  | f k X =>
   obtain ⟨o,d,v,ho,hd,hN,hwo,hdt⟩:=h.dt
   refine ih (h.quiet (by simpa using c4) ho hd c2' c1' c5 hdt ⟨[],A,rfl,o,d,v,_,ho,hd,hN,by simp [Nd.ix],hwo,fun t u hu=>?_⟩)
   rcases lk_selE hu with ⟨s,s1,s2⟩ | hu
   ·exact .inl ⟨s,by simp [s1],s2⟩
   ·exact .inr hu
  | c k X=>exact ⟨_,_,_,_,_,h,trivial⟩
  | s k X=>exact ⟨_,_,_,_,_,h,trivial⟩
  | a k d z =>
   cases hl:ls.getD k true with
   | false=>exact ⟨_,_,_,_,_,h,hl⟩
   | true =>
    obtain ⟨pre',A',al',h'⟩:=h.takeA hdis hl c2' c1' c5 hal
    exact ih h'
end norm
theorem cloOk_at {l:List Oper} {T:List (List Nat)} (h:cloOk l T=true) {i:Nat} {o:Oper} (ho:l[i]?=some o) {j:Nat} (hj:j∈T.getD i []):∃ x∈afs o,x=j∨j∈T.getD x []:=by
 have:=List.all_eq_true.1 h (o,i) (by rw [List.mem_zipIdx_iff_getElem?];simpa using ho)
 have:=List.all_eq_true.1 this j hj
 obtain ⟨x,hx,hx'⟩:=List.any_eq_true.1 this
 refine ⟨x,hx,?_⟩
 rcases Bool.or_eq_true_iff.1 hx' with h | h
 ·exact .inl (Nat.eq_of_beq_eq_true h)
 ·exact .inr (by simpa using h)
theorem W.drawD {Q:Post} {id:Nat} {l:List Oper} (m:Nat) (plan:List Nd) (XT:List Nat) {A0 H0:List HP} (hsub:Sub H (A0++H0)) (hchk:drawDOk l m plan XT (E.map Prod.fst)=true) (hal:ALok C l plan)
 (h:DT C l m (Q .normal) XT E H0 plan [] [] A0):W C (.region id l.toArray true) Q E H:=by
 intro L ds a w hs
 refine wpIn_region_any C.mixed ?_
 simp only [drawDOk,Bool.and_eq_true] at hchk
 obtain ⟨⟨⟨⟨⟨⟨⟨⟨hxp,hxt⟩,hc1⟩,hc3⟩,hT⟩,hc2⟩,hALm⟩,hdis⟩,hdt⟩:=hchk
 have hc1:∀ i o,l[i]?=some o→∀ j∈afs o,j<i:=by
  intro i o hi j hj
  have:=List.all_eq_true.1 hc1 (o,i) (by rw [List.mem_zipIdx_iff_getElem?];simpa using hi)
  have:=List.all_eq_true.1 this j hj
  exact Nat.blt_eq.mp this
 have hc2:∀ i,m≤i→i<l.length→∀ j,j<i→j∈(cloT l).getD i []:=by
  intro i hm hi j hj
  have hmem:(l[i],i)∈l.zipIdx.drop m:=by
   refine List.mem_iff_getElem?.2 ⟨i-m,?_⟩
   rw [List.getElem?_drop]
   have:m+(i-m)=i:=by omega
   rw [this];simp [hi]
  have:=List.all_eq_true.1 hc2 (l[i],i) hmem
  have:=List.all_eq_true.1 this j (by simpa using hj)
  simpa using this
 have hc3:∀ i j o o',i<m→j<m→l[i]?=some o→l[j]?=some o'→i≠j→o.dst.isNone=false→o.dst≠o'.dst:=by
  intro i j o o' him hjm hi hj hne hnn
  have m1:(o,i)∈(l.take m).zipIdx:=by rw [List.mem_zipIdx_iff_getElem?];simp [List.getElem?_take,him,hi]
  have m2:(o',j)∈(l.take m).zipIdx:=by rw [List.mem_zipIdx_iff_getElem?];simp [List.getElem?_take,hjm,hj]
  have:=List.all_eq_true.1 hc3 (o,i) m1
  have:=List.all_eq_true.1 this (o',j) m2
  simp only [hnn,Bool.or_false,Bool.or_eq_true,beq_iff_eq,bne_iff_ne,hne,false_or] at this
  exact this
 have hALm:∀ k∈plan.flatMap Nd.al,k<m:=fun k hk=>Nat.blt_eq.mp (List.all_eq_true.1 hALm k hk)
 have hn:l.toArray.size=l.length:=by simp
 have clo:∀ (ls:Array Bool),(∀ i o,l[i]?=some o→ls.getD i true=true→∀ j∈afs o,ls.getD j true=true)→∀ i o,l[i]?=some o→(∀ j∈afs o,ls.getD j true=true)→∀ j∈(cloT l).getD i [],ls.getD j true=true:=by
  intro ls hd i
  induction i using Nat.strongRecOn with
  | _ i ih =>
   intro o ho ha j hj
   obtain ⟨x,hx,hx'⟩:=cloOk_at hT ho hj
   rcases hx' with rfl | hx'
   ·exact ha _ hx
   ·have hlt:=hc1 i o ho x hx
    have hxl:x<l.length:=by have:=(List.getElem?_eq_some_iff.1 ho).1;omega
    exact ih x hlt l[x] (by simp [hxl]) (hd x l[x] (by simp [hxl]) (ha x hx)) j hx'
 have hkey:∀ t v,lk E t=some v→t∈E.map Prod.fst:=by
  intro t v
  generalize E=F
  induction F with
  | nil=>intro h;simp [lk] at h
  | cons x r ih =>
   obtain ⟨k,u⟩:=x
   intro h
   simp only [lk] at h
   cases hb:Nat.beq k t with
   | true=>have:=Nat.eq_of_beq_eq_true hb;simp [this]
   | false=>rw [hb] at h;simp only [List.map_cons,List.mem_cons];exact .inr (ih h)
 have hX:∀ n∈plan,∀ (ls:Array Bool) (a:Act),(∀ i o,l[i]?=some o→ls.getD i true=true→∀ j∈afs o,ls.getD j true=true)→ls.getD n.ix true=false →
  (∀ t v,lk E t=some v→a.tmps[t]?=some v∨∃ k o,l[k]?=some o∧k<m∧o.dst=some t∧ls.getD k true=true)→∀ t u,lk (delE n.X E) t=some u→a.tmps[t]?=some u:=by
  intro n hn ls a hcl hl hfr t u hu
  obtain ⟨h1,h2⟩:=lk_delE hu
  rcases hfr t u h1 with h | ⟨k,o,ho,hk,hd,hlk⟩
  ·exact h
  ·exfalso
   have:=List.all_eq_true.1 hxp n hn
   have:=List.all_eq_true.1 this (o,k) (by rw [List.mem_zipIdx_iff_getElem?];simp [List.getElem?_take,hk,ho])
   simp only [hd,Bool.or_eq_true,Bool.not_eq_true'] at this
   rcases this with h | h | h
   ·have:=clo ls hcl k o ho (hcl k o ho hlk) n.ix (by simpa using h)
    rw [hl] at this;cases this
   ·exact h2 (by simpa using h)
   ·exact absurd (hkey t u h1) (by simpa using h)
 have hXT:∀ (ls:Array Bool) (a:Act),(∀ t v,lk E t=some v→a.tmps[t]?=some v∨∃ k o,l[k]?=some o∧k<m∧o.dst=some t∧ls.getD k true=true)→∀ t u,lk (delE XT E) t=some u→a.tmps[t]?=some u:=by
  intro ls a hfr t u hu
  obtain ⟨h1,h2⟩:=lk_delE hu
  rcases hfr t u h1 with h | ⟨k,o,ho,hk,hd,hlk⟩
  ·exact h
  ·exfalso
   have:=List.all_eq_true.1 hxt o (List.mem_iff_getElem?.2 ⟨k,by rw [List.getElem?_take];simp [hk,ho]⟩)
   simp only [hd,Bool.or_eq_true,Bool.not_eq_true'] at this
   rcases this with h | h
   ·exact h2 (by simpa using h)
   ·exact absurd (hkey t u h1) (by simpa using h)
 let Q':Exit→Act→World→Prop:=fun e a' w'=>∃ ds' E' H',Q e E' H'∧St C L ds' E' H' a' w'
 have tailQ:∀ pre A a w,WO C l.toArray (l.drop m) (Q .normal) (allE (delE XT E) pre) (A++H0)→(∃ ds,St C L ds (allE (delE XT E) pre) (A++H0) a w)→wpListIn C.F 0 P l.toArray Q' (l.drop m) a w:=by
  rintro pre A a w ht ⟨ds,hst⟩
  have:=ht L ds a w hst
  have key:∀ (k:List Oper) a w,wpListIn C.F 0 P l.toArray (fun e a' w'=>∃ ds' E' H',thn (Q .normal) (fun _ _ _=>False) e E' H'∧St C L ds' E' H' a' w') k a w→wpListIn C.F 0 P l.toArray Q' k a w:=by
   intro k
   have hQ:∀ e a' w',(∃ ds' E' H',thn (Q .normal) (fun _ _ _=>False) e E' H'∧St C L ds' E' H' a' w')→Q' e a' w':=by
    rintro e a' w' ⟨ds',E',H',q,s⟩
    cases e <;> first | exact ⟨ds',E',H',q,s⟩ | exact q.elim
   induction k with
   | nil=>exact fun a w h=>hQ _ _ _ h
   | cons o k ih =>
    intro a w h
    simp only [wpListIn] at h ⊢
    split
    ·rename_i hw;rw [if_pos hw] at h;exact Oper.wpIn_mono2 (fun a w=>ih a w) (fun e a w _=>hQ e a w) h
    ·rename_i hw;rw [if_neg hw] at h;exact ⟨h.1,ih _ _ h.2⟩
  exact key _ a w this
 have hlist:∀ i o a w,l[i]?=some o→wpListIn C.F 0 P l.toArray Q' (l.drop i) a w→wpOpIn C.F 0 P l.toArray Q' i (wpListIn C.F 0 P l.toArray Q' (l.drop (i+1))) a w:=by
  intro i o a w hi h
  have hd:l.drop i=o::l.drop (i+1):=by
   obtain ⟨hlt,rfl⟩:=List.getElem?_eq_some_iff.1 hi
   exact List.drop_eq_getElem_cons hlt
  rw [hd] at h
  simp only [wpListIn] at h
  simp only [wpOpIn,List.getElem?_toArray,hi]
  exact h
 have hone:∀ i o Ls ds Eq Hq (K:KP) (R:Act→World→Prop) a w,l[i]?=some o→WO C l.toArray [o] K Eq Hq→St C Ls ds Eq Hq a w →
  (∀ ds' E' H' a' w',K E' H'→St C Ls ds' E' H' a' w'→(∃ u,a'.tmps=(a.put o.dst u).tmps)→R a' w')→wpOpIn C.F 0 P l.toArray Q' i R a w:=by
  intro i o Ls ds Eq Hq K R a w ho hwo hst hR
  have hw:=hwo Ls ds a w hst
  simp only [wpListIn] at hw
  simp only [wpOpIn,List.getElem?_toArray,ho]
  split
  ·rename_i hwant
   rw [if_pos hwant] at hw
   refine Oper.wpIn_mono2 (fun a' w' h=>?_) (fun e a' w' hne h=>?_) (wpIn_put hw)
   ·obtain ⟨⟨ds',E',H',q,s⟩,hu⟩:=h
    exact hR ds' E' H' a' w' q s hu
   ·obtain ⟨ds',E',H',q,s⟩:=h
    cases e <;> first | exact q.elim | exact absurd rfl hne
  ·rename_i hwant
   rw [if_neg hwant] at hw
   obtain ⟨hab,ds',E',H',q,s⟩:=hw
   exact ⟨hab,hR ds' E' H' _ w q s ⟨undef,rfl⟩⟩
 let S:Array Bool→Act→World→Prop:=fun ls a w =>
  (∃ p dn pre A al,DS C l m (Q .normal) XT E H0 L plan ls a w p dn pre A al∧NF ls p) ∨
  (∃ t,m<t∧(∀ i,i<l.length→ls.getD i true=Nat.blt i t)∧wpListIn C.F 0 P l.toArray Q' (l.drop t) a w)
 have main:∀ (fuel:Nat) (ls:Array Bool) (a:Act) (w:World),ls.size=l.length→ls.toList.count false≤fuel→(∀ i o,l[i]?=some o→ls.getD i true=true→∀ j∈afs o,ls.getD j true=true) →
  S ls a w→wpAnyIn C.F 0 P .any l.toArray Q' fuel ls a w:=by
  intro fuel
  have allDone:∀ (ls:Array Bool),ls.size=l.length→Region.ready .any l.toArray ls=[]→∀ i,i<l.length→ls.getD i true=true:=by
   intro ls hsz hr i
   induction i using Nat.strongRecOn with
   | _ i ih =>
    intro hi
    cases hg:ls.getD i true with
    | true=>rfl
    | false =>
     exfalso
     have:i∈Region.ready .any l.toArray ls:=by
      refine mem_ready.2 ⟨hg,l[i],by simp [hi],fun e he hb=>?_⟩
      have hlt:e.on<i:=hc1 i l[i] (by simp [hi]) _ (by
       simp only [afs,List.mem_filterMap]
       exact ⟨e,by simpa using he,by simp [hb]⟩)
      have:=ih e.on hlt (by omega)
      have hs':e.on<ls.size:=by omega
      simp only [Array.getD_eq_getD_getElem?,Array.getElem?_eq_getElem hs',Option.getD_some] at this ⊢
      exact this
     rw [hr] at this
     cases this
  have toTail:∀ ls a w dn pre A al,DS C l m (Q .normal) XT E H0 L plan ls a w [] dn pre A al→(∀ i,i<m→i<l.length→ls.getD i true=true)→wpListIn C.F 0 P l.toArray Q' (l.drop m) a w:=by
   intro ls a w dn pre A al hD hall
   have hck:=hD.chk
   simp only [dtChk] at hck
   have hin:∀ i,i<m→i∈dn.map Nd.ix:=fun i hi=>by
    have:=List.all_eq_true.1 hck i (by simpa using hi)
    simpa using this
   have hal0:al=[]:=by
    cases al with
    | nil=>rfl
    | cons x al =>
     obtain ⟨h1,h2,_⟩:=hD.alO x (by simp)
     exact absurd (hin _ (hALm _ (al_mem h1))) h2
   obtain ⟨ds,hds,hi⟩:=hD.mem
   refine tailQ pre A a w hD.dt ⟨ds,hds,⟨hD.frN,fun t u hu=>?_⟩,by rw [hal0] at hi;simpa using hi⟩
   rcases lk_allE hu with ⟨s,hs1,rfl,rfl⟩ | hu
   ·obtain ⟨o,ho,_,hm⟩:=hD.preO s hs1
    exact hD.val s hs1 (hall _ hm (List.getElem?_eq_some_iff.1 ho).1)
   ·exact hXT ls a hD.frE t u hu
  have finish:∀ (ls:Array Bool) a w,ls.size=l.length→Region.ready .any l.toArray ls=[]→S ls a w→Q' .normal a w:=by
   intro ls a w hsz hr hS
   have hall:=allDone ls hsz hr
   rcases hS with ⟨p,dn,pre,A,al,hD,hN⟩ | ⟨t,h1,h2,h3⟩
   ·have hck:=hD.chk
    cases p with
    | nil =>
     have hm:l.length≤m:=by
      rcases Nat.lt_or_ge m l.length with h | h
      ·simp only [dtChk] at hck
       rcases hD.exe m h (hall m h) with x | x
       ·obtain ⟨n,hn1,hn2⟩:=List.mem_map.1 x
        have:=hD.dnM n hn1
        omega
       ·exact absurd (hALm _ x) (by omega)
      ·exact h
     have:=toTail ls a w dn pre A al hD (fun i _ hi=>hall i hi)
     rw [List.drop_eq_nil_of_le hm] at this;exact this
    | cons nd p =>
     simp only [dtChk,Bool.and_eq_true,Bool.not_eq_true'] at hck
     obtain ⟨⟨⟨⟨c1,c2⟩,c3⟩,c4⟩,c5⟩:=hck
     have c3':=Nat.blt_eq.mp c3
     cases nd <;> simp only [NF] at hN
     case c k X =>
      simp only [Bool.and_eq_true,Bool.not_eq_true'] at c4
      rcases hD.exe k c3' (hall k c3') with x | x
      ·exact absurd x (by simpa [Nd.ix] using c1)
      ·exact absurd x (by simpa using c4.1.1)
     case s k X =>
      simp only [Bool.and_eq_true,Bool.not_eq_true'] at c4
      rcases hD.exe k c3' (hall k c3') with x | x
      ·exact absurd x (by simpa [Nd.ix] using c1)
      ·exact absurd x (by simpa using c4.1.1)
     case a k d z =>
      have:=hall k c3'
      rw [hN] at this;cases this
   ·have:l.length≤t:=by
     rcases Nat.lt_or_ge t l.length with h | h
     ·have e1:=h2 t h
      rw [hall t h] at e1
      have:=Nat.blt_eq.mp e1.symm
      omega
     ·exact h
    rw [List.drop_eq_nil_of_le this] at h3;exact h3
  induction fuel with
  | zero =>
   intro ls a w hsz hcnt hcl hS
   have hr:Region.ready .any l.toArray ls=[]:=by
    cases hr:Region.ready .any l.toArray ls with
    | nil=>rfl
    | cons i r =>
     have hi:i∈Region.ready .any l.toArray ls:=by rw [hr];simp
     obtain ⟨h1,o,h2,_⟩:=mem_ready.1 hi
     have hlt:i<ls.size:=by
      rw [hsz];have:=(Array.getElem?_eq_some_iff.1 h2).1;simpa using this
     have:false∈ls.toList:=by
      have e:ls[i]?=some false:=by
       simp only [Array.getD_eq_getD_getElem?,Array.getElem?_eq_getElem hlt,Option.getD_some] at h1
       rw [Array.getElem?_eq_getElem hlt,h1]
      exact Array.mem_toList_iff.2 (Array.mem_of_getElem? e)
     have:=List.count_pos_iff.2 this
     omega
   exact ⟨hr,finish ls a w hsz hr hS⟩
  | succ fuel ih =>
   intro ls a w hsz hcnt hcl hS
   refine ⟨fun hr=>finish ls a w hsz hr hS,fun i hi=>?_⟩
   obtain ⟨h1,o,ho,haf⟩:=mem_ready.1 hi
   have ho':l[i]?=some o:=by simpa using ho
   have hil:i<l.length:=(List.getElem?_eq_some_iff.1 ho').1
   have his:i<ls.size:=by omega
   have hcnt':(ls.setIfInBounds i true).toList.count false≤fuel:=by
    have e:ls.toList[i]?=some false:=by
     simp only [Array.getD_eq_getD_getElem?,Array.getElem?_eq_getElem his,Option.getD_some] at h1
     simp [his,h1]
    have:=count_set ls.toList i e
    rw [Array.toList_setIfInBounds]
    omega
   have hsz':(ls.setIfInBounds i true).size=l.length:=by simp [hsz]
   have hbefore:∀ j,j∈afs o→ls.getD j true=true:=by
    intro j hj
    simp only [afs,List.mem_filterMap] at hj
    obtain ⟨e,he,hb⟩:=hj
    split at hb
    ·rename_i hb'
     simp at hb
     subst hb
     have hh:=haf e (by simpa using he) hb'
     have hlt:e.on<ls.size:=by
      have:=hc1 i o ho' e.on (by simp only [afs,List.mem_filterMap];exact ⟨e,he,by simp [hb']⟩)
      omega
     simp only [Array.getD_eq_getD_getElem?,Array.getElem?_eq_getElem hlt,Option.getD_some] at hh ⊢
     exact hh
    ·cases hb
   have hset:∀ j,j≠i→(ls.setIfInBounds i true).getD j true=ls.getD j true:=by
    intro j hj
    rw [getD_set ls i j his]
    have:(i==j)=false:=by simp;omega
    rw [this];simp
   have hseti:(ls.setIfInBounds i true).getD i true=true:=by rw [getD_set ls i i his];simp
   have hcl':∀ i' o',l[i']?=some o'→(ls.setIfInBounds i true).getD i' true=true→∀ j∈afs o',(ls.setIfInBounds i true).getD j true=true:=by
    intro i' o' ho2 hl' j hj
    by_cases ej:j=i
    ·rw [ej];exact hseti
    ·rw [hset j ej]
     by_cases ei:i'=i
     ·subst ei
      rw [ho'] at ho2
      obtain rfl:o=o':=by simpa using ho2
      exact hbefore j hj
     ·exact hcl i' o' ho2 (by rw [← hset i' ei];exact hl') j hj
   have hT':∀ j∈(cloT l).getD i [],ls.getD j true=true:=clo ls hcl i o ho' hbefore
   have tailStep:∀ a w,(∀ j,j<i→ls.getD j true=true)→m≤i→(∀ j,i≤j→j<l.length→ls.getD j true=false)→wpListIn C.F 0 P l.toArray Q' (l.drop i) a w →
    wpOpIn C.F 0 P l.toArray Q' i (wpAnyIn C.F 0 P .any l.toArray Q' fuel (ls.setIfInBounds i true)) a w:=by
    intro a w hlo hm hhi hw
    refine wpOpIn_mono (fun a' w' h'=>ih _ a' w' hsz' hcnt' hcl' (.inr ⟨i+1,by omega,fun j hj=>?_,h'⟩)) (hlist i o a w ho' hw)
    rw [getD_set ls i j his]
    rcases Nat.lt_trichotomy j i with h | h | h
    ·rw [hlo j h];have:Nat.blt j (i+1)=true:=Nat.blt_eq.mpr (by omega)
     rw [this];rfl
    ·subst h;have:Nat.blt j (j+1)=true:=Nat.blt_eq.mpr (by omega)
     rw [this];simp
    ·rw [hhi j (by omega) hj]
     have e1:(i==j)=false:=by simp;omega
     have e2:Nat.blt j (i+1)=false:=by
      cases hb:Nat.blt j (i+1) with
      | false=>rfl
      | true=>have:=Nat.blt_eq.mp hb;omega
     rw [e1,e2];rfl
   have go:∀ a' w' p dn pre A al,DS C l m (Q .normal) XT E H0 L plan (ls.setIfInBounds i true) a' w' p dn pre A al→wpAnyIn C.F 0 P .any l.toArray Q' fuel (ls.setIfInBounds i true) a' w':=by
    intro a' w' p dn pre A al hD
    obtain ⟨p',dn',pre',A',al',hD',hN'⟩:=hD.norm hdis hal
    exact ih _ a' w' hsz' hcnt' hcl' (.inl ⟨p',dn',pre',A',al',hD',hN'⟩)
   rcases hS with ⟨p,dn,pre,A,al,hD,hN⟩ | ⟨t,g1,g2,g3⟩
   ·obtain ⟨ds0,hds,hmem⟩:=hD.mem
    have ixM:∀ j∈dn.map Nd.ix,j<m:=fun j hj=>by
     obtain ⟨n,hn1,rfl⟩:=List.mem_map.1 hj
     exact hD.dnM n hn1
    have keepS:∀ (d:Nat) (a':Act) (u:Value),i<m→o.dst=some d→a'.tmps=(a.put o.dst u).tmps →
     (∀ t,t≠d→a'.tmps[t]?=a.tmps[t]?)∧(∀ s∈pre,s.ix≠i→s.d≠d)∧(∀ x∈al,x.k≠i→x.d≠d):=by
     intro d a' u him hd hu
     refine ⟨fun t ht=>?_,fun s hs hne e=>?_,fun x hx hne e=>?_⟩
     ·rw [hu,hd];simp [Act.put,Array.getElem?_setIfInBounds_ne (Ne.symm ht)]
     ·obtain ⟨o2,ho2,hd2,hm2⟩:=hD.preO s hs
      exact hc3 s.ix i o2 o hm2 him ho2 ho' hne (by rw [hd2];rfl) (by rw [hd2,hd,e])
     ·obtain ⟨x1,_,_⟩:=hD.alO x hx
      obtain ⟨o2,ho2,hd2,_,_⟩:=hal.at x1
      exact hc3 x.k i o2 o (hALm _ (al_mem x1)) him ho2 ho' hne (by rw [hd2];rfl) (by rw [hd2,hd,e])
    have frNext:∀ (d:Nat) (a':Act),i<m→o.dst=some d→(∀ t,t≠d→a'.tmps[t]?=a.tmps[t]?)→∀ t v,lk E t=some v→a'.tmps[t]?=some v∨∃ k o,l[k]?=some o∧k<m∧o.dst=some t∧(ls.setIfInBounds i true).getD k true=true:=by
     intro d a' him hd hk t v hv
     by_cases e:t=d
     ·exact .inr ⟨i,o,ho',him,by rw [hd,e],hseti⟩
     ·rcases hD.frE t v hv with h | ⟨k,o2,g1,g2,g3,g4⟩
      ·exact .inl (by rw [hk t e];exact h)
      ·refine .inr ⟨k,o2,g1,g2,g3,?_⟩
       by_cases e2:k=i
       ·rw [e2];exact hseti
       ·rw [hset k e2];exact g4
    by_cases hid:i∈dn.map Nd.ix
    ·
     have him:=ixM i hid
     obtain ⟨nd,hnd,hix⟩:=List.mem_map.1 hid
     have hp:=hD.pend nd hnd (by rw [hix];exact h1)
     have runQ:∀ (X:List Nat) (Hq B:List HP),PQ C l E pre i X Hq→(∀ t u,lk (delE X E) t=some u→a.tmps[t]?=some u)→(al.map AE.p++(A++H0)).Perm (B++Hq)→wpOpIn C.F 0 P l.toArray Q' i (wpAnyIn C.F 0 P .any l.toArray Q' fuel (ls.setIfInBounds i true)) a w:=by
      intro X Hq B hpq hXn hB
      obtain ⟨o',d,v,Eq,q1,q2,q3,q4,q5,q6⟩:=hpq
      rw [ho'] at q1
      obtain rfl:o=o':=by simpa using q1
      refine hone i o (L++B) ds0 Eq Hq _ _ a w ho' q5 ⟨hds,⟨hD.frN,fun t u hu=>?_⟩,?_⟩ ?_
      ·rcases q6 t u hu with ⟨s,s1,s2,s3,s4⟩ | hu
       ·rw [← s3,← s4];exact hD.val s s1 (hbefore _ s2)
       ·exact hXn t u hu
      ·have hm2:=hmem.perm (hB.append_left _)
       simpa [List.append_assoc] using hm2
      ·rintro ds' E' H' a' w' ⟨rfl,rfl⟩ hst ⟨u,hu⟩
       obtain ⟨k1,k2,k3⟩:=keepS d a' u him q2 hu
       refine go a' w' p dn pre A al ⟨hD.chk,hD.dt,hD.sub,fun j hj hl'=>?_,hD.dnM,hD.dnP,hD.preD,hD.uniq,hD.preO,fun s hs hl'=>?_,fun x hx=>?_,fun x hx=>?_,fun k hk hk' hl'=>?_,fun n hn' hl'=>?_,⟨ds',hst.defers,?_⟩,hst.fr.size,frNext d a' him q2 k1⟩
       ·by_cases e:j=i
        ·exact .inl (e▸hid)
        ·exact hD.exe j hj (by rw [← hset j e];exact hl')
       ·by_cases e:s.ix=i
        ·have:=hD.uniq s hs ⟨i,d,v⟩ q4 e
         rw [this]
         exact hst.fr.get d v (by simp [lk])
        ·rw [k1 _ (k2 s hs e)];exact hD.val s hs (by rw [← hset _ e];exact hl')
       ·obtain ⟨x1,x2,x3⟩:=hD.alO x hx
        refine ⟨x1,x2,?_⟩
        rw [k1 _ (k3 x hx (fun e=>x2 (e▸hid)))];exact x3
       ·by_cases e:x.k=i
        ·rw [e];exact hseti
        ·rw [hset _ e];exact hD.alX x hx
       ·exact hD.alC k hk hk' (by rw [← hset k (fun e=>hk' (e▸hid))];exact hl')
       ·have:n.ix≠i:=fun e=>by rw [e,hseti] at hl';cases hl'
        exact hD.pend n hn' (by rw [← hset _ this];exact hl')
       ·exact Inv.perm (by have:=hst.inv;simpa [List.append_assoc] using this) (hB.symm.append_left (ds'.map ptd++L))
     cases nd with
     | g k X Q =>
      simp only [Nd.ix] at hix;subst hix
      obtain ⟨⟨R,pk⟩,hp⟩:=hp
      refine runQ X [Q] (al.map AE.p++R) hp (hX _ (hD.dnP _ hnd) ls a hcl h1 hD.frE) ?_
      rw [List.append_assoc]
      exact (pk.perm.trans (List.perm_append_comm (l₁:=[Q]) (l₂:=R))).append_left _
     | r k X=>simp only [Nd.ix] at hix;subst hix;exact runQ X [] (al.map AE.p++(A++H0)) hp (hX _ (hD.dnP _ hnd) ls a hcl h1 hD.frE) (by simp)
     | b k X=>simp only [Nd.ix] at hix;subst hix;exact runQ X H0 (al.map AE.p++A) hp (hX _ (hD.dnP _ hnd) ls a hcl h1 hD.frE) (by simp)
     | f k X =>
      simp only [Nd.ix] at hix;subst hix
      obtain ⟨As,Aq,e,hp⟩:=hp
      exact runQ X (Aq++H0) (al.map AE.p++As) hp (hX _ (hD.dnP _ hnd) ls a hcl h1 hD.frE) (by simp [e])
     | c k X=>exact hp.elim
     | s k X=>exact hp.elim
     | a k d z=>exact hp.elim
    ·by_cases hia:i∈plan.flatMap Nd.al
     ·
      have him:=hALm i hia
      obtain ⟨d,z,hpl⟩:=mem_al hia
      obtain ⟨o',q1,q2,q3,q4⟩:=hal.at hpl
      rw [ho'] at q1
      obtain rfl:o=o':=by simpa using q1
      refine hone i o (L++(al.map AE.p++(A++H0))) ds0 [] [] _ _ a w ho' q4 ⟨hds,⟨hD.frN,fun t u hu=>by simp [lk] at hu⟩,by simpa [List.append_assoc] using hmem⟩ ?_
      rintro ds' E' H' a' w' ⟨b,rfl,rfl⟩ hst ⟨u,hu⟩
      obtain ⟨k1,k2,k3⟩:=keepS d a' u him q2 hu
      refine go a' w' p dn pre A (⟨i,d,b,z⟩::al) ⟨hD.chk,hD.dt,hD.sub,fun j hj hl'=>?_,hD.dnM,hD.dnP,hD.preD,hD.uniq,hD.preO,fun s hs hl'=>?_,fun x hx=>?_,fun x hx=>?_,fun k hk hk' hl'=>?_,fun n hn' hl'=>?_,⟨ds',hst.defers,?_⟩,hst.fr.size,frNext d a' him q2 k1⟩
      ·by_cases e:j=i
       ·exact .inr (e▸hia)
       ·exact hD.exe j hj (by rw [← hset j e];exact hl')
      ·have e:s.ix≠i:=fun e=>hid (e▸hD.preD s hs)
       rw [k1 _ (k2 s hs e)];exact hD.val s hs (by rw [← hset _ e];exact hl')
      ·rcases List.mem_cons.1 hx with rfl | hx
       ·exact ⟨hpl,hid,hst.fr.get d _ (by simp [lk])⟩
       ·obtain ⟨x1,x2,x3⟩:=hD.alO x hx
        refine ⟨x1,x2,?_⟩
        have e:x.k≠i:=fun e=>by have:=hD.alX x hx;rw [e,h1] at this;cases this
        rw [k1 _ (k3 x hx e)];exact x3
      ·by_cases e:x.k=i
       ·rw [e];exact hseti
       ·rcases List.mem_cons.1 hx with rfl | hx
        ·exact absurd rfl e
        ·rw [hset _ e];exact hD.alX x hx
      ·by_cases e:k=i
       ·exact ⟨⟨i,d,b,z⟩,by simp,e.symm⟩
       ·obtain ⟨x,hx,hxk⟩:=hD.alC k hk hk' (by rw [← hset k e];exact hl')
        exact ⟨x,by simp [hx],hxk⟩
      ·have:n.ix≠i:=fun e=>by rw [e,hseti] at hl';cases hl'
       exact hD.pend n hn' (by rw [← hset _ this];exact hl')
      ·have:=hst.inv
       refine this.perm ?_
       have e:List.map AE.p (⟨i,d,b,z⟩::al)=pt b z::al.map AE.p:=rfl
       rw [e]
       have:=List.perm_append_comm (l₁:=al.map AE.p++(A++H0)) (l₂:=[pt b z])
       have:=List.Perm.append_left (ds'.map ptd++L) this
       simpa [List.append_assoc] using this
     ·
      have hexe:∀ x∈afs o,x∈dn.map Nd.ix∨x∈plan.flatMap Nd.al:=fun x hx=>hD.exe x (by have:=hc1 i o ho' x hx;omega) (hbefore x hx)
      have hck:=hD.chk
      cases p with
      | nil =>
       simp only [dtChk] at hck
       have hin:∀ j,j<m→j∈dn.map Nd.ix:=fun j hj=>by
        have:=List.all_eq_true.1 hck j (by simpa using hj)
        simpa using this
       have him:m≤i:=by
        rcases Nat.lt_or_ge i m with h | h
        ·exact absurd (hin i h) hid
        ·exact h
       have hlo:∀ j,j<i→ls.getD j true=true:=fun j hj=>hT' j (hc2 i him hil j hj)
       have hno:∀ j,m≤j→j<l.length→ls.getD j true=false:=by
        intro j hj hjl
        cases hg:ls.getD j true with
        | false=>rfl
        | true =>
         rcases hD.exe j hjl hg with x | x
         ·have:=ixM j x;omega
         ·have:=hALm j x;omega
       have e:i=m:=by
        rcases Nat.lt_or_ge m i with h | h
        ·have e1:=hno m (Nat.le_refl _) (by omega)
         rw [hlo m h] at e1;cases e1
        ·omega
       subst e
       exact tailStep a w hlo (Nat.le_refl _) (fun j hj1 hj2=>hno j hj1 hj2) (toTail ls a w dn pre A al hD (fun j hj _=>hlo j hj))
      | cons nd p =>
       simp only [dtChk,Bool.and_eq_true,Bool.not_eq_true'] at hck
       obtain ⟨⟨⟨⟨c1,c2⟩,c3⟩,c4⟩,c5⟩:=hck
       cases nd <;> simp only [NF] at hN
       case c k X =>
        simp only [Bool.and_eq_true,Bool.not_eq_true'] at c4
        obtain ⟨⟨c6,c7⟩,c8⟩:=c4
        have hik:i=k:=by
         have:=List.all_eq_true.1 c8 (o,i) (by rw [List.mem_zipIdx_iff_getElem?];simpa using ho')
         simp only [Bool.or_eq_true] at this
         rcases this with ((h | h) | h) | h
         ·exact absurd (by simpa using h) hid
         ·exact absurd (by simpa using h) hia
         ·exact Nat.eq_of_beq_eq_true h
         ·obtain ⟨x,hx,hx'⟩:=List.any_eq_true.1 h
          simp only [Bool.and_eq_true,Bool.not_eq_true'] at hx'
          rcases hexe x hx with y | y
          ·exact absurd y (by simpa using hx'.1)
          ·exact absurd y (by simpa using hx'.2)
        subst hik
        have him:=Nat.blt_eq.mp c2
        simp only [Nd.ix] at him
        obtain ⟨o',d,q1,q2,q3,q4⟩:=hD.dt
        rw [ho'] at q1
        obtain rfl:o=o':=by simpa using q1
        refine hone i o (L++al.map AE.p) ds0 _ (A++H0) _ _ a w ho' q4 ⟨hds,⟨hD.frN,fun t u hu=>?_⟩,by simpa [List.append_assoc] using hmem⟩ ?_
        ·rcases lk_selE hu with ⟨s,s1,s2,s3,s4⟩ | hu
         ·rw [← s3,← s4];exact hD.val s s1 (hbefore _ s2)
         ·exact hX (.c i X) (hD.sub _ (by simp)) ls a hcl h1 hD.frE t u hu
        rintro ds' E' H' a' w' ⟨v,A',rfl,rfl,hkp,hdt'⟩ hst ⟨u,hu⟩
        obtain ⟨k1,k2,k3⟩:=keepS d a' u him q2 hu
        have hne:∀ s∈pre,s.ix≠i:=fun s hs e=>hid (e▸hD.preD s hs)
        refine go a' w' p (.c i X::dn) (⟨i,d,v⟩::pre) A' al ⟨c5,hdt',fun n hn'=>hD.sub n (by simp [hn']),fun j hj hl'=>?_,?_,?_,?_,?_,?_,?_,fun x hx=>?_,fun x hx=>?_,fun k hk hk' hl'=>?_,fun n hn' hl'=>?_,⟨ds',hst.defers,?_⟩,hst.fr.size,frNext d a' him q2 k1⟩
        ·by_cases e:j=i
         ·exact .inl (by simp [Nd.ix,e])
         ·rcases hD.exe j hj (by rw [← hset j e];exact hl') with x | x
          ·exact .inl (by simp only [List.map_cons,List.mem_cons];exact .inr x)
          ·exact .inr x
        ·intro n hn'
         rcases List.mem_cons.1 hn' with rfl | hn'
         ·exact him
         ·exact hD.dnM n hn'
        ·intro n hn'
         rcases List.mem_cons.1 hn' with rfl | hn'
         ·exact hD.sub _ (by simp)
         ·exact hD.dnP n hn'
        ·intro s hs
         rcases List.mem_cons.1 hs with rfl | hs
         ·simp [Nd.ix]
         ·simp only [List.map_cons,List.mem_cons];exact .inr (hD.preD s hs)
        ·intro s hs s' hs' e
         rcases List.mem_cons.1 hs with rfl | hs <;> rcases List.mem_cons.1 hs' with rfl | hs'
         ·rfl
         ·exact absurd e.symm (hne s' hs')
         ·exact absurd e (hne s hs)
         ·exact hD.uniq s hs s' hs' e
        ·intro s hs
         rcases List.mem_cons.1 hs with rfl | hs
         ·exact ⟨o,ho',q2,him⟩
         ·exact hD.preO s hs
        ·intro s hs hl'
         rcases List.mem_cons.1 hs with rfl | hs
         ·exact hst.fr.get d v (by simp [lk])
         ·rw [k1 _ (k2 s hs (hne s hs))];exact hD.val s hs (by rw [← hset _ (hne s hs)];exact hl')
        ·obtain ⟨x1,x2,x3⟩:=hD.alO x hx
         have hxi:x.k≠i:=fun e=>hia (e▸al_mem x1)
         refine ⟨x1,?_,?_⟩
         ·simp only [List.map_cons,List.mem_cons,not_or];exact ⟨hxi,x2⟩
         ·rw [k1 _ (k3 x hx hxi)];exact x3
        ·by_cases e:x.k=i
         ·rw [e];exact hseti
         ·rw [hset _ e];exact hD.alX x hx
        ·have hki:k≠i:=fun e=>hia (e▸hk)
         simp only [List.map_cons,List.mem_cons,not_or] at hk'
         exact hD.alC k hk hk'.2 (by rw [← hset k hki];exact hl')
        ·rcases List.mem_cons.1 hn' with rfl | hn'
         ·simp only [Nd.ix] at hl';rw [hseti] at hl';cases hl'
         ·have hni:n.ix≠i:=fun e=>hid (e▸List.mem_map.2 ⟨n,hn',rfl⟩)
          rw [hset _ hni] at hl'
          have hp:=hD.pend n hn' hl'
          cases n with
          | g k _ Q =>
           rcases hkp.at hn' with hk | hk
           ·have:=hT' k (by simpa using hk)
            simp only [Nd.ix] at hl'
            rw [this] at hl';cases hl'
           ·exact ⟨hk,PQ.more hp.2 _⟩
          | r k _=>exact PQ.more hp _
          | b k _=>exact PQ.more hp _
          | f k _ =>
           have:=List.all_eq_true.1 c7 _ hn'
           simp only [Nd.isF,Nd.ix,Bool.not_true,Bool.false_or] at this
           have:=hT' k (by simpa using this)
           simp only [Nd.ix] at hl'
           rw [this] at hl';cases hl'
          | c k _=>exact hp.elim
          | s k _=>exact hp.elim
          | a k d z=>exact hp.elim
        ·have:=hst.inv
         simpa [List.append_assoc] using this
       case s k X =>
        simp only [Bool.and_eq_true,Bool.not_eq_true'] at c4
        obtain ⟨⟨c6,c7⟩,c8⟩:=c4
        have hik:i=k:=by
         have:=List.all_eq_true.1 c8 (o,i) (by rw [List.mem_zipIdx_iff_getElem?];simpa using ho')
         simp only [Bool.or_eq_true] at this
         rcases this with ((h | h) | h) | h
         ·exact absurd (by simpa using h) hid
         ·exact absurd (by simpa using h) hia
         ·exact Nat.eq_of_beq_eq_true h
         ·obtain ⟨x,hx,hx'⟩:=List.any_eq_true.1 h
          simp only [Bool.and_eq_true,Bool.not_eq_true'] at hx'
          rcases hexe x hx with y | y
          ·exact absurd y (by simpa using hx'.1)
          ·exact absurd y (by simpa using hx'.2)
        subst hik
        have him:=Nat.blt_eq.mp c2
        simp only [Nd.ix] at him
        obtain ⟨o',q1,q2,q4⟩:=hD.dt
        rw [ho'] at q1
        obtain rfl:o=o':=by simpa using q1
        refine hone i o (L++al.map AE.p) ds0 _ (A++H0) _ _ a w ho' q4 ⟨hds,⟨hD.frN,fun t u hu=>?_⟩,by simpa [List.append_assoc] using hmem⟩ ?_
        ·rcases lk_selE hu with ⟨s,s1,s2,s3,s4⟩ | hu
         ·rw [← s3,← s4];exact hD.val s s1 (hbefore _ s2)
         ·exact hX (.s i X) (hD.sub _ (by simp)) ls a hcl h1 hD.frE t u hu
        rintro ds' E' H' a' w' ⟨A',rfl,rfl,hkp,hdt'⟩ hst ⟨u,hu⟩
        have k1:a'.tmps=a.tmps:=by rw [hu,q2];rfl
        have hne:∀ s∈pre,s.ix≠i:=fun s hs e=>hid (e▸hD.preD s hs)
        refine go a' w' p (.s i X::dn) pre A' al ⟨c5,hdt',fun n hn'=>hD.sub n (by simp [hn']),fun j hj hl'=>?_,?_,?_,?_,?_,?_,?_,fun x hx=>?_,fun x hx=>?_,fun k hk hk' hl'=>?_,fun n hn' hl'=>?_,⟨ds',hst.defers,?_⟩,hst.fr.size,fun t u' hu'=>?_⟩
        ·by_cases e:j=i
         ·exact .inl (by simp [Nd.ix,e])
         ·rcases hD.exe j hj (by rw [← hset j e];exact hl') with x | x
          ·exact .inl (by simp only [List.map_cons,List.mem_cons];exact .inr x)
          ·exact .inr x
        ·intro n hn'
         rcases List.mem_cons.1 hn' with rfl | hn'
         ·exact him
         ·exact hD.dnM n hn'
        ·intro n hn'
         rcases List.mem_cons.1 hn' with rfl | hn'
         ·exact hD.sub _ (by simp)
         ·exact hD.dnP n hn'
        ·intro s hs
         simp only [List.map_cons,List.mem_cons];exact .inr (hD.preD s hs)
        ·exact hD.uniq
        ·exact hD.preO
        ·intro s hs hl'
         rw [k1];exact hD.val s hs (by rw [← hset _ (hne s hs)];exact hl')
        ·obtain ⟨x1,x2,x3⟩:=hD.alO x hx
         have hxi:x.k≠i:=fun e=>hia (e▸al_mem x1)
         refine ⟨x1,?_,?_⟩
         ·simp only [List.map_cons,List.mem_cons,not_or];exact ⟨hxi,x2⟩
         ·rw [k1];exact x3
        ·by_cases e:x.k=i
         ·rw [e];exact hseti
         ·rw [hset _ e];exact hD.alX x hx
        ·have hki:k≠i:=fun e=>hia (e▸hk)
         simp only [List.map_cons,List.mem_cons,not_or] at hk'
         exact hD.alC k hk hk'.2 (by rw [← hset k hki];exact hl')
        ·rcases List.mem_cons.1 hn' with rfl | hn'
         ·simp only [Nd.ix] at hl';rw [hseti] at hl';cases hl'
         ·have hni:n.ix≠i:=fun e=>hid (e▸List.mem_map.2 ⟨n,hn',rfl⟩)
          rw [hset _ hni] at hl'
          have hp:=hD.pend n hn' hl'
          cases n with
          | g k _ Q =>
           rcases hkp.at hn' with hk | hk
           ·have:=hT' k (by simpa using hk)
            simp only [Nd.ix] at hl'
            rw [this] at hl';cases hl'
           ·exact ⟨hk,hp.2⟩
          | r k _=>exact hp
          | b k _=>exact hp
          | f k _ =>
           have:=List.all_eq_true.1 c7 _ hn'
           simp only [Nd.isF,Nd.ix,Bool.not_true,Bool.false_or] at this
           have:=hT' k (by simpa using this)
           simp only [Nd.ix] at hl'
           rw [this] at hl';cases hl'
          | c k _=>exact hp.elim
          | s k _=>exact hp.elim
          | a k d z=>exact hp.elim
        ·have:=hst.inv
         simpa [List.append_assoc] using this
        ·rw [k1]
         rcases hD.frE t u' hu' with h | ⟨k,o2,g1,g2,g3,g4⟩
         ·exact .inl h
         ·refine .inr ⟨k,o2,g1,g2,g3,?_⟩
          by_cases e2:k=i
          ·rw [e2];exact hseti
          ·rw [hset k e2];exact g4
       case a k d z =>
        simp only [Bool.and_eq_true] at c4
        exfalso
        have:=List.all_eq_true.1 c4.2 (o,i) (by rw [List.mem_zipIdx_iff_getElem?];simpa using ho')
        simp only [Bool.or_eq_true] at this
        rcases this with (h | h) | h
        ·exact absurd (by simpa using h) hid
        ·exact absurd (by simpa using h) hia
        ·obtain ⟨x,hx,hx'⟩:=List.any_eq_true.1 h
         simp only [Bool.and_eq_true,Bool.not_eq_true',Bool.or_eq_true] at hx'
         rcases hx'.2 with e | e
         ·have e':=Nat.eq_of_beq_eq_true e
          have:=hbefore x hx
          rw [e',hN] at this;cases this
         ·rcases hexe x hx with y | y
          ·exact absurd y (by simpa using hx'.1)
          ·exact absurd y (by simpa using e)
   ·have hit:t≤i:=by
     rcases Nat.lt_or_ge i t with h | h
     ·have e1:=g2 i hil
      rw [h1,Nat.blt_eq.mpr h] at e1;cases e1
     ·exact h
    have hlo:∀ j,j<i→ls.getD j true=true:=fun j hj=>hT' j (hc2 i (by omega) hil j hj)
    have e:i=t:=by
     rcases Nat.lt_or_ge t i with h | h
     ·have e1:=g2 t (by omega)
      rw [hlo t h] at e1
      have:=Nat.blt_eq.mp e1.symm
      omega
     ·omega
    subst e
    refine tailStep a w hlo (by omega) (fun j hj1 hj2=>?_) g3
    rw [g2 j hj2]
    cases hb:Nat.blt j i with
    | false=>rfl
    | true=>have:=Nat.blt_eq.mp hb;omega
 have hD0:DS C l m (Q .normal) XT E H0 L plan (Array.replicate l.toArray.size false) a { w with drawn:=w.drawn+1 } plan [] [] A0 []:=by
  refine ⟨hdt,h,fun _ h=>h,fun i hi hl'=>?_,by simp,by simp,by simp,by simp,by simp,by simp,by simp,by simp,fun k hk _ hl'=>?_,by simp,⟨ds,hs.defers,?_⟩,hs.fr.size,fun t v hv=>.inl (hs.fr.get t v hv)⟩
  ·simp [Array.getD_eq_getD_getElem?,hi] at hl'
  ·obtain ⟨d,z,hpl⟩:=mem_al hk
   obtain ⟨o,ho,_,_,_⟩:=hal.at hpl
   have:=(List.getElem?_eq_some_iff.1 ho).1
   simp [Array.getD_eq_getD_getElem?,this] at hl'
  ·have:=hs.inv.drawn
   exact this.sub (Sub.app (by simpa using hsub) _)
 obtain ⟨p,dn,pre,A,al,hD,hN⟩:=hD0.norm hdis hal
 refine main _ _ a _ (by simp) (by simp) (fun i o ho hl'=>?_) (.inl ⟨p,dn,pre,A,al,hD,hN⟩)
 have:=(List.getElem?_eq_some_iff.1 ho).1
 simp [Array.getD_eq_getD_getElem?,this] at hl'
end
end Go.TH
namespace Go.TH
open Go
theorem Inv.mono {w0:World} {M:List Nat} {L H:List HP} {A A':HP} {w:World} (hA:∀ h,A h→A' h) (h:Inv w0 M (L++A::H) w):Inv w0 M (L++A'::H) w:=by
 have h1:=h.perm List.perm_middle
 have h2:Inv w0 M (A'::(L++H)) w:=⟨h1.os,h1.tape,h1.output,h1.size,h1.keep,sat_mono hA h1.mine⟩
 exact h2.perm List.perm_middle.symm
theorem Inv.piece {w0:World} {M:List Nat} {L H:List HP} {A:HP} {w:World} (h:Inv w0 M (L++A::H) w):∃ h1,A h1 :=
 let ⟨h1,_,_,a,_⟩:=(h.perm List.perm_middle).mine;⟨h1,a⟩
theorem Inv.pickL {w0:World} {M:List Nat} {L H H':List HP} {A:HP} {w:World} (h:Inv w0 M (L++H) w) (p:Pick A H H'):Inv w0 M (L++A::H') w :=
 h.sub (Sub.app (.cons p (Sub.refl H')) L)
theorem Inv.dropL {w0:World} {M:List Nat} {L H:List HP} {A:HP} {w:World} (h:Inv w0 M (L++A::H) w):Inv w0 M (L++H) w :=
 h.sub (Sub.app (Sub.drop A H) L)
def OwC (e sz:Nat) (v:Value) (n:Nat) (cs:List Value):HP:=fun h =>
 cs.length=n*sz∧((v=.slice none 0 0∧n=0) ∨
  ∃ (g cap:Nat) (cur:List Value),v=.slice (some ⟨g,0,none⟩) n cap∧n≤cap∧cap≤maxLen∧cur.length=cap*sz∧cur.take (n*sz)=cs∧pt g (.cells cur.toArray e (0,0)) h)
theorem OwC.open {w0:World} {M:List Nat} {L H:List HP} {w:World} {e sz n:Nat} {v:Value} {cs:List Value} (h:Inv w0 M (L++OwC e sz v n cs::H) w) :
 cs.length=n*sz∧((v=.slice none 0 0∧n=0∧Inv w0 M (L++H) w) ∨
  ∃ (g cap:Nat) (cur:List Value),v=.slice (some ⟨g,0,none⟩) n cap∧n≤cap∧cap≤maxLen∧cur.length=cap*sz∧cur.take (n*sz)=cs∧Inv w0 M (L++pt g (.cells cur.toArray e (0,0))::H) w):=by
 have h1:=h.perm List.perm_middle
 obtain ⟨ha,hb,s,⟨hl,hc⟩,hr⟩:=h1.mine
 refine ⟨hl,?_⟩
 rcases hc with ⟨h2,h3⟩ | ⟨g,cap,cur,h2,h3,h4,h5,h6,h7⟩
 ·exact .inl ⟨h2,h3,h.dropL⟩
 ·refine .inr ⟨g,cap,cur,h2,h3,h4,h5,h6,?_⟩
  have:Inv w0 M (pt g (.cells cur.toArray e (0,0))::(L++H)) w:=⟨h1.os,h1.tape,h1.output,h1.size,h1.keep,ha,hb,s,h7,hr⟩
  exact this.perm List.perm_middle.symm
theorem OwC.shut {w0:World} {M:List Nat} {L H:List HP} {w:World} {e sz n g cap:Nat} {cs cur:List Value} (hl:cs.length=n*sz) (hn:n≤cap) (hm:cap≤maxLen) (hc:cur.length=cap*sz) (ht:cur.take (n*sz)=cs)
 (h:Inv w0 M (L++pt g (.cells cur.toArray e (0,0))::H) w):Inv w0 M (L++OwC e sz (.slice (some ⟨g,0,none⟩) n cap) n cs::H) w :=
 h.mono fun h hp=>⟨hl,.inr ⟨g,cap,cur,rfl,hn,hm,hc,ht,hp⟩⟩
theorem OwC.isSl {w0:World} {M:List Nat} {L H:List HP} {w:World} {e sz n:Nat} {v:Value} {cs:List Value} (h:Inv w0 M (L++OwC e sz v n cs::H) w):IsSl v n:=by
 obtain ⟨_,h⟩:=OwC.open h
 rcases h with ⟨rfl,rfl,_⟩ | ⟨g,cap,cur,rfl,h1,h2,_⟩
 ·exact ⟨by omega,none,0,rfl,fun h=>by omega⟩
 ·simp only [maxLen] at h2
  exact ⟨by omega,_,_,rfl,fun _=>⟨_,_,rfl⟩⟩
section
variable {P:Program} {C:Cx P} {E:Env} {H:List HP}
theorem WO.chg {ops:Array Oper} {l:List Oper} {K:KP} {H':List HP} (hi:∀ h,sat H h→sat H' h) (h:WO C ops l K E H'):WO C ops l K E H:=by
 intro L ds a w hs
 refine h L ds a w ⟨hs.defers,hs.fr,?_⟩
 have hv:=hs.inv
 refine ⟨hv.os,hv.tape,hv.output,hv.size,hv.keep,?_⟩
 obtain ⟨h1,h2,s,x,y⟩:=sat_app hv.mine
 exact sat_join s x (hi _ y)
theorem W.chg {c:Code} {Q:Post} {H':List HP} (hi:∀ h,sat H h→sat H' h) (h:W C c Q E H'):W C c Q E H:=by
 intro L ds a w hs
 refine h L ds a w ⟨hs.defers,hs.fr,?_⟩
 have hv:=hs.inv
 refine ⟨hv.os,hv.tape,hv.output,hv.size,hv.keep,?_⟩
 obtain ⟨h1,h2,s,x,y⟩:=sat_app hv.mine
 exact sat_join s x (hi _ y)
theorem WO.fact {ops:Array Oper} {l:List Oper} {K:KP} {p:Prop} (hp:∀ (L:List HP) w,Inv C.w0 C.M (L++H) w→p) (h:p→WO C ops l K E H):WO C ops l K E H :=
 fun L ds a w hs=>h (hp _ w hs.inv) L ds a w hs
theorem W.fact {c:Code} {Q:Post} {p:Prop} (hp:∀ (L:List HP) w,Inv C.w0 C.M (L++H) w→p) (h:p→W C c Q E H):W C c Q E H :=
 fun L ds a w hs=>h (hp _ w hs.inv) L ds a w hs
theorem OwC.form {e sz n:Nat} {v:Value} {cs:List Value} {H':List HP} (p:Pick (OwC e sz v n cs) H H'):∀ (L:List HP) w,Inv C.w0 C.M (L++H) w→∃ a c,v=.slice a n c:=fun _ _ hi=>by
 obtain ⟨_,h⟩:=OwC.open (hi.pickL p)
 rcases h with ⟨rfl,rfl,_⟩ | ⟨g,cap,cur,rfl,_⟩
 ·exact ⟨_,_,rfl⟩
 ·exact ⟨_,_,rfl⟩
theorem OwC.sl {e sz n:Nat} {v:Value} {cs:List Value} {H':List HP} (p:Pick (OwC e sz v n cs) H H'):∀ (L:List HP) w,Inv C.w0 C.M (L++H) w→IsSl v n:=fun _ _ hi=>OwC.isSl (hi.pickL p)
theorem OwC.cellAt {e sz n i j:Nat} {v u:Value} {cs:List Value} {H':List HP} (p:Pick (OwC e sz v n cs) H H') (hu:cs[i*sz+j]?=some u):Cell C H (((base v).add (i*sz)).add j) u:=by
 intro L w hi
 obtain ⟨hl,hc⟩:=OwC.open (hi.pickL p)
 have hlt:=(List.getElem?_eq_some_iff.1 hu).1
 rcases hc with ⟨rfl,rfl,_⟩ | ⟨g,cap,cur,rfl,h1,h2,h3,h4,hi'⟩
 ·simp at hl;subst hl;simp at hlt
 ·have hlook:=(hi'.look (b:=g) (o:=.cells cur.toArray e (0,0)) ((Pick.head).app L)).1
  have ea:((base (.slice (some ⟨g,0,none⟩) n cap)).add (i*sz)).add j=⟨g,i*sz+j,none⟩:=by simp [base,Addr.add_lit]
  rw [ea]
  subst h4
  rw [List.getElem?_take] at hu
  split at hu
  ·simp [World.cell?,hlook,hu]
  ·cases hu
theorem OwC.cell1 {e n i:Nat} {v:Value} {cs:List Value} {H':List HP} (p:Pick (OwC e 1 v n cs) H H') (hl:i<cs.length):Cell C H (elt v i 1) (cs.getD i undef):=by
 have:=OwC.cellAt (C:=C) (i:=i) (j:=0) (u:=cs.getD i undef) p (by simp [hl])
 rw [elt_eq]
 simpa [Addr.add] using this
theorem OwC.cells {e sz n:Nat} {v:Value} {cs:List Value} {H':List HP} (p:Pick (OwC e sz v n cs) H H'):Cells C H (base v) cs:=by
 intro j u hu
 have:=OwC.cellAt (C:=C) (i:=0) (j:=j) (u:=u) p (by simpa using hu)
 simpa [Addr.add] using this
section rules
variable {ops:Array Oper} {K:KP} {rest:List Oper} {d:Nat} {ty:TypeId} {pos:String} {af:Array Edge} {x y z:Operand} {T T':TypeId}
theorem sl_info {t:TTab P} {e sz by':Nat} {zv:Value} (hT:t.sl? T=some (e,sz,by')) (hz:t.z? e=some zv):∃ i,P.info? e=some i∧i.size=sz∧i.bytes=by'∧i.zero=some zv:=by
 have h1:=(SlT.of hT).size
 have h2:=(SlT.of hT).bytes
 have h3:=(ZT.of hz).zero
 unfold szv at h1;unfold byv at h2;unfold TH.zv at h3
 cases hi:P.info? e with
 | none=>simp [hi] at h1
 | some i=>simp [hi] at h1 h2 h3;exact ⟨i,rfl,h1,h2,h3⟩
theorem WO.append {e sz by' n m:Nat} {v u zv:Value} {cs news:List Value} {H':List HP} (hT:C.tt.sl? T=some (e,sz,by')) (hz:C.tt.z? e=some zv) (hzs:Nat.beq zv.cells.size sz=true)
 (hx:ev E x=some v) (hy:ev E y=some u) (p:Pick (OwC e sz v n cs) H H') (hS:IsSl u m) (hm:0<m) (hc:Cells C H (base u) news) (hl:news.length=m*sz) (h1:∀ u∈news,u.oneCell'=true)
 (hb:(n+m)*by'≤140737488355328) (h63:n+m≤9223372036854775807) (hN:Nat.blt d C.N=true)
 (h:∀ g c,WO C ops rest K ((d,.slice (some ⟨g,0,none⟩) (n+m) c)::E) (OwC e sz (.slice (some ⟨g,0,none⟩) (n+m) c) (n+m) (cs++news)::H')):WO C ops (⟨some d,.call ⟨.builtin .append,#[x,y],#[T,T]⟩,ty,pos,af,none⟩::rest) K E H:=by
 refine WO.step rfl rfl hN (XO.run (by simp) fun L a w hf hi=>?_)
 obtain ⟨i,hi1,hi2,hi3,hi4⟩:=sl_info hT hz
 subst hi2;subst hi3
 have hzs':=Nat.eq_of_beq_eq_true hzs
 have hmax:n+m≤maxLen:=by simpa [maxLen] using h63
 obtain ⟨a0,c0,rfl,ha0⟩:=hS.is
 obtain ⟨b0,o0,rfl⟩:=ha0 hm
 have hnews:∀ j v,news[j]?=some v→w.cell? ((⟨b0,o0,none⟩:Addr).add j)=some v:=fun j v hv=>hc j v hv L w hi
 obtain ⟨hcl,hcase⟩:=OwC.open (hi.pickL p)
 have hrun:∀ (v':Value) (w':World),(Builtin.append_ #[T,T] ty #[v,.slice (some ⟨b0,o0,none⟩) m c0]).run P w=.ok v' w'→(execOp a.eval ⟨some d,.call ⟨.builtin .append,#[x,y],#[T,T]⟩,ty,pos,af,none⟩).run P w=.ok (.value v') w':=by
  intro v' w' hr
  simp [execOp,resolve,hf.eval hx,hf.eval hy,invoke,builtin,hr]
 have hlen:(cs++news).length=(n+m)*i.size:=by rw [List.length_append,hcl,hl,Nat.add_mul]
 have grown:∀ (old:Nat),Inv C.w0 C.M (L++H') w→Inv C.w0 C.M (L++OwC e i.size (.slice (some ⟨w.heap.size,0,none⟩) (n+m) (grownCap w (n+m) old e)) (n+m) (cs++news)::H')
  (w.drew.alloc (.cells (cs.toArray++news.toArray++Builtin.zeroCells zv.cells (grownCap w (n+m) old e-(n+m))) e)):=by
  intro old hv
  have hge:=grownCap_ge w (n+m) old e
  have hcm:grownCap w (n+m) old e≤maxLen:=grownCap_le_maxLen w (n+m) old e hmax
  have h2:=(hv.drawn).alloc' (.cells (cs.toArray++news.toArray++Builtin.zeroCells zv.cells (grownCap w (n+m) old e-(n+m))) e)
  have e1:cs.toArray++news.toArray++Builtin.zeroCells zv.cells (grownCap w (n+m) old e-(n+m))=((cs++news)++(Builtin.zeroCells zv.cells (grownCap w (n+m) old e-(n+m))).toList).toArray:=by
   apply Array.ext';simp
  refine OwC.shut (cur:=(cs++news)++(Builtin.zeroCells zv.cells (grownCap w (n+m) old e-(n+m))).toList) hlen hge hcm ?_ ?_ ?_
  ·rw [List.length_append,hlen,Array.length_toList,size_zeroCells,hzs',← Nat.add_mul];congr 1;omega
  ·rw [← hlen];exact List.take_left
  ·rw [← e1];exact h2
 rcases hcase with ⟨rfl,rfl,hv⟩ | ⟨g,cap,cur,rfl,q1,q2,q3,q4,hv⟩
 ·have hcs:cs=[]:=List.eq_nil_of_length_eq_zero (by simpa using hcl)
  subst hcs
  have hr:=run_append_nil (P:=P) w T ty e i zv (SlT.of hT).u hi1 hi4 ⟨b0,o0,none⟩ m c0 news hl hnews hm (by omega) (by have:=hb;simp only [Nat.zero_add] at this;omega)
  have hg:=grown 0 hv
  simp only [Nat.zero_add,List.nil_append,Array.empty_append] at hg ⊢
  exact ⟨_,_,_,.inl (hrun _ _ hr),by simpa using h _ _,hg⟩
 ·have hlook:=(hv.look (b:=g) (o:=.cells cur.toArray e (0,0)) ((Pick.head).app L)).1
  by_cases hroom:n+m≤cap
  ·have hfit:n*i.size+news.length≤cur.toArray.size:=by rw [hl,List.size_toArray,q3,← Nat.add_mul];exact Nat.mul_le_mul_right _ hroom
   have hr:=run_append_room (P:=P) w T ty e i (SlT.of hT).u hi1 g n cap cur.toArray hlook ⟨b0,o0,none⟩ m c0 news hl hnews h1 hroom hfit
   refine ⟨_,_,_,.inl (hrun _ _ hr),h _ _,?_⟩
   have h2:=hv.set (b:=g) (o:=.cells cur.toArray e (0,0)) (o':=.cells (cur.toArray.toList.take (n*i.size)++news++cur.toArray.toList.drop (n*i.size+news.length)).toArray e (0,0)) (H':=L++H') (w':=w.setRow g (cur.toArray.toList.take (n*i.size)++news++cur.toArray.toList.drop (n*i.size+news.length)).toArray) ((Pick.mem)) rfl rfl rfl (setRow_size w g _) (setRow_heap w g _ _ _ _ hlook) (fun k hk=>setRow_other w g k _ hk)
   have h3:=h2.perm (List.perm_middle (l₁:=L) (l₂:=H')).symm
   refine OwC.shut hlen hroom q2 ?_ ?_ h3
   ·simp only [List.length_append,List.length_take,List.length_drop]
    rw [hl] at hfit ⊢
    simp only [List.size_toArray] at hfit
    omega
   ·rw [show cur.toArray.toList.take (n*i.size)=cs from q4,← hlen]
    exact List.take_left
  ·have holds:∀ j u,cs[j]?=some u→w.cell? ((⟨g,0,none⟩:Addr).add j)=some u:=by
    intro j u hu
    have:=OwC.cells (C:=C) p j u hu L w hi
    simpa [base] using this
   have hr:=run_append_grow (P:=P) w T ty e i zv (SlT.of hT).u hi1 hi4 ⟨g,0,none⟩ n cap cs hcl holds ⟨b0,o0,none⟩ m c0 news hl hnews (by omega) (by omega) (growslice_fits (by omega) hb)
   exact ⟨_,_,_,.inl (hrun _ _ hr),h _ _,grown cap hv.dropL⟩
theorem WO.storeOw {e n i:Nat} {v u:Value} {cs:List Value} {H':List HP} (hx:ev E x=some (.pointer (some (elt v i 1)))) (hy:ev E y=some u) (hT:C.tt.one? T=true) (h1:u.oneCell'=true) (p:Pick (OwC e 1 v n cs) H H') (hl:i<cs.length)
 (h:WO C ops rest K E (OwC e 1 v n (cs.set i u)::H')):WO C ops (⟨none,.store T x y,ty,pos,af,none⟩::rest) K E H:=by
 refine WO.step0 rfl rfl (XO.run (by simp) fun L a w hf hi=>?_)
 obtain ⟨hcl,hcase⟩:=OwC.open (hi.pickL p)
 rcases hcase with ⟨rfl,rfl,hv⟩ | ⟨g,cap,cur,rfl,q1,q2,q3,q4,hv⟩
 ·simp at hcl;subst hcl;simp at hl
 ·have hlook:=(hv.look (b:=g) (o:=.cells cur.toArray e (0,0)) ((Pick.head).app L)).1
  have ea:elt (.slice (some ⟨g,0,none⟩) n cap) i 1=⟨g,i,none⟩:=by rw [elt_eq];simp [base,Addr.add_lit]
  have hcl':cs.length≤cur.length:=by rw [hcl,q3];omega
  have hu:u.cells=[u].toArray:=by cases u <;> simp_all [Value.cells,Value.oneCell']
  obtain ⟨w',hr,a1,a2,a3,a4,a5,a6⟩:=run_storeVar_own (P:=P) (T:=T) (b:=g) (off:=i) (w:=w) (cs:=cur) hu (CT.of hT).size hlook (by simp;omega) (by simp [h1])
  refine ⟨undef,w',_,.inr ⟨?_,rfl⟩,h,?_⟩
  ·simp [execOp,hf.eval hx,hf.eval hy,ea,Instr.storeAt,Instr.sureAddr,hr]
  ·have h2:=hv.set (b:=g) (o:=.cells cur.toArray e (0,0)) (H':=L++H') Pick.mem a1 a2 a3 a4 a5 a6
   have h3:=h2.perm (List.perm_middle (l₁:=L) (l₂:=H')).symm
   refine OwC.shut (by simpa using hcl) q1 q2 (by simpa [wrl] using q3) ?_ h3
   simp only [wrl]
   rw [← q4,List.take_set]
end rules
end
end Go.TH
