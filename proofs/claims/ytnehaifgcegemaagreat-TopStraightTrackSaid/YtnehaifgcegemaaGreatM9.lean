/-
  What is proved here: regions that draw their order, in which a look-up may change places with the making of an entry. Conditions: none; each lemma states its own.
  What is proved here: an evaluator that says yes, with loops over maps whose rounds change places, and look-ups that change places with the making of entries, tells what a call hands back. Conditions: none; each lemma states its own.
  What is proved here: forms of the evaluator that are quick to reckon are the evaluator; a program whose tables are reckoned ahead is the same program. Conditions: none.
  What is proved here: each function with a body is entered by a call, if none is named as the machine's own; no summaries. Conditions: none; each lemma states its own.
  What is proved here: calls at no arguments that answer yes may be used as known while others are reckoned. Conditions: none; each lemma states its own.
  What is proved here: a call that answers yes, as a contract. Conditions: none; each lemma states its own.
  What is proved here: the law TopStraightTrack, as a contract. Conditions: its contract states them.
  What is proved here: a function that makes a copy of a map may be used as known while calls are reckoned. Conditions: none; each lemma states its own.
-/
import Derived.Test.YtnehaifgcegemaaGreatM8
import Derived.Test.YtnehaifgcegemaaGreatM1
import Derived.Test.YtnehaifgcegemaaGreatM6
import Derived.Test.YtnehaifgcegemaaGreatM4
import Derived.Test.YtnehaifgcegemaaGreatM3
import Derived.Test.YtnehaifgcegemaaGreatM5
set_option linter.unusedVariables false
set_option linter.unusedSimpArgs false
namespace Go.TX
open Go Go.TH
noncomputable section
variable {P:Program} {sm:Sums} {rec:Rec}
theorem exD2_ok {F:Fence} (hFn:∀ f,F.fn f) (hm:P.follows .mixedOrders=true) {N id:Nat} {ops:Array Oper} {env env':Tr SV} {st st':St}
 (hO:∀ o env st L,exO P sm rec env o st=some L→OpOK P F N o env st L) (h:exD2 P sm rec N ops env st=some (env',st'))
 {ρ0:Ren} {D:Nat→Prop} {w0:World} {a0:Act} (he:EnvR ρ0 N env a0.tmps) (hs:Sim ρ0 D st w0) (hD:∀ x,x∈st'.R∨st.base≤x→D x) (hf:Free ρ0 st.nx st'.nx) :
 (Code.region id ops true).wpIn F 0 P (fun e a' w'=>e=.normal∧∃ ρ',a'.defers=a0.defers∧EnvR ρ' N env' a'.tmps∧Step ρ0 ρ' D st st' w0 w') a0 w0:=by
 obtain ⟨l⟩:=ops
 obtain ⟨h0,nx0,bs,R0,W0⟩:=st
 simp only [exD2] at h
 have hstat:=(bif_of h).1
 replace h:=(bif_of h).2
 split at h
 case h_2=>cases h
 rename_i envE hE nxE acc hR
 have hsep:=(bif_of h).1
 replace h:=(bif_of h).2
 obtain ⟨Rf,Wf,ht,hRf0,hWf0,htold⟩:=tellK_eq (b:=bs) (ts:=acc.map (·.t)) (R:=R0) (W:=W0) (k:=fun R' W'=>some (envE,(⟨hE,nxE,bs,R',W'⟩:St)))
 rw [ht] at h
 simp only [Option.some.injEq,Prod.mk.injEq] at h
 obtain ⟨rfl,rfl⟩:=h
 obtain ⟨E,H,X,T,V,hE0,hH0,hX0,hEn,hHn,hXn,hac,hst2⟩:=exR2_exR hR
 have hst:∀ (i:Nat) (o:Oper),l[i]?=some o→StepR P sm rec N l o (E i) (H i) (X i) (T i) (E (i+1)) (H (i+1)) (X (i+1)):=fun i o hi=>(hst2 i o hi).1
 have hts:acc.map (·.t)=((List.range l.length).map T).reverse:=by
  rw [hac,List.append_nil,List.map_reverse,List.map_map];rfl
 have hss:∀ k,k<l.length→nth (revK acc []) k=some ⟨T k,E k,H k,X k,V k⟩:=by
  intro k hk
  rw [nth_eq,revK_eq,hac]
  simp [hk]
 let Alt:Nat→Nat→Prop:=fun i j=>meIx l 0=some j∧∃ o,l[i]?=some o∧altB P sm rec l o ⟨T i,E i,H i,X i,V i⟩ (T j) (H (j+1))=true
 have hAlt:∀ {i j:Nat} {o:Oper},l[i]?=some o→Alt i j→(T i).W=[]∧X (i+1)=X i∧wantS l (E i) o=some true∧∃ m ob hq b,(T j).W=[m]∧m<X i∧(H (j+1)).get m=some ob∧exO P sm rec (E i) o ⟨(H i).set m (some ob),X i,X i,[],[]⟩=some [(V i,⟨hq,X i,b,(T i).R,[]⟩)]:=by
  intro i j o ho ⟨_,o',ho',hb⟩
  rw [ho] at ho'
  cases ho'
  unfold altB at hb
  rw [Bool.and_eq_true] at hb
  obtain ⟨hq,hb⟩:=hb
  have hq:=(hst i o ho).q hq
  refine ⟨hq.1,hq.2,?_⟩
  split at hb
  case h_2=>cases hb
  rename_i hw
  refine ⟨hw,?_⟩
  split at hb
  case h_2=>cases hb
  rename_i m hW
  rw [Bool.and_eq_true] at hb
  obtain ⟨hm,hb⟩:=hb
  split at hb
  case h_2=>cases hb
  rename_i ob hob
  split at hb
  case h_2=>cases hb
  rename_i v' st' hex
  simp only [Bool.and_eq_true] at hb
  obtain ⟨b1,b2,b3,b4⟩:=hb
  obtain ⟨hq',nx',b',R',W'⟩:=st'
  have e1:=eqV_eq b1
  have e2:=Nat.eq_of_beq_eq_true b2
  have e3:R'=(T i).R:=eqL_eq (fun _ _=>Nat.eq_of_beq_eq_true) b3
  have e4:W'=[]:=isNl_eq b4
  simp only at e1 e2 e3 e4
  rw [e1,e2,e3,e4] at hex
  exact ⟨m,ob,hq',b',hW,Nat.blt_eq.mp hm,hob,hex⟩
 have hXs:∀ i,i<l.length→X i≤X (i+1):=fun i hi=>(hst i l[i] (by simp [hi])).le
 have hXm:∀ {i j:Nat},i≤j→j≤l.length→X i≤X j:=fun {i j}=>mono_nat hXs
 simp only [statD,Bool.and_eq_true] at hstat
 obtain ⟨hback,hap⟩:=hstat
 rw [afsAll_eq] at hback
 have hback:∀ (i:Nat) (af:List Nat),(l.map afsL)[i]?=some af→∀ j∈af,j<i:=fun i af hi j hj=>by have:=backAll_ok hback i af hi j hj;omega
 have hmk:Masks (l.map afsL) (cloO l)∧(cloO l).length=l.length:=by
  have:=cloB_ok hback (l.map afsL) [] rfl (fun k m hk=>by simp at hk)
  rw [cloO,afsAll_eq]
  simpa using this
 have hafl:∀ (i:Nat) (o:Oper),l[i]?=some o→(l.map afsL)[i]?=some (afsL o):=fun i o hi=>by simp [hi]
 have hlt1:∀ (i:Nat) (o:Oper),l[i]?=some o→∀ j∈afsL o,j<i:=fun i o hi j hj=>hback i _ (hafl i o hi) j hj
 let Cl:(Nat→Prop)→Prop:=fun S=>∀ i o,l[i]?=some o→S i→∀ j∈afsL o,S j
 have hpair:∀ (S:Nat→Prop),Cl S→∀ (i j:Nat) (o:Oper),i<j→l[j]?=some o→(∀ k∈afsL o,S k)→(S i∨(∃ t,l[i]?=some t∧t.apart l.toArray o=true))∧(S i∨sepT (T i) (T j)=true∨Alt i j):=by
  intro S hS i j o hij hj haf
  have hjl:=(List.getElem?_eq_some_iff.1 hj).1
  have hm0:j<(cloO l).length:=by rw [hmk.2];exact hjl
  have hmj:(cloO l)[(cloO l).length-1-j]?=some ((cloO l)[(cloO l).length-1-j]'(by omega)):=by simp
  have hgood:∀ i,bitB ((cloO l)[(cloO l).length-1-j]'(by omega)) i=true→S i:=hmk.1 j _ hm0 hmj S (fun i af hi hSi k hk=>by
   rw [List.getElem?_map] at hi
   cases hl:l[i]? with
   | none=>rw [hl] at hi;cases hi
   | some o' =>
    rw [hl] at hi
    simp only [Option.map_some,Option.some.injEq] at hi
    subst hi
    exact hS i o' hl hSi k hk) (fun af hi k hk=>by
   rw [hafl j o hj] at hi
   simp only [Option.some.injEq] at hi
   subst hi
   exact haf k hk)
  constructor
  ·rw [revK_eq,List.append_nil] at hap
   have hil:i<l.length:=by omega
   have e1:l.reverse[l.reverse.length-1-i]?=some l[i]:=by
    rw [List.getElem?_reverse (by simp;omega)]
    simp only [List.length_reverse]
    have:l.length-1-(l.length-1-i)=i:=by omega
    rw [this];simp [hil]
   have e2:l.reverse[l.reverse.length-1-j]?=some o:=by
    rw [List.getElem?_reverse (by simp;omega)]
    simp only [List.length_reverse]
    have:l.length-1-(l.length-1-j)=j:=by omega
    rw [this];exact hj
   rcases apAll_ok (by rw [List.length_reverse,hmk.2]) hap i j l[i] o _ hij (by simpa using hjl) e1 e2 hmj with q | q
   ·exact .inl (hgood i q)
   ·exact .inr ⟨l[i],by simp [hil],q⟩
  ·have hp:=pairB_ok hsep i j hij hjl
   unfold prB at hp
   rw [hss i (by omega),hss j hjl] at hp
   simp only [nth_eq,hmj] at hp
   rw [Bool.or_eq_true] at hp
   rcases hp with q | hp
   ·exact .inl (hgood i q)
   rw [Bool.or_eq_true] at hp
   rcases hp with q | hp
   ·exact .inr (.inl q)
   ·right;right
    split at hp
    case h_2=>cases hp
    rename_i k hk
    rw [Bool.and_eq_true] at hp
    obtain ⟨hjk,hp⟩:=hp
    have e:=Nat.eq_of_beq_eq_true hjk
    split at hp
    case h_2=>cases hp
    rename_i oi hoi
    refine ⟨by rw [e];exact hk,oi,hoi,?_⟩
    have e2:nxH hE ((revK acc [])[Nat.succ j]?)=H (j+1):=by
     rw [← nth_eq]
     by_cases hl:j+1<l.length
     ·rw [show Nat.succ j=j+1 from rfl,hss (j+1) hl];rfl
     ·have:j+1=l.length:=by omega
      have hn:nth (revK acc []) (j+1)=none:=by
       rw [nth_eq,revK_eq,hac];simp;omega
      rw [show Nat.succ j=j+1 from rfl,hn]
      rw [this];exact hHn.symm
    rw [e2] at hp
    exact hp
 have hTR:∀ i,i<l.length→(∀ x∈(T i).R,x∈Rf∨bs≤x)∧∀ x∈(T i).W,x∈Wf∨bs≤x:=by
  intro i hi
  exact htold (T i) (by rw [hts];simp;exact ⟨i,hi,rfl⟩)
 let tH:Nat→Nat→Prop:=fun i x=>x∈(T i).W∨(X i≤x∧x<X (i+1))
 let tE:Nat→Nat→Prop:=fun i t=>(l[i]?).bind (·.dst)=some t
 have hoH:∀ i,i<l.length→∀ x,¬ tH i x→(H (i+1)).get x=(H i).get x:=fun i hi x hx=>(hst i l[i] (by simp [hi])).out x hx
 have hoE:∀ i,i<l.length→∀ t,¬ tE i t→(E (i+1)).get t=(E i).get t:=fun i hi t ht=>(hst i l[i] (by simp [hi])).eo t (fun q=>ht (by simp [tE,hi,q]))
 have hHl:∀ i,i≤l.length→∀ x,(H i).get x≠none→x<X i:=by
  intro i
  induction i with
  | zero=>intro _ x hx;rw [hH0] at hx;rw [hX0];exact hs.lt x hx
  | succ i ih =>
   intro hi x hx
   by_cases ht:tH i x
   ·rcases ht with q | q
    ·have:=(hst i l[i] (by simp)).wl x q
     have:=hXs i (by omega)
     omega
    ·exact q.2
   ·rw [hoH i (by omega) x ht] at hx
    have:=ih (by omega) x hx
    have:=hXs i (by omega)
    omega
 have hsepq:∀ {i j:Nat},i<l.length→j<l.length→(sepT (T i) (T j)=true∨((T i).q=true∧(T j).q=true))→((T i).W=[]∧X (i+1)=X i∧(T j).W=[]∧X (j+1)=X j)∨((∀ x∈(T i).W,x ∉ (T j).R)∧(∀ x∈(T i).W,x ∉ (T j).W)∧(∀ x∈(T i).R,x ∉ (T j).W)∧∀ x∈(T j).R,¬ (X i≤x∧x<X (i+1))):=by
  intro i j hi hj h
  have si:=hst i l[i] (by simp [hi])
  have sj:=hst j l[j] (by simp [hj])
  have hq:((T i).q=true∧(T j).q=true)→(T i).W=[]∧X (i+1)=X i∧(T j).W=[]∧X (j+1)=X j:=fun q=>⟨(si.q q.1).1,(si.q q.1).2,(sj.q q.2).1,(sj.q q.2).2⟩
  rcases h with h | h
  ·rcases sepT_ok h with q | ⟨q1,q2,q3,q4⟩
   ·exact .inl (hq q)
   ·rw [si.a,si.b] at q4
    exact .inr ⟨q1,q2,q3,q4⟩
  ·exact .inl (hq h)
 let S:Array Bool→Nat→Prop:=fun ls i=>i<l.length∧ls.getD i true=true
 refine wpIn_region_any hm ?_
 have main:∀ (fuel:Nat) (ls:Array Bool) (a:Act) (w:World),ls.size=l.length→ls.toList.count false≤fuel→Cl (S ls)→DInv l E H X T N ρ0 D ⟨h0,nx0,bs,R0,W0⟩ Rf Wf w0 a0 (S ls) a w →
  wpAnyIn F 0 P .any l.toArray (fun e a' w'=>e=.normal∧∃ ρ',a'.defers=a0.defers∧EnvR ρ' N envE a'.tmps∧Step ρ0 ρ' D ⟨h0,nx0,bs,R0,W0⟩ ⟨hE,nxE,bs,Rf,Wf⟩ w0 w') fuel ls a w:=by
  intro fuel
  have allDone:∀ (ls:Array Bool),ls.size=l.length→Region.ready .any l.toArray ls=[]→∀ i,i<l.length→ls.getD i true=true:=by
   intro ls hsz hr i
   induction i using Nat.strongRecOn with
   | _ i ih =>
    intro hi
    cases hg:ls.getD i true with
    | true=>rfl
    | false =>
     exfalso
     have:i∈Region.ready .any l.toArray ls:=by
      refine mem_ready.2 ⟨hg,l[i],by simp [hi],fun e he hb=>?_⟩
      have hlt:e.on<i:=hlt1 i l[i] (by simp [hi]) _ (mem_afsL.2 ⟨e,by simpa using he,hb,rfl⟩)
      have:=ih e.on hlt (by omega)
      have hs':e.on<ls.size:=by omega
      simp only [Array.getD_eq_getD_getElem?,Array.getElem?_eq_getElem hs',Option.getD_some] at this ⊢
      exact this
     rw [hr] at this
     cases this
  have finish:∀ (ls:Array Bool) a w,ls.size=l.length→Region.ready .any l.toArray ls=[]→DInv l E H X T N ρ0 D ⟨h0,nx0,bs,R0,W0⟩ Rf Wf w0 a0 (S ls) a w →
   (Exit.normal=Exit.normal∧∃ ρ',a.defers=a0.defers∧EnvR ρ' N envE a.tmps∧Step ρ0 ρ' D ⟨h0,nx0,bs,R0,W0⟩ ⟨hE,nxE,bs,Rf,Wf⟩ w0 w):=by
   intro ls a w hsz hr ⟨ρ,M,B,e1,e2,e3,e4,e5,_⟩
   have hall:=allDone ls hsz hr
   have hM:∀ x,M.get x=hE.get x:=fun x=>by
    rw [e1 x,← hHn]
    exact cur_at (fun i=>(H i).get) tH (S ls) hoH (Nat.le_refl _) fun i hi _=>⟨hi,hall i hi⟩
   have hB:∀ t,B.get t=envE.get t:=fun t=>by
    rw [e2 t,← hEn]
    exact cur_at (fun i=>(E i).get) tE (S ls) hoE (Nat.le_refl _) fun i hi _=>⟨hi,hall i hi⟩
   refine ⟨rfl,ρ,e4,⟨e3.1,fun t=>by rw [← hB t];exact e3.2 t⟩,?_⟩
   rw [hXn] at e5
   refine ⟨e5.os,e5.tape,e5.output,e5.size,e5.nx,rfl,e5.sR,e5.sW,e5.ext,e5.keep,fun x hx hn=>?_,fun x hx=>?_,fun x b s hx hg hr=>?_,⟨fun x o d g=>?_,fun x y b s s' d d' g g'=>?_,fun x g=>?_⟩⟩
   ·show hE.get x=none;rw [← hM x];exact e5.dead x hx hn
   ·rcases e5.same x hx with q | q
    ·exact .inl q
    ·right;show hE.get x=_;rw [← hM x];exact q
   ·have hg:hE.get x≠none:=hg
    rw [← hM x] at hg
    rcases e5.fresh x b s hx hg hr with q | ⟨z,s',q1,q2,q3,q4,q5,q6⟩
    ·exact .inl q
    ·exact .inr ⟨z,s',q1,q2,q3,q4,by show hE.get z=none;rw [← hM z];exact q5,q6⟩
   ·have g:hE.get x=some o:=g
    rw [← hM x] at g
    exact e5.sim.live x o d g
   ·have g:hE.get x≠none:=g
    have g':hE.get y≠none:=g'
    rw [← hM x] at g
    rw [← hM y] at g'
    exact e5.sim.inj x y b s s' d d' g g'
   ·have g:hE.get x≠none:=g
    rw [← hM x] at g
    exact e5.sim.lt x g
  induction fuel with
  | zero =>
   intro ls a w hsz hcnt hcl hS
   have hr:Region.ready .any l.toArray ls=[]:=by
    cases hr:Region.ready .any l.toArray ls with
    | nil=>rfl
    | cons i r =>
     have hi:i∈Region.ready .any l.toArray ls:=by rw [hr];simp
     obtain ⟨h1,o,h2,_⟩:=mem_ready.1 hi
     have hlt:i<ls.size:=by
      rw [hsz];have:=(Array.getElem?_eq_some_iff.1 h2).1;simpa using this
     have:false∈ls.toList:=by
      have e:ls[i]?=some false:=by
       simp only [Array.getD_eq_getD_getElem?,Array.getElem?_eq_getElem hlt,Option.getD_some] at h1
       rw [Array.getElem?_eq_getElem hlt,h1]
      exact Array.mem_toList_iff.2 (Array.mem_of_getElem? e)
     have:=List.count_pos_iff.2 this
     omega
   exact ⟨hr,finish ls a w hsz hr hS⟩
  | succ fuel ih =>
   intro ls a w hsz hcnt hcl hS
   refine ⟨fun hr=>finish ls a w hsz hr hS,fun i hi=>?_⟩
   obtain ⟨h1,o,ho,haf⟩:=mem_ready.1 hi
   have ho':l[i]?=some o:=by simpa using ho
   have hil:i<l.length:=(List.getElem?_eq_some_iff.1 ho').1
   have his:i<ls.size:=by omega
   have hcnt':(ls.setIfInBounds i true).toList.count false≤fuel:=by
    have e:ls.toList[i]?=some false:=by
     simp only [Array.getD_eq_getD_getElem?,Array.getElem?_eq_getElem his,Option.getD_some] at h1
     simp [his,h1]
    have:=count_set ls.toList i e
    rw [Array.toList_setIfInBounds]
    omega
   have hsz':(ls.setIfInBounds i true).size=l.length:=by simp [hsz]
   have hbefore:∀ j,j∈afsL o→S ls j:=by
    intro j hj
    have hjl:=hlt1 i o ho' j hj
    obtain ⟨e,he,hb,rfl⟩:=mem_afsL.1 hj
    have hh:=haf e (by simpa using he) hb
    have hlt:e.on<ls.size:=by omega
    refine ⟨by omega,?_⟩
    simp only [Array.getD_eq_getD_getElem?,Array.getElem?_eq_getElem hlt,Option.getD_some] at hh ⊢
    exact hh
   have hni:¬ S ls i:=fun q=>by have:=q.2;rw [h1] at this;cases this
   have hS':∀ j,S (ls.setIfInBounds i true) j↔(S ls j∨j=i):=by
    intro j
    simp only [S]
    rw [getD_set ls i j his]
    by_cases e:i=j
    ·subst e;simp [hil]
    ·have:(i==j)=false:=by simp [e]
     rw [this];simp;omega
   have hcl':Cl (S (ls.setIfInBounds i true)):=by
    intro i' o' ho2 hl' j hj
    rw [hS'] at hl' ⊢
    rcases hl' with q | rfl
    ·exact .inl (hcl i' o' ho2 q j hj)
    ·rw [ho'] at ho2
     obtain rfl:o=o':=by simpa using ho2
     exact .inl (hbefore j hj)
   have hsti:=hst i o ho'
   obtain ⟨ρ,M,B,e1,e2,e3,e4,e5,e6⟩:=hS
   have hbe:∀ j,j<i→(S ls j∨∃ t,l[j]?=some t∧t.apart l.toArray o=true)∧(S ls j∨sepT (T j) (T i)=true∨Alt j i):=fun j hj=>hpair (S ls) hcl j i o hj ho' hbefore
   have haft:∀ j,i<j→j<l.length→S ls j→(∃ t,l[j]?=some t∧o.apart l.toArray t=true)∧(sepT (T i) (T j)=true∨Alt i j):=by
    intro j hij hj hSj
    obtain ⟨q1,q2⟩:=hpair (S ls) hcl i j l[j] hij (by simp [hj]) (fun k hk=>hcl j l[j] (by simp [hj]) hSj k hk)
    refine ⟨?_,q2.resolve_left hni⟩
    obtain ⟨t,ht,q⟩:=q1.resolve_left hni
    rw [ho'] at ht
    simp only [Option.some.injEq] at ht
    subst ht
    exact ⟨l[j],by simp [hj],q⟩
   have hbk:∀ x∈(T i).R,∀ j,j<i→tH j x→S ls j:=by
    intro x hx j hj htj
    rcases (hbe j hj).2 with q | q | q
    ·exact q
    ·rcases hsepq (by omega) hil (.inl q) with ⟨q1,q2,_⟩ | ⟨q1,q2,q3,q4⟩
     ·rcases htj with r | r
      ·rw [q1] at r;cases r
      ·omega
     ·rcases htj with r | r
      ·exact absurd hx (q1 x r)
      ·exact absurd r (q4 x hx)
    ·obtain ⟨q1,q2,_⟩:=hAlt (i:=j) (o:=l[j]'(by omega)) (by simp) q
     rcases htj with r | r
     ·rw [q1] at r;cases r
     ·omega
   have hget:∃ h2:Tr SO,(∀ x∈(T i).R,x<X i→M.get x=h2.get x)∧(∀ x,h2.get x≠none→x<X i)∧((wantS l (E i) o=some false∧(T i).W=[]∧X (i+1)=X i∧PutR N (E i) o.dst (.raw undef) (E (i+1)))∨(wantS l (E i) o=some true∧∃ v hq b,exO P sm rec (E i) o ⟨h2,X i,X i,[],[]⟩=some [(v,⟨hq,X (i+1),b,(T i).R,(T i).W⟩)]∧(∀ x,(x∈(T i).W∨(X i≤x∧x<X (i+1)))→(H (i+1)).get x=hq.get x)∧PutR N (E i) o.dst v (E (i+1)))):=by
    by_cases hA:∃ j,i<j∧j<l.length∧S ls j∧Alt i j
    ·obtain ⟨j,hij,hjl,hSj,hAj⟩:=hA
     obtain ⟨hW1,hX1,hwt,m,ob,hq2,b2,hWj,hmX,hob,hex⟩:=hAlt ho' hAj
     have hXij:X i≤X j:=hXm (by omega) (by omega)
     refine ⟨(H i).set m (some ob),fun x hx hxl=>?_,fun x hx=>?_,.inr ⟨hwt,V i,hq2,b2,?_,fun x hx=>?_,?_⟩⟩
     ·rw [Tr.get_set]
      by_cases e:x=m
      ·rw [if_pos e,e1 x,e,← hob]
       refine cur_is (fun i=>(H i).get) tH (S ls) hoH (by omega) ?_ ?_
       ·intro k hk htk
        by_cases ek:k=j
        ·rw [ek];exact hSj
        ·rcases (hpair (S ls) hcl k j l[j] (by omega) (by simp [hjl]) (fun k' hk'=>hcl j l[j] (by simp [hjl]) hSj k' hk')).2 with q | q | q
         ·exact q
         ·rcases hsepq (by omega) hjl (.inl q) with ⟨_,_,q1,_⟩ | ⟨q1,q2,q3,q4⟩
          ·rw [hWj] at q1;cases q1
          ·have hmW:m∈(T j).W:=by rw [hWj];simp
           rcases htk with r | r
           ·exact absurd hmW (q2 m r)
           ·exact absurd r (q4 m ((hst j l[j] (by simp [hjl])).wr m hmW))
         ·obtain ⟨q1,q2,_⟩:=hAlt (i:=k) (o:=l[k]'(by omega)) (by simp) q
          rcases htk with r | r
          ·rw [q1] at r;cases r
          ·omega
       ·intro k hk hkl hSk htk
        have hm2:X j≤X k:=hXm (by omega) (by omega)
        rcases (haft k (by omega) hkl hSk).2 with q | q
        ·rcases hsepq hil hkl (.inl q) with ⟨_,_,q1,q2⟩ | ⟨q1,q2,q3,q4⟩
         ·rcases htk with r | r
          ·rw [q1] at r;cases r
          ·omega
         ·rcases htk with r | r
          ·rw [← e] at r;exact absurd r (q3 x hx)
          ·omega
        ·have e9:some j=some k:=hAj.1.symm.trans q.1
         cases e9
         omega
      ·rw [if_neg e,e1 x]
       refine cur_is (fun i=>(H i).get) tH (S ls) hoH (by omega) (hbk x hx) ?_
       intro k hk hkl hSk htk
       by_cases ek:k=i
       ·subst ek;exact hni hSk
       ·have hm2:X (i+1)≤X k:=hXm (by omega) (by omega)
        rcases (haft k (by omega) hkl hSk).2 with q | q
        ·rcases hsepq hil hkl (.inl q) with ⟨_,_,q1,q2⟩ | ⟨q1,q2,q3,q4⟩
         ·rcases htk with r | r
          ·rw [q1] at r;cases r
          ·omega
         ·rcases htk with r | r
          ·exact absurd r (q3 x hx)
          ·omega
        ·have e9:some j=some k:=hAj.1.symm.trans q.1
         cases e9
         rcases htk with r | r
         ·rw [hWj] at r
          exact e (List.mem_singleton.1 r)
         ·omega
     ·rw [Tr.get_set] at hx
      by_cases e:x=m
      ·rw [e];exact hmX
      ·rw [if_neg e] at hx;exact hHl i (by omega) x hx
     ·rw [hX1,hW1];exact hex
     ·rcases hx with r | r
      ·rw [hW1] at r;cases r
      ·omega
     ·rcases hsti.is with ⟨hw,_⟩ | ⟨hw,v,hq,b,hx,_,q3⟩
      ·rw [hw] at hwt;cases hwt
      ·obtain ⟨st9,h9⟩:=(hst2 i o ho').2 hw
       rw [hx] at h9
       have:v=V i:=by injection h9 with h9;injection h9 with h9;exact congrArg Prod.fst h9
       rw [← this];exact q3
    ·refine ⟨H i,fun x hx hxl=>?_,hHl i (by omega),hsti.is⟩
     rw [e1 x]
     refine cur_is (fun i=>(H i).get) tH (S ls) hoH (by omega) (hbk x hx) ?_
     intro j hj hjl hSj htj
     by_cases e:j=i
     ·subst e;exact hni hSj
     ·have hm2:X (i+1)≤X j:=hXm (by omega) (by omega)
      have hm3:=hXs i hil
      rcases (haft j (by omega) hjl hSj).2 with q | q
      ·rcases hsepq hil hjl (.inl q) with ⟨_,_,q1,q2⟩ | ⟨q1,q2,q3,q4⟩
       ·rcases htj with r | r
        ·rw [q1] at r;cases r
        ·omega
       ·rcases htj with r | r
        ·exact absurd r (q3 x hx)
        ·omega
      ·exact absurd ⟨j,by omega,hjl,hSj,q⟩ hA
   have hBt:∀ t∈o.looksAt l.toArray,B.get t=(E i).get t:=by
    intro t ht
    rw [e2 t]
    refine cur_is (fun i=>(E i).get) tE (S ls) hoE (by omega) ?_ ?_
    ·intro j hj htj
     rcases (hbe j hj).1 with q | ⟨u,hu,q⟩
     ·exact q
     ·simp only [tE,hu,Option.bind_some] at htj
      exact absurd ht ((Oper.apart_spec q).1 t htj)
    ·intro j hj hjl hSj htj
     by_cases e:j=i
     ·subst e;exact hni hSj
     ·obtain ⟨u,hu,q⟩:=(haft j (by omega) hjl hSj).1
      simp only [tE,hu,Option.bind_some] at htj
      exact (Oper.apart_spec q).2.2 t htj ht
   have hB':∀ (v:SV) (B':Tr SV),PutR N (E i) o.dst v (E (i+1))→PutR N B o.dst v B'→∀ t,B'.get t=cur (fun i=>(E i).get) tE (S (ls.setIfInBounds i true)) l.length t:=by
    intro v B' p1 p2 t
    by_cases htt:tE i t
    ·have hd:o.dst=some t:=by simpa [tE,ho'] using htt
     have e:cur (fun i=>(E i).get) tE (S (ls.setIfInBounds i true)) l.length t=(E (i+1)).get t:=by
      refine cur_is (fun i=>(E i).get) tE _ hoE (by omega) ?_ ?_
      ·intro j hj htj
       rw [hS']
       by_cases e:j=i
       ·exact .inr e
       ·left
        rcases (hbe j (by omega)).1 with q | ⟨u,hu,q⟩
        ·exact q
        ·simp only [tE,hu,Option.bind_some] at htj
         exact absurd hd ((Oper.apart_spec q).2.1 t htj)
      ·intro j hj hjl hSj htj
       rw [hS'] at hSj
       have hSj:=hSj.resolve_right (by omega)
       obtain ⟨u,hu,q⟩:=(haft j (by omega) hjl hSj).1
       simp only [tE,hu,Option.bind_some] at htj
       exact (Oper.apart_spec q).2.1 t hd htj
     rw [e]
     rw [hd] at p1 p2
     rw [p1.at,p2.at]
    ·have hd:¬ o.dst=some t:=fun q=>htt (by simp [tE,ho',q])
     rw [p2.other hd,e2 t]
     exact (cur_other (fun i=>(E i).get) tE (S ls) (t:=i) (S (ls.setIfInBounds i true)) (fun j hj=>by rw [hS'];simp [hj]) htt l.length).symm
   have hput:∀ (v:SV) (E2:Tr SV),PutR N (E i) o.dst v E2→∃ B',PutR N B o.dst v B':=fun v E2 p=>⟨_,p.1,rfl⟩
   have hstep:∀ (M':Tr SO) (hq:Tr SO),(∀ x,(x∈(T i).W∨(X i≤x∧x<X (i+1)))→(H (i+1)).get x=hq.get x)→(∀ x,(x∈(T i).W∨(X i≤x∧x<X (i+1)))→M'.get x=hq.get x)→(∀ x,¬ (x∈(T i).W∨(X i≤x∧x<X (i+1)))→M'.get x=M.get x) →
    ∀ x,M'.get x=cur (fun i=>(H i).get) tH (S (ls.setIfInBounds i true)) l.length x:=by
    intro M' hq g1 g2 g3 x
    by_cases htx:tH i x
    ·have e:cur (fun i=>(H i).get) tH (S (ls.setIfInBounds i true)) l.length x=(H (i+1)).get x:=by
      refine cur_is (fun i=>(H i).get) tH _ hoH (by omega) ?_ ?_
      ·intro j hj htj
       rw [hS']
       by_cases e:j=i
       ·exact .inr e
       ·left
        have hm1:X (j+1)≤X i:=hXm (by omega) (by omega)
        have hm3:=hXs j (by omega)
        rcases htx with hx | hx
        ·exact hbk x (hsti.wr x hx) j (by omega) htj
        ·exfalso
         rcases htj with r | r
         ·have:=(hst j l[j] (by simp)).wl x r
          omega
         ·omega
      ·intro j hj hjl hSj htj
       rw [hS'] at hSj
       have hSj:=hSj.resolve_right (by omega)
       have hm2:X (i+1)≤X j:=hXm (by omega) (by omega)
       have hm3:=hXs i hil
       rcases (haft j (by omega) hjl hSj).2 with q | q
       ·rcases hsepq hil hjl (.inl q) with ⟨q1,q2,q3,q4⟩ | ⟨q1,q2,q3,q4⟩
        ·rcases htj with r | r
         ·rw [q3] at r;cases r
         ·omega
        ·rcases htx with hx | hx
         ·rcases htj with r | r
          ·exact absurd r (q2 x hx)
          ·have:=hsti.wl x hx;omega
         ·rcases htj with r | r
          ·exact absurd hx (q4 x ((hst j l[j] (by simp [hjl])).wr x r))
          ·omega
       ·obtain ⟨q1,q2,_⟩:=hAlt ho' q
        rcases htx with r | r
        ·rw [q1] at r;cases r
        ·omega
     rw [e,g1 x htx]
     exact g2 x htx
    ·rw [g3 x htx,e1 x]
     exact (cur_other (fun i=>(H i).get) tH (S ls) (t:=i) (S (ls.setIfInBounds i true)) (fun j hj=>by rw [hS'];simp [hj]) htx l.length).symm
   have hdfr:∀ (u:Value),(a.put o.dst u).defers=a0.defers:=fun u=>by
    rw [← e4]
    cases o.dst <;> rfl
   have hfr:∀ j,j<l.length→¬ S (ls.setIfInBounds i true) j→∀ x,X j≤x→x<X (j+1)→ρ x=none:=fun j hj hSj=>e6 j hj (fun q=>hSj ((hS' j).2 (.inl q)))
   simp only [wpOpIn,List.getElem?_toArray,ho']
   obtain ⟨h2,hRt,hHi,his⟩:=hget
   rcases his with ⟨hw,q1,q2,q3⟩ | ⟨hw,v,hq,b,hx,q1,q3⟩
   ·have hwb:wantS l B o=some false:=by rw [wantS_congr (env:=B) (env2:=E i) hBt];exact hw
    rw [if_neg (by rw [wantS_ok e3 hwb];simp)]
    refine ⟨fun f _=>hFn f,?_⟩
    obtain ⟨B',p⟩:=hput _ _ q3
    refine ih _ _ w hsz' hcnt' hcl' ⟨ρ,M,B',?_,hB' _ _ q3 p,p.envR e3 (by rw [Rel]),hdfr undef,e5,hfr⟩
    have hno:∀ x,¬ (x∈(T i).W∨(X i≤x∧x<X (i+1))):=fun x q=>by
     rcases q with q | q
     ·rw [q1] at q;cases q
     ·omega
    exact hstep M M (fun x hx=>absurd hx (hno x)) (fun x hx=>absurd hx (hno x)) (fun _ _=>rfl)
   ·have hwb:wantS l B o=some true:=by rw [wantS_congr (env:=B) (env2:=E i) hBt];exact hw
    rw [if_pos (by rw [wantS_ok e3 hwb])]
    have hx':exO P sm rec B o ⟨h2,X i,X i,[],[]⟩=some [(v,⟨hq,X (i+1),b,(T i).R,(T i).W⟩)]:=by
     rw [exO_congr (look_op (ops:=l.toArray) hBt)];exact hx
    have hD0:∀ x,x∈Rf∨bs≤x→D x:=hD
    have hRf:=(hTR i hil).1
    have hWf:=(hTR i hil).2
    have hsim:=Step.before (x0:=X i) e5 hRt hRf hD0 hHi
    obtain ⟨B',p⟩:=hput _ _ q3
    refine hO o B _ _ hx' ρ (fun x=>x∈(T i).R∨X i≤x) w a _ _ e3 hsim (fun p hp x hx=>by rw [List.mem_singleton] at hp;subst hp;exact hx) (fun p hp x h2 h3=>by rw [List.mem_singleton] at hp;subst hp;exact e6 i hil hni x h2 h3) ?_
    intro p0 hp0 u w' ρ' hv hop
    rw [List.mem_singleton] at hp0
    subst hp0
    have hle:ρ.Le ρ':=hop.le (fun x h2 h3=>e6 i hil hni x h2 h3)
    obtain ⟨M',g2,g3⟩:∃ M':Tr SO,(∀ x,(x∈(T i).W∨(X i≤x∧x<X (i+1)))→M'.get x=hq.get x)∧∀ x,¬ (x∈(T i).W∨(X i≤x∧x<X (i+1)))→M'.get x=M.get x:=by
     have b1:∀ (l:List Nat) (M:Tr SO),∃ M':Tr SO,(∀ x∈l,M'.get x=hq.get x)∧∀ x,x ∉ l→M'.get x=M.get x:=by
      intro l
      induction l with
      | nil=>exact fun M=>⟨M,(fun x hx=>by cases hx),fun _ _=>rfl⟩
      | cons y l ih =>
       intro M
       obtain ⟨M',f1,f2⟩:=ih (M.set y (hq.get y))
       refine ⟨M',fun x hx=>?_,fun x hx=>?_⟩
       ·by_cases hl:x∈l
        ·exact f1 x hl
        ·rcases List.mem_cons.1 hx with rfl | hx
         ·rw [f2 x hl,Tr.get_set,if_pos rfl]
         ·exact absurd hx hl
       ·rw [List.mem_cons,not_or] at hx
        rw [f2 x hx.2,Tr.get_set,if_neg hx.1]
     obtain ⟨M',f1,f2⟩:=b1 ((T i).W++(List.range (X (i+1)-X i)).map (X i+·)) M
     have hmem:∀ x,x∈(T i).W++(List.range (X (i+1)-X i)).map (X i+·)↔(x∈(T i).W∨(X i≤x∧x<X (i+1))):=by
      intro x
      rw [List.mem_append,List.mem_map]
      constructor
      ·rintro (q | ⟨k,hk,rfl⟩)
       ·exact .inl q
       ·rw [List.mem_range] at hk;right;omega
      ·rintro (q | q)
       ·exact .inl q
       ·right;exact ⟨x-X i,by rw [List.mem_range];omega,by omega⟩
     exact ⟨M',fun x hx=>f1 x ((hmem x).2 hx),fun x hx=>f2 x (fun q=>hx ((hmem x).1 q))⟩
    refine ih _ _ w' hsz' hcnt' hcl' ⟨ρ',M',B',?_,hB' _ _ q3 p,p.envR (e3.mono hle) hv,hdfr u,?_,?_⟩
    ·exact hstep M' hq q1 g2 g3
    ·have hx0:nx0≤X i:=by rw [← hX0];exact hXm (Nat.zero_le _) (by omega)
     have hx1:X (i+1)≤X l.length:=hXm (by omega) (Nat.le_refl _)
     exact Step.behind e5 hop hx0 hx1 hRt hsti.wr hsti.wl hRf hWf hD0 (fun x h2 h3=>e6 i hil hni x h2 h3) hHi g2 g3
    ·intro j hj hSj x h2 h3
     have hji:j≠i:=fun q=>hSj ((hS' j).2 (.inr q))
     have e:ρ' x=ρ x:=hop.ext x (by
      show x<X i∨X (i+1)≤x
      rcases Nat.lt_or_gt_of_ne hji with q | q
      ·have:=hXm (i:=j+1) (j:=i) (by omega) (by omega);omega
      ·have:=hXm (i:=i+1) (j:=j) (by omega) (by omega);omega)
     rw [e]
     exact hfr j hj hSj x h2 h3
 have hnone:∀ i,¬ S (Array.replicate (Array.mk l).size false) i:=by
  rintro i ⟨q1,q2⟩
  simp [q1] at q2
 refine main _ _ _ _ (by simp) (by simp) ?_ ⟨ρ0,h0,env,?_,?_,he,rfl,?_,?_⟩
 ·intro i o _ hi;exact absurd hi (hnone i)
 ·intro x;rw [cur_none _ _ _ hnone,hH0]
 ·intro t;rw [cur_none _ _ _ hnone,hE0]
 ·have hle:nx0≤X l.length:=by rw [← hX0];exact hXm (Nat.zero_le _) (Nat.le_refl _)
  refine ⟨rfl,rfl,rfl,Nat.le_refl _,hle,rfl,hRf0,hWf0,fun _ _=>rfl,fun _ _=>.inl rfl,fun _ _ h=>h,fun _ _=>.inr rfl,fun x b s hx hg _=>absurd (hs.lt x hg) (Nat.not_lt.2 hx),⟨fun x o d g=>?_,fun x y b s s' d d' g g'=>?_,fun x g=>?_⟩⟩
  ·exact hs.live x o (d.resolve_right (by have:=hs.lt x (by show h0.get x≠none;rw [show h0.get x=some o from g];simp);exact Nat.not_le.2 this)) g
  ·exact hs.inj x y b s s' (d.resolve_right (Nat.not_le.2 (hs.lt x g))) (d'.resolve_right (Nat.not_le.2 (hs.lt y g'))) g g'
  ·have:=hs.lt x g;exact Nat.lt_of_lt_of_le this hle
 ·intro i hi _ x h1 h2
  refine hf x ?_ ?_
  ·show nx0≤x
   have:=hXm (i:=0) (j:=i) (by omega) (by omega)
   rw [hX0] at this;omega
  ·show x<nxE
   have:=hXm (i:=i+1) (j:=l.length) (by omega) (Nat.le_refl _)
   rw [hXn] at this;omega
end
end Go.TX
namespace Go.TX
open Go Go.TH
noncomputable section
variable {P:Program} {sm:Sums} {rec:Rec} {N:Nat} {st st':St}
theorem exD2_mono (hr:RecMono rec) (hsm:SumMono sm) {N:Nat} {ops:Array Oper} {env env':Tr SV} (h:exD2 P sm rec N ops env st=some (env',st')):Mono st st':=by
 obtain ⟨h0,nx0,bs,R0,W0⟩:=st
 simp only [exD2] at h
 replace h:=(bif_of h).2
 split at h
 case h_2=>cases h
 rename_i envE hE nxE acc hR
 replace h:=(bif_of h).2
 obtain ⟨Rf,Wf,ht,hRf0,hWf0,htold⟩:=tellK_eq (b:=bs) (ts:=acc.map (·.t)) (R:=R0) (W:=W0) (k:=fun R' W'=>some (envE,(⟨hE,nxE,bs,R',W'⟩:St)))
 rw [ht] at h
 simp only [Option.some.injEq,Prod.mk.injEq] at h
 obtain ⟨rfl,rfl⟩:=h
 obtain ⟨E,H,X,T,V,hE0,hH0,hX0,hEn,hHn,hXn,hac,hst2⟩:=exR2_exR hR
 have hst:∀ (i:Nat) (o:Oper),ops.toList[i]?=some o→StepR P sm rec N ops.toList o (E i) (H i) (X i) (T i) (E (i+1)) (H (i+1)) (X (i+1)):=fun i o hi=>(hst2 i o hi).1
 have hXs:∀ i,i<ops.toList.length→X i≤X (i+1):=fun i hi=>(hst i ops.toList[i] (by simp)).le
 have:=mono_nat hXs (i:=0) (j:=ops.toList.length) (by omega) (Nat.le_refl _)
 rw [hX0,hXn] at this
 refine ⟨this,rfl,hRf0,fun x hx=>?_⟩
 have key:∀ i,i≤ops.toList.length→KeepL ((H 0).get x) ((H i).get x):=by
  intro i
  induction i with
  | zero=>exact fun _=>KeepL.refl _
  | succ i ih =>
   intro hi
   refine (ih (by omega)).trans ?_
   have s:=hst i ops.toList[i] (by simp)
   have hxi:x<X i:=by
    have:=mono_nat hXs (i:=0) (j:=i) (by omega) (by omega)
    rw [hX0] at this
    exact Nat.lt_of_lt_of_le hx this
   by_cases ht:x∈(T i).W∨(X i≤x∧x<X (i+1))
   ·rcases s.is with ⟨_,q1,q2,_⟩ | ⟨_,v,hq,b,hx',q1,_⟩
    ·rcases ht with r | r
     ·rw [q1] at r;cases r
     ·omega
    ·rw [q1 x ht]
     exact (exO_mono hr hsm hx' _ List.mem_cons_self).lp x hxi
   ·rw [s.out x ht];exact KeepL.refl _
 have:=key ops.toList.length (Nat.le_refl _)
 rw [hH0,hHn] at this
 exact this
def lmPat (ops:Array Oper):Bool:=match meIx ops.toList 0 with
 | some _=>true
 | none=>false
def lmS (P:Program) (sm:Sums) (rec:Rec) (N:Nat) (ops:Array Oper) (env:Tr SV) (ds:List Nat) (st:St):Option (List Out):=match exD2 P sm rec N ops env st with
 | some p=>nrmS ds p
 | none=>none
def stepN (P:Program) (sm:Sums) (rec:Rec):Rec:=fun ro N c env ds st=>match c with
 | .region id ops draw=>match draw&&lmPat ops with
  | true=>lmS P sm rec N ops env ds st
  | false=>stepM P sm rec ro N (.region id ops draw) env ds st
 | c=>stepM P sm rec ro N c env ds st
def exN (P:Program) (sm:Sums) (n:Nat):Rec:=Nat.rec (motive:=fun _=>Rec) (fun _ _ _ _ _ _=>none) (fun _ ih=>stepN P sm ih) n
theorem stepN_some {ro:Option Nat} {c:Code} {env:Tr SV} {ds:List Nat} {L:List Out} (h:stepN P sm rec ro N c env ds st=some L):(∃ id ops p,c=.region id ops true∧exD2 P sm rec N ops env st=some p∧L=[(.nrm,p.1,ds,p.2)])∨stepM P sm rec ro N c env ds st=some L:=by
 unfold stepN at h
 split at h
 ·rename_i id ops draw
  split at h
  ·rename_i hd
   rw [Bool.and_eq_true] at hd
   unfold lmS at h
   split at h
   case h_2=>cases h
   rename_i p hp
   simp only [nrmS,Option.some.injEq] at h
   exact .inl ⟨id,ops,p,by rw [hd.1],hp,h.symm⟩
  ·exact .inr h
 ·exact .inr h
theorem stepN_mono (hr:RecMono rec) (hsm:SumMono sm):RecMono (stepN P sm rec):=by
 intro ro N c env ds st L h
 rcases stepN_some h with ⟨id,ops,p,rfl,hp,rfl⟩ | h
 ·intro o ho
  rw [List.mem_singleton] at ho
  subst ho
  exact exD2_mono hr hsm hp
 ·exact stepM_mono hr hsm _ _ _ _ _ _ _ h
theorem stepN_ne (hr:RecNE rec):RecNE (stepN P sm rec):=by
 intro ro N c env ds st L h
 rcases stepN_some h with ⟨id,ops,p,rfl,hp,rfl⟩ | h
 ·simp
 ·exact stepM_ne hr _ _ _ _ _ _ _ h
theorem exN_mono (hsm:SumMono sm):∀ n,RecMono (exN P sm n)
 | 0=>fun ro N c env ds st L h=>by (cases h)
 | n+1=>stepN_mono (exN_mono hsm n) hsm
theorem exN_ne:∀ n,RecNE (exN P sm n)
 | 0=>fun ro N c env ds st L h=>by (cases h)
 | n+1=>stepN_ne (exN_ne n)
theorem stepN_ok (hm:P.follows .mixedOrders=true) (hen:Enters P) (hrm:RecMono rec) (hrn:RecNE rec) (hr:CodeOK P rec) (hl:LoopOK P rec) (hsm:SumOK P sm):CodeOK P (stepN P sm rec)∧LoopOK P (stepN P sm rec):=by
 have hs:=stepM_ok hm hen hrm hrn hr hl hsm
 constructor
 ·intro ro N c env ds st L h
  rcases stepN_some h with ⟨id,ops,p,rfl,hp,rfl⟩ | h
  ·intro ρ D w a rb he hds hro hs hD hf
   refine wpIn_mono (exD2_ok (F:=fwd rb) (fun _=>trivial) hm (fun o env st L h=>exO_ok hen hrm hrn hr hsm h) hp he hs (hD _ List.mem_cons_self) (hf _ List.mem_cons_self)) ?_
   rintro e' a' w' ⟨rfl,ρ',hd',he',hst'⟩
   refine ⟨_,List.mem_cons_self,rfl,ρ',he',?_,hst'⟩
   show DsR ρ' ds a'.defers
   rw [hd'];exact hds.mono (hst'.le (hf _ List.mem_cons_self))
  ·exact hs.1 _ _ _ _ _ _ _ h
 ·intro ro N c env ds st L h
  rcases stepN_some h with ⟨id,ops,p,h1,_⟩ | h
  ·cases h1
  ·exact hs.2 _ _ _ _ _ _ _ h
theorem exN_ok (hm:P.follows .mixedOrders=true) (hen:Enters P) (hsm:SumOK P sm):∀ n,CodeOK P (exN P sm n)∧LoopOK P (exN P sm n)
 | 0=>⟨fun ro N c env ds st L h=>by (cases h),fun ro N c env ds st L h=>by (cases h)⟩
 | n+1=>stepN_ok hm hen (exN_mono hsm.1 n) (exN_ne n) (exN_ok hm hen hsm n).1 (exN_ok hm hen hsm n).2 hsm
def yesN (P:Program) (sm:Sums) (n:Nat) (f:FuncId):Bool:=match exF P sm (exN P sm n) f [] st0 with
 | some L=>allT L
 | _=>false
theorem yesN_ok (hm:P.follows .mixedOrders=true) (hen:Enters P) (hsm:SumOK P sm) {n:Nat} {f:FuncId} (h:yesN P sm n f=true) (w:World):CallsIn Fence.wide 0 P f #[] w (fun e w'=>e=.returned (.bool true)∧Kept w w'):=by
 unfold yesN at h
 split at h
 case h_2=>cases h
 rename_i L hx
 have hn:∀ x,st0.h.get x=none:=fun x=>Tr.get_lf x
 have hs:Sim (fun _=>none) (fun _=>True) st0 w:=⟨fun x o _ g=>(by rw [hn x] at g;cases g),fun x y b s s' _ _ g=>absurd (hn x) g,fun x g=>absurd (hn x) g⟩
 have:=(exF_ok (exN_mono hsm.1 n) (exN_ne n) (exN_ok hm hen hsm n).1 hsm hx).1 (fun _=>none) (fun _=>True) w [] RelL.nil hs (fun _ _ _ _=>trivial) (fun _ _ _ _ _=>rfl)
 refine CallsIn.mono this ?_
 rintro e w' ⟨p,hp,u,ρ',rfl,h1,h2⟩
 rw [allT_ok h p hp,Rel] at h1
 refine ⟨by rw [h1],h2.os,h2.tape,h2.output,h2.size,fun b hb=>?_⟩
 rcases h2.keep b hb with q | ⟨x,s,q,_⟩
 ·exact q
 ·cases q
end
end Go.TX
namespace Go.TX
open Go Go.TH
noncomputable section
def forceK {α β:Type}:List α→(List α→β)→β
  | [],k=>k []
  | x::r,k=>forceK r (fun t=>k (x::t))
theorem forceK_eq {α β:Type}:∀ (l:List α) (k:List α→β),forceK l k=k l
  | [],_=>rfl
  | x::r,k=>by rw [forceK,forceK_eq r]
def fastK {β:Type} (P:Program) (k:Program→β):β:=match P with
  | ⟨⟨v,pl,io,gd,⟨ts⟩,rt,ct,gl,ini,mn,fo⟩,⟨fs⟩⟩=>forceK ts fun ts'=>forceK fs fun fs'=>k ⟨⟨v,pl,io,gd,⟨ts'⟩,rt,ct,gl,ini,mn,fo⟩,⟨fs'⟩⟩
theorem fastK_eq {β:Type} (P:Program) (k:Program→β):fastK P k=k P:=by
  unfold fastK
  simp only [forceK_eq]
def mapF {α β:Type} (f:α→Option (List β)) (l:List α):Option (List β):=List.rec (motive:=fun _=>Option (List β)) (some []) (fun x r ih=>List.rec (motive:=fun _=>Option (List β)) (f x) (fun _ _ _=>Option.rec (motive:=fun _=>Option (List β)) none (fun l=>Option.rec (motive:=fun _=>Option (List β)) none (fun l'=>some (l++l')) ih) (f x)) r) l
theorem mapF_eq {α β:Type} (f:α→Option (List β)):∀ (l:List α),mapF f l=mapB f l
  | []=>by unfold mapB;rfl
  | [x]=>by
    unfold mapB
    show f x=_
    cases f x <;> rfl
  | x::y::r=>by
    have ih:=mapF_eq f (y::r)
    unfold mapB
    show Option.rec (motive:=fun _=>Option (List β)) none (fun l=>Option.rec (motive:=fun _=>Option (List β)) none (fun l'=>some (l++l')) (mapF f (y::r))) (f x)=_
    rw [ih]
    cases f x with
    | none=>rfl
    | some l =>
      show _=match mapB f (y::r) with
        | some l'=>some (l++l')
        | none=>none
      cases mapB f (y::r) <;> rfl
def bnd {α β:Type} (r:Option (List α)) (k:α→Option (List β)):Option (List β):=match r with
  | some L=>mapB k L
  | none=>none
theorem mapB_one {α β:Type} (k:α→Option (List β)) (x:α):mapB k [x]=k x:=by unfold mapB;cases k x <;> rfl
theorem bnd_one {α β:Type} (k:α→Option (List β)) (x:α):bnd (some [x]) k=k x:=mapB_one k x
theorem mapB_cons {α β:Type} (f:α→Option (List β)) (x y:α) (r:List α):mapB f (x::y::r)=match f x with
    | some l=>match mapB f (y::r) with
      | some l'=>some (l++l')
      | none=>none
    | none=>none:=by
  rw [mapB]
  cases f x with
  | none=>rfl
  | some l=>rfl
theorem mapB_nil {α β:Type} (f:α→Option (List β)):mapB f []=some []:=by unfold mapB;rfl
theorem mapB_app {α β:Type} (f:α→Option (List β)):∀ (l r:List α),mapB f (l++r)=match mapB f l with
    | some a=>match mapB f r with
      | some b=>some (a++b)
      | none=>none
    | none=>none
  | [],r=>by
    rw [List.nil_append,mapB_nil]
    cases mapB f r <;> rfl
  | [x],[]=>by
    rw [List.append_nil,mapB_nil]
    cases mapB f [x] with
    | none=>rfl
    | some a=>simp
  | [x],y::r=>by
    rw [List.cons_append,List.nil_append,mapB_cons,mapB_one]
  | x::y::l,r=>by
    have ih:=mapB_app f (y::l) r
    rw [List.cons_append,List.cons_append,mapB_cons,mapB_cons,← List.cons_append,ih]
    cases f x with
    | none=>rfl
    | some a =>
      cases mapB f (y::l) with
      | none=>rfl
      | some b=>cases mapB f r <;> simp
theorem mapB_bnd {α β γ:Type} (f:α→Option (List β)) (g:β→Option (List γ)):∀ (l:List α),bnd (mapB f l) g=mapB (fun x=>bnd (f x) g) l
  | []=>by rw [mapB_nil,mapB_nil];exact mapB_nil g
  | [x]=>by rw [mapB_one,mapB_one]
  | x::y::r=>by
    have ih:=mapB_bnd f g (y::r)
    rw [mapB_cons,mapB_cons,← ih]
    cases f x with
    | none=>rfl
    | some a =>
      cases mapB f (y::r) with
      | none =>
        show none=match mapB g a with
          | some l=>_
          | none=>none
        cases mapB g a <;> rfl
      | some b =>
        show mapB g (a++b)=_
        rw [mapB_app];rfl
theorem bnd_bnd {α β γ:Type} (r:Option (List α)) (f:α→Option (List β)) (g:β→Option (List γ)):bnd (bnd r f) g=bnd r (fun x=>bnd (f x) g):=by
  cases r with
  | none=>rfl
  | some l=>exact mapB_bnd f g l
theorem bnd_pure {α:Type} (r:Option (List α)):bnd r (fun x=>some [x])=r:=by
  cases r with
  | none=>rfl
  | some l =>
    show mapB _ l=some l
    have:∀ l:List α,mapB (fun x=>some [x]) l=some l:=by
      intro l
      induction l with
      | nil=>exact mapB_nil _
      | cons x r ih =>
        cases r with
        | nil=>exact mapB_one _ _
        | cons y r=>rw [mapB_cons,ih];rfl
    exact this l
theorem bnd_oneL {α β:Type} (r:Option α) (k:α→Option (List β)):bnd (oneL r) k=match r with
    | some p=>k p
    | none=>none:=by
  cases r with
  | none=>rfl
  | some p=>exact bnd_one k p
def bnd1 {α β:Type} (r:Option (List α)) (k:α→Option β):Option β:=match r with
  | some [p]=>k p
  | _=>none
def fin (md:Bool) (r:Option (List (SV × St))) (k:SV→St→RB):RB:=Option.rec (motive:=fun _=>RB) none (fun L=>Bool.rec (motive:=fun _=>RB) (mapF (fun p=>Prod.rec (motive:=fun _=>RB) k p) L) (List.rec (motive:=fun _=>RB) none (fun p r _=>List.rec (motive:=fun _=>RB) (Prod.rec (motive:=fun _=>RB) k p) (fun _ _ _=>none) r) L) md) r
theorem fin_eq (md:Bool) (r:Option (List (SV × St))) (k:SV→St→RB):fin md r k=match md with
    | false=>bnd r (fun p=>k p.1 p.2)
    | true=>bnd1 r (fun p=>k p.1 p.2):=by
  cases md with
  | false =>
    cases r with
    | none=>rfl
    | some L =>
      show mapF _ L=mapB _ L
      rw [mapF_eq]
  | true =>
    rcases r with _ | (_ | ⟨p,_ | ⟨q,l⟩⟩) <;> rfl
def stK (r:Option (SV × St)) (k:SV→St→RB):RB:=Option.rec (motive:=fun _=>RB) none (fun p=>Prod.rec (motive:=fun _=>RB) k p) r
def puK (r:Option SV) (st:St) (k:SV→St→RB):RB:=Option.rec (motive:=fun _=>RB) none (fun v=>k v st) r
theorem fin_oneL (md:Bool) (r:Option (SV × St)) (k:SV→St→RB):stK r k=fin md (oneL r) k:=by
  rw [fin_eq]
  cases r with
  | none=>cases md <;> rfl
  | some p=>cases md with
    | true=>rfl
    | false=>exact (mapB_one (fun p:SV × St=>k p.1 p.2) p).symm
theorem fin_puK (md:Bool) (r:Option SV) (st:St) (k:SV→St→RB):puK r st k=fin md (oneL (withS r st)) k:=by
  rw [← fin_oneL]
  cases r <;> rfl
theorem fin_none (md:Bool) (k:SV→St→RB):fin md none k=none:=rfl
structure KX where
  get:Tr SV→SV
def compX:Operand→KX:=Operand.rec (motive:=fun _=>KX) (fun t=>Tr.Acc.rec (motive:=fun _=>KX) (fun g _=>⟨fun env=>Option.rec (motive:=fun _=>SV) (.raw undef) (fun v=>v) (g env)⟩) (Tr.acc (α:=SV) (β:=Unit) t)) (fun v=>⟨fun _=>svOf v⟩) (fun g=>⟨fun _=>.raw (.pointer (some ⟨g,0,none⟩))⟩) (fun f=>⟨fun _=>.fn f [] []⟩)
theorem compX_get (x:Operand):(compX x).get=fun env=>svOp env x:=by
  cases x with
  | tmp t =>
    funext env
    show (Tr.Acc.rec (motive:=fun _=>KX) (fun g _=>⟨fun env=>Option.rec (motive:=fun _=>SV) (.raw undef) (fun v=>v) (g env)⟩) (Tr.acc (α:=SV) (β:=Unit) t):KX).get env=match env.get t with
      | some v=>v
      | none=>.raw undef
    unfold Tr.get
    generalize (Tr.acc t:Tr.Acc SV Unit)=a
    cases a with
    | mk g s =>
      show Option.rec (motive:=fun _=>SV) (.raw undef) (fun v=>v) (g env)=match g env with
        | some v=>v
        | none=>.raw undef
      cases g env <;> rfl
  | _=>rfl
def kX1 {α:Type} (x:Operand) (f:(Tr SV→SV)→α):α:=KX.rec (motive:=fun _=>α) (fun g=>f g) (compX x)
theorem kX1_eq {α:Type} (x:Operand) (f:(Tr SV→SV)→α):kX1 x f=f (fun env=>svOp env x):=by
  rw [← compX_get]
  unfold kX1
  cases compX x;rfl
structure KXs where
  get:Tr SV→List SV
def compXs:List Operand→KXs:=List.rec (motive:=fun _=>KXs) ⟨fun _=>[]⟩ (fun x _ ih=>KX.rec (motive:=fun _=>KXs) (fun g=>KXs.rec (motive:=fun _=>KXs) (fun gs=>⟨fun env=>g env::gs env⟩) ih) (compX x))
theorem compXs_get:∀ (xs:List Operand),(compXs xs).get=fun env=>svOps env xs
  | []=>rfl
  | x::r=>by
    have h1:=compX_get x
    have h2:=compXs_get r
    funext env
    show (KX.rec (motive:=fun _=>KXs) (fun g=>KXs.rec (motive:=fun _=>KXs) (fun gs=>⟨fun env=>g env::gs env⟩) (compXs r)) (compX x):KXs).get env=svOp env x::svOps env r
    generalize compX x=a at *
    generalize compXs r=b at *
    cases a with
    | mk ga =>
      cases b with
      | mk gb =>
        show ga env::gb env=_
        rw [show ga=_ from h1,show gb=_ from h2]
def kXs {α:Type} (xs:List Operand) (f:(Tr SV→List SV)→α):α:=KXs.rec (motive:=fun _=>α) (fun g=>f g) (compXs xs)
theorem kXs_eq {α:Type} (xs:List Operand) (f:(Tr SV→List SV)→α):kXs xs f=f (fun env=>svOps env xs):=by
  rw [← compXs_get]
  unfold kXs
  cases compXs xs;rfl
def envF (l:List SV):Nat→Tr SV→(Tr SV→RB)→RB:=List.rec (motive:=fun _=>Nat→Tr SV→(Tr SV→RB)→RB) (fun _ env k=>k env) (fun x _ ih i env k=>env.setK i (some x) fun env'=>ih (Nat.succ i) env' k) l
theorem envF_eq:∀ (l:List SV) (i:Nat) (env:Tr SV) (k:Tr SV→RB),envF l i env k=envK l i env k
  | [],_,_,_=>rfl
  | x::r,i,env,k=>by
    simp only [envK,← envF_eq r]
    rfl
abbrev RecK:=Option Nat→Nat→Code→Tr SV→List Nat→St→(Ex→Tr SV→List Nat→St→RB)→RB
def RecOK (rk:RecK) (rec:Rec):Prop:=∀ ro N c env ds st (k:Ex→Tr SV→List Nat→St→RB),rk ro N c env ds st k=bnd (rec ro N c env ds st) (fun o=>k o.1 o.2.1 o.2.2.1 o.2.2.2)
inductive KOp where
  /-- nothing is looked at but the temporaries -/
  | pur (f:Tr SV→(SV→RB)→RB)
  | gen (f:RecK→Tr SV→St→(SV→St→RB)→RB)
def KOp.run:KOp→RecK→Tr SV→St→(SV→St→RB)→RB
  | .pur f=>fun _ env st k=>f env fun v=>k v st
  | .gen f=>f
def kNo:KOp:=.pur fun _ _=>none
def boK (P:Program) (op:BinOp) (T:TypeId) (xo yo:Operand) (x y:Tr SV→SV):KOp:=match bqOf op with
  | some q=>.pur fun env k=>intF (x env) (puG k (boS P op T xo yo (x env) (y env))) fun kd m=>intF (y env) (puG k (boS P op T xo yo (x env) (y env))) fun kd' n=>q kd m kd' n k
  | none=>.pur fun env k=>puG k (boS P op T xo yo (x env) (y env))
theorem boK_run (P:Program) (op:BinOp) (T:TypeId) (xo yo:Operand) (x y:Tr SV→SV) (rk:RecK) (env:Tr SV) (st:St) (k:SV→St→RB):(boK P op T xo yo x y).run rk env st k=puG (fun v=>k v st) (boS P op T xo yo (x env) (y env)):=by
  unfold boK
  cases hq:bqOf op with
  | none=>rfl
  | some q =>
    show intF (x env) (puG (fun v=>k v st) (boS P op T xo yo (x env) (y env))) (fun kd m=>intF (y env) (puG (fun v=>k v st) (boS P op T xo yo (x env) (y env))) fun kd' n=>q kd m kd' n fun v=>k v st)=_
    generalize x env=a
    generalize y env=b
    cases a with
    | raw a =>
      cases a with
      | int kd m =>
        cases b with
        | raw b =>
          cases b with
          | int kd' n =>
            show q kd m kd' n (fun v=>k v st)=puG (fun v=>k v st) (ibS op kd m kd' n)
            rw [bqOf_ok hq]
            cases ibS op kd m kd' n <;> rfl
          | _=>rfl
        | _=>rfl
      | _=>rfl
    | _=>rfl
def cX1 (x:Operand) (f:(Tr SV→SV)→KOp):KOp:=kX1 x f
theorem cX1_eq (x:Operand) (f:(Tr SV→SV)→KOp):cX1 x f=f (fun env=>svOp env x):=kX1_eq x f
structure KF where
  run:RecK→List SV→St→Option (List (SV × St))
def ansOf (p:SV × St):Ans:=⟨p.1,.nrm,.lf,[],p.2⟩
def unOf (a:Ans):SV × St:=(a.v,a.st)
theorem unOf_map:∀ (l:List (SV × St)),(l.map ansOf).map unOf=l
  | []=>rfl
  | p::r=>congrArg (p::·) (unOf_map r)
def fnA (r:Option (SV × St)):RB:=Option.rec (motive:=fun _=>RB) none (fun p=>Prod.rec (motive:=fun _=>RB) (fun v st=>some [⟨v,.nrm,.lf,[],st⟩]) p) r
theorem fnA_eq (r:Option (SV × St)):fnA r=(oneL r).map (List.map ansOf):=by cases r <;> rfl
theorem mapB_map {α β γ:Type} (f:α→Option (List β)) (h:β→γ):∀ (l:List α),mapB (fun x=>(f x).map (List.map h)) l=(mapB f l).map (List.map h)
  | []=>by rw [mapB_nil,mapB_nil];rfl
  | [x]=>by rw [mapB_one,mapB_one]
  | x::y::r=>by
    rw [mapB_cons,mapB_cons,mapB_map f h (y::r)]
    cases f x with
    | none=>rfl
    | some a =>
      cases mapB f (y::r) with
      | none=>rfl
      | some b=>simp
theorem bnd_fnA {α:Type} (r:Option (List α)) (g:α→Option (SV × St)):bnd r (fun o=>fnA (g o))=(bnd r (fun o=>oneL (g o))).map (List.map ansOf):=by
  cases r with
  | none=>rfl
  | some L =>
    show mapB _ L=Option.map _ (mapB _ L)
    rw [← mapB_map]
    simp only [fnA_eq]
theorem bnd_map {α β:Type} (r:Option (List α)) (h:α→β):bnd r (fun x=>some [h x])=r.map (List.map h):=by
  have:=bnd_pure r
  cases r with
  | none=>rfl
  | some L =>
    have e:mapB (fun x=>some [x]) L=some L:=this
    show mapB (fun x=>(some [x]).map (List.map h)) L=_
    rw [mapB_map,e]
def unA (r:RB):Option (List (SV × St)):=Option.rec (motive:=fun _=>Option (List (SV × St))) none (fun L=>some (List.rec (motive:=fun _=>List (SV × St)) [] (fun a _ ih=>Ans.rec (motive:=fun _=>List (SV × St)) (fun v _ _ _ st=>(v,st)::ih) a) L)) r
theorem unA_eq (r:RB):unA r=r.map (List.map unOf):=by
  cases r with
  | none=>rfl
  | some L =>
    show some _=some _
    congr 1
    induction L with
    | nil=>rfl
    | cons a L ih =>
      obtain ⟨v,e,env,ds,st⟩:=a
      exact congrArg ((v,st)::·) ih
theorem unA_bnd {α:Type} (r:Option (List α)) (g:α→Option (SV × St)):unA (bnd r (fun o=>fnA (g o)))=bnd r (fun o=>oneL (g o)):=by
  rw [unA_eq,bnd_fnA]
  cases bnd r (fun o=>oneL (g o)) with
  | none=>rfl
  | some L=>show some _=some _;rw [unOf_map]
def joinF (n0:Nat) (l:List Ans):List (SV × St):=List.rec (motive:=fun _=>List (SV × St)) [] (fun a r _=>List.rec (motive:=fun _=>List (SV × St)) (Ans.rec (motive:=fun _=>List (SV × St)) (fun v _ _ _ st=>[(v,st)]) a) (fun _ _ _=>joinLF n0 (l.map unOf)) r) l
theorem joinF_eq (n0:Nat) (l:List (SV × St)):joinF n0 (l.map ansOf)=joinL n0 l:=by
  rcases l with _ | ⟨p,_ | ⟨q,r⟩⟩
  · rfl
  · rfl
  · show joinLF n0 (((p::q::r).map ansOf).map unOf)=_
    rw [unOf_map,joinLF_eq]
def someJ (n0:Nat) (r:RB):Option (List (SV × St)):=Option.rec (motive:=fun _=>Option (List (SV × St))) none (fun R=>some (joinF n0 R)) r
def compF (P:Program) (sm:Sums) (f:FuncId):KF:=match sm f with
  | some s=>⟨fun _ args st=>oneL (s args st)⟩
  | none=>match P.funcs[f]? with
    | some fn=>match fn.body with
      | some c=>⟨fun rk args st=>Bool.rec (motive:=fun _=>Option (List (SV × St))) none (someJ st.nx (envF args 0 .lf fun env=>rk none fn.ntmps c env [] st fun e env ds st=>fnA (finS P fn (e,env,ds,st)))) (Nat.ble (llenF args) fn.ntmps)⟩
      | none=>⟨fun _ _ _=>none⟩
    | none=>⟨fun _ _ _=>none⟩
theorem compF_eq (P:Program) (sm:Sums) {rk:RecK} {rec:Rec} (h:RecOK rk rec) (f:FuncId) (args:List SV) (st:St):(compF P sm f).run rk args st=exF P sm rec f args st:=by
  unfold compF exF
  cases sm f with
  | some s=>rfl
  | none =>
    cases P.funcs[f]? with
    | none=>rfl
    | some fn =>
      cases hb:fn.body with
      | none=>simp only [hb]
      | some c =>
        simp only [hb,llenF_eq]
        cases Nat.ble (llen args) fn.ntmps with
        | false=>rfl
        | true =>
          show someJ st.nx (envF args 0 .lf fun env=>rk none fn.ntmps c env [] st fun e env ds st=>fnA (finS P fn (e,env,ds,st)))=envK args 0 .lf _
          have hk:∀ (l:List SV) (i:Nat) (env:Tr SV) (k1:Tr SV→RB) (k2:Tr SV→Option (List (SV × St))),(∀ env,someJ st.nx (k1 env)=k2 env)→someJ st.nx (envF l i env k1)=envK l i env k2:=by
            intro l
            induction l with
            | nil=>intro i env k1 k2 hk;exact hk env
            | cons x r ih =>
              intro i env k1 k2 hk
              simp only [envF_eq,envK,Tr.setK_eq]
              rw [← envF_eq]
              exact ih _ _ _ _ hk
          refine hk _ _ _ _ _ fun env=>?_
          rw [h]
          show someJ st.nx (bnd _ fun o=>fnA (finS P fn o))=_
          rw [bnd_fnA]
          cases rec none fn.ntmps c env [] st with
          | none=>rfl
          | some L =>
            show someJ st.nx (Option.map _ (mapB (fun o=>oneL (finS P fn o)) L))=match mapB (fun o=>oneL (finS P fn o)) L with
              | some R=>some (joinL st.nx R)
              | none=>none
            cases mapB (fun o=>oneL (finS P fn o)) L with
            | none=>rfl
            | some R=>show some (joinF st.nx (R.map ansOf))=_;rw [joinF_eq]
def exFK (P:Program) (sm:Sums) (rk:RecK) (f:FuncId) (args:List SV) (st:St):Option (List (SV × St)):=KF.rec (motive:=fun _=>Option (List (SV × St))) (fun run=>run rk args st) (compF P sm f)
theorem exFK_eq (P:Program) (sm:Sums) {rk:RecK} {rec:Rec} (h:RecOK rk rec) (f:FuncId) (args:List SV) (st:St):exFK P sm rk f args st=exF P sm rec f args st:=by
  rw [← compF_eq P sm h]
  unfold exFK
  cases compF P sm f;rfl
def exYbL (rk:RecK) (l:Nat) (N:Nat) (assign body:Code) (env:Tr SV) (st:St):Option (List (SV × St)):=match rk (some l) N assign env [] st (fun e env ds st=>some [⟨.raw undef,e,env,ds,st⟩]) with
    | some [⟨_,e,env1,ds1,st1⟩]=>match e with
      | .nrm=>match st1.h.get l with
        | some (.loop r1)=>match r1.state with
          | .ready=>wtK st1 l (.loop { r1 with state:=.busy }) fun st2=>unA (rk (some l) N body env1 ds1 st2 fun e env ds st=>fnA (yEnd l (e,env,ds,st)))
          | _=>none
        | _=>none
      | _=>none
    | _=>none
def exYbK (rk:RecK) (l:Nat) (r:SLoop) (env:Tr SV) (st:St):Option (List (SV × St)):=SLoop.rec (motive:=fun _=>Option (List (SV × St))) (fun _ _ N _ _ assign body _=>exYbL rk l N assign body env st) r
def exYK (rk:RecK) (l:Nat) (args:List SV) (st:St):Option (List (SV × St)):=match st.h.get l with
  | some (.loop r)=>putsK r.params.toList args r.N r.tmps fun env=>exYbK rk l r env st
  | _=>none
def outA (o:Out):Ans:=⟨.raw undef,o.1,o.2.1,o.2.2.1,o.2.2.2⟩
theorem exYbK_eq {rk:RecK} {rec:Rec} (h:RecOK rk rec) (l:Nat) (r:SLoop) (env:Tr SV) (st:St):exYbK rk l r env st=exYb rec l r env st:=by
  show exYbL rk l r.N r.assign r.body env st=_
  unfold exYbL exYb
  rw [h]
  have e0:=bnd_map (rec (some l) r.N r.assign env [] st) outA
  have e1:(bnd (rec (some l) r.N r.assign env [] st) fun o=>some [⟨.raw undef,o.1,o.2.1,o.2.2.1,o.2.2.2⟩])=(rec (some l) r.N r.assign env [] st).map (List.map outA):=e0
  rw [e1]
  rcases rec (some l) r.N r.assign env [] st with _ | (_ | ⟨⟨e,env1,ds1,st1⟩,_ | ⟨_,_⟩⟩) <;> try rfl
  cases e <;> try rfl
  show (match st1.h.get l with
        | some (.loop r1)=>match r1.state with
          | .ready=>wtK st1 l (.loop { r1 with state:=.busy }) fun st2=>unA (rk (some l) r.N r.body env1 ds1 st2 fun e env ds st=>fnA (yEnd l (e,env,ds,st)))
          | _=>none
        | _=>none)=match st1.h.get l with
        | some (.loop r1)=>match r1.state with
          | .ready=>wtK st1 l (.loop { r1 with state:=.busy }) fun st2=>match rec (some l) r.N r.body env1 ds1 st2 with
            | some L=>mapB (fun o=>oneL (yEnd l o)) L
            | none=>none
          | _=>none
        | _=>none
  have h':=h
  unfold RecOK at h'
  have e2:∀ st2,unA (rk (some l) r.N r.body env1 ds1 st2 fun e env ds st=>fnA (yEnd l (e,env,ds,st)))=match rec (some l) r.N r.body env1 ds1 st2 with
            | some L=>mapB (fun o=>oneL (yEnd l o)) L
            | none=>none:=by
    intro st2
    rw [h']
    refine (unA_bnd _ (fun o=>yEnd l o)).trans ?_
    cases rec (some l) r.N r.body env1 ds1 st2 <;> rfl
  simp only [e2]
theorem exYK_eq {rk:RecK} {rec:Rec} (h:RecOK rk rec) (l:Nat) (args:List SV) (st:St):exYK rk l args st=exY rec l args st:=by
  unfold exYK exY
  simp only [exYbK_eq h]
  rfl
def clK (P:Program) (sm:Sums) (md:Bool) (ty:TypeId) (c:Call):KOp:=match c.callee with
  | .builtin b=>kXs c.args.toList fun xs=>.gen fun rk env st k=>stG k (biS P b c.argTypes.toList ty (xs env) st)
  | .value x=>match x with
    | .func f=>kXs c.args.toList fun xs=>.gen fun rk env st k=>fin md (exFK P sm rk f (xs env) st) k
    | x=>cX1 x fun x=>kXs c.args.toList fun xs=>.gen fun rk env st k=>match x env with
      | .fn f first cap=>fin md (exFK P sm rk f (appS first (appS (xs env) cap)) st) k
      | .yield l=>fin md (exYK rk l (xs env) st) k
      | _=>none
  | _=>kNo
def opK (P:Program) (sm:Sums) (md:Bool) (ty:TypeId):Op→KOp:=Op.rec (motive:=fun _=>KOp)
  /- move -/ (fun x0 => cX1 x0 fun x => .pur fun env k => k (x env))
  /- assign -/ (fun x0 => cX1 x0 fun x => .pur fun env k => k (x env))
  /- pick -/ (fun c0 x0 y0 => cX1 c0 fun c => cX1 x0 fun x => cX1 y0 fun y => .pur fun env k => puG k (pkS (c env) (x env) (y env)))
  /- alloc -/ (fun T => .gen fun rk env st k => stG k (alS P T st))
  /- box -/ (fun T x0 => cX1 x0 fun x => .gen fun rk env st k => stG k (bxS T (x env) st))
  /- build -/ (fun T ps => .pur fun env k => puG k (bdS P T (svParts env ps.toList)))
  /- buildSlice -/ (fun T n ps => .gen fun rk env st k => stG k (bsS P T n (svParts env ps.toList) st))
  /- insert -/ (fun T x0 i0 v0 => cX1 x0 fun x => cX1 i0 fun i => cX1 v0 fun v => .gen fun rk env st k => stG k (muS P T (x env) (i env) (v env) st))
  /- load -/ (fun T x0 => cX1 x0 fun x => stg (ldF P T) fun f => .gen fun rk env st k => f (x env) st k)
  /- store -/ (fun T x0 v0 => cX1 x0 fun x => cX1 v0 fun v => stg (stF P T) fun f => .gen fun rk env st k => f (x env) (v env) st k)
  /- ready -/ (fun _ => kNo)
  /- waits -/ (fun _ => kNo)
  /- nilCheck -/ (fun x0 => cX1 x0 fun x => .pur fun env k => puG k (ncS (x env)))
  /- binOp -/ (fun op T x0 y0 _ => cX1 x0 fun x => cX1 y0 fun y => boK P op T x0 y0 x y)
  /- unOp -/ (fun op _ x0 => cX1 x0 fun x => .pur fun env k => puG k (unS P op (x env)))
  /- convert -/ (fun T T' x0 => cX1 x0 fun x => .pur fun env k => puG k (cvS P T T' (x env)))
  /- sliceToArrayPointer -/ (fun _ _ => kNo)
  /- makeInterface -/ (fun _ _ => kNo)
  /- makeFunc -/ (fun f xs ys => (match f with | .func f => .pur fun env k => k (.fn f (svOps env xs.toList) (svOps env ys.toList)) | _ => kNo))
  /- makeMap -/ (fun _ r => (match r with | none => .gen fun rk env st k => stG k (mmS none st) | some _ => kNo))
  /- makeChan -/ (fun _ _ => kNo)
  /- makeSlice -/ (fun T x0 y0 => cX1 x0 fun x => cX1 y0 fun y => .gen fun rk env st k => stG k (mkS P T (x env) (y env) st))
  /- slice -/ (fun T x0 lo hi mx => cX1 x0 fun x => .gen fun rk env st k => stG k (slS P T (x env) (lo.map (svOp env)) (hi.map (svOp env)) (mx.map (svOp env)) st))
  /- fieldAddr -/ (fun T x0 f => cX1 x0 fun x => stg (faF P T f) fun f => .pur fun env k => f (x env) k)
  /- field -/ (fun T x0 f => cX1 x0 fun x => .pur fun env k => puG k (fdS P T f (x env)))
  /- indexAddr -/ (fun T x0 i0 => cX1 x0 fun x => cX1 i0 fun i => stg (iaF P T) fun f => .pur fun env k => f (x env) (i env) k)
  /- index -/ (fun T x0 i0 => cX1 x0 fun x => cX1 i0 fun i => .pur fun env k => puG k (ixS P T (x env) (i env)))
  /- lookup -/ (fun T x0 i0 ok => cX1 x0 fun x => cX1 i0 fun i => .gen fun rk env st k => stG k (lkS P T (x env) (i env) ok st))
  /- mapUpdate -/ (fun T x0 i0 v0 => cX1 x0 fun x => cX1 i0 fun i => cX1 v0 fun v => .gen fun rk env st k => stG k (muS P T (x env) (i env) (v env) st))
  /- mapEntry -/ (fun T x0 i0 => cX1 x0 fun x => cX1 i0 fun i => .gen fun rk env st k => stG k (meS P T (x env) (i env) st))
  /- entryStore -/ (fun _ x0 i0 v0 => cX1 x0 fun x => cX1 i0 fun i => cX1 v0 fun v => .gen fun rk env st k => stG k (esS (x env) (i env) (v env) st))
  /- range -/ (fun T x0 => cX1 x0 fun x => .gen fun rk env st k => stG k (rgS P T (x env) st))
  /- next -/ (fun x0 s => cX1 x0 fun x => (match s with | false => .gen fun rk env st k => fin md (nxS (x env) st) k | true => kNo))
  /- entry -/ (fun x0 => cX1 x0 fun x => .gen fun rk env st k => stG k (enS (x env) st))
  /- typeAssert -/ (fun _ _ _ _ => kNo)
  /- extract -/ (fun x0 i => cX1 x0 fun x => .pur fun env k => puG k (exS (x env) i))
  /- call -/ (fun c => clK P sm md ty c)
  /- go -/ (fun _ => kNo)
  /- defer -/ (fun _ => kNo)
  /- panic -/ (fun _ => kNo)
  /- send -/ (fun _ _ => kNo)
  /- recv -/ (fun _ _ _ => kNo)
  /- select -/ (fun _ _ => kNo)
theorem appS_nil:∀ (l:List SV),appS l []=l
  | []=>rfl
  | x::r=>by rw [appS,appS_nil r]
theorem opK_eq (P:Program) (sm:Sums) (md:Bool) {rk:RecK} {rec:Rec} (h:RecOK rk rec) (o:Oper) (env:Tr SV) (st:St) (k:SV→St→RB):(opK P sm md o.type o.op).run rk env st k=fin md (exO P sm rec env o st) k:=by
  obtain ⟨d,op,ty,pos,af,g⟩:=o
  cases op with
  | call c =>
    have key:∀ v:SV,(match v with
        | .fn f first cap=>fin md (exFK P sm rk f (appS first (appS (svOps env c.args.toList) cap)) st) k
        | .yield l=>fin md (exYK rk l (svOps env c.args.toList) st) k
        | _=>none)=fin md (match v with
        | .fn f first cap=>exF P sm rec f (appS first (appS (svOps env c.args.toList) cap)) st
        | .yield l=>exY rec l (svOps env c.args.toList) st
        | _=>none) k:=by
      intro v
      cases v <;> simp only [exFK_eq P sm h,exYK_eq h,fin_none]
    show (clK P sm md ty c).run rk env st k=_
    unfold clK exO
    simp only [kXs_eq]
    cases hc:c.callee with
    | builtin b=>simp only [hc];exact fin_oneL _ _ _
    | value x =>
      simp only [hc]
      cases x with
      | func f =>
        show fin md (exFK P sm rk f (svOps env c.args.toList) st) k=fin md (exF P sm rec f (appS [] (appS (svOps env c.args.toList) [])) st) k
        rw [exFK_eq P sm h,appS_nil];rfl
      | tmp t=>simp only [cX1_eq];exact key (svOp env (.tmp t))
      | const v=>simp only [cX1_eq];exact key (svOp env (.const v))
      | global g=>simp only [cX1_eq];exact key (svOp env (.global g))
    | _=>simp only [hc];rfl
  | next x s =>
    cases s with
    | false =>
      show (cX1 x fun x=>.gen fun rk env st k=>fin md (nxS (x env) st) k).run rk env st k=_
      rw [cX1_eq];rfl
    | true =>
      show (cX1 x fun x=>kNo).run rk env st k=_
      rw [cX1_eq];rfl
  | makeFunc f xs ys =>
    cases f with
    | func f=>exact fin_oneL md (some (.fn f (svOps env xs.toList) (svOps env ys.toList),st)) k
    | _=>cases md <;> rfl
  | makeMap T r =>
    cases r with
    | none=>exact fin_oneL md (mmS none st) k
    | some r=>cases md <;> rfl
  | move x =>
    show (cX1 x fun x=>.pur fun env k=>k (x env)).run rk env st k=_
    rw [cX1_eq];exact fin_oneL md (some (svOp env x,st)) k
  | assign x =>
    show (cX1 x fun x=>.pur fun env k=>k (x env)).run rk env st k=_
    rw [cX1_eq];exact fin_oneL md (some (svOp env x,st)) k
  | load T x =>
    show (cX1 x fun x=>stg (ldF P T) fun f=>.gen fun rk env st k=>f (x env) st k).run rk env st k=_
    simp only [cX1_eq,stg_eq]
    exact (ldF_eq P T _ st k).trans (fin_oneL md _ k)
  | store T x v =>
    show (cX1 x fun x=>cX1 v fun v=>stg (stF P T) fun f=>.gen fun rk env st k=>f (x env) (v env) st k).run rk env st k=_
    simp only [cX1_eq,stg_eq]
    exact (stF_eq P T _ _ st k).trans (fin_oneL md _ k)
  | fieldAddr T x f =>
    show (cX1 x fun x=>stg (faF P T f) fun f=>.pur fun env k=>f (x env) k).run rk env st k=_
    simp only [cX1_eq,stg_eq]
    exact (faF_eq P T f _ (fun v=>k v st)).trans (fin_puK md _ st k)
  | indexAddr T x i =>
    show (cX1 x fun x=>cX1 i fun i=>stg (iaF P T) fun f=>.pur fun env k=>f (x env) (i env) k).run rk env st k=_
    simp only [cX1_eq,stg_eq]
    exact (iaF_eq P T _ _ (fun v=>k v st)).trans (fin_puK md _ st k)
  | binOp op T x y w =>
    show (cX1 x fun x'=>cX1 y fun y'=>boK P op T x y x' y').run rk env st k=_
    simp only [cX1_eq,boK_run]
    exact fin_puK md _ st k
  | pick c0 x0 y0 =>
    show (cX1 c0 fun c=>cX1 x0 fun x=>cX1 y0 fun y=>.pur fun env k=>puG k (pkS (c env) (x env) (y env)):KOp).run rk env st k=_
    simp only [cX1_eq]
    exact fin_puK md _ st k
  | alloc T =>
    show (.gen fun rk env st k=>stG k (alS P T st):KOp).run rk env st k=_
    exact fin_oneL md _ k
  | box T x0 =>
    show (cX1 x0 fun x=>.gen fun rk env st k=>stG k (bxS T (x env) st):KOp).run rk env st k=_
    simp only [cX1_eq]
    exact fin_oneL md _ k
  | build T ps =>
    show (.pur fun env k=>puG k (bdS P T (svParts env ps.toList)):KOp).run rk env st k=_
    exact fin_puK md _ st k
  | buildSlice T n ps =>
    show (.gen fun rk env st k=>stG k (bsS P T n (svParts env ps.toList) st):KOp).run rk env st k=_
    exact fin_oneL md _ k
  | insert T x0 i0 v0 =>
    show (cX1 x0 fun x=>cX1 i0 fun i=>cX1 v0 fun v=>.gen fun rk env st k=>stG k (muS P T (x env) (i env) (v env) st):KOp).run rk env st k=_
    simp only [cX1_eq]
    exact fin_oneL md _ k
  | ready _=>cases md <;> rfl
  | waits _=>cases md <;> rfl
  | nilCheck x0 =>
    show (cX1 x0 fun x=>.pur fun env k=>puG k (ncS (x env)):KOp).run rk env st k=_
    simp only [cX1_eq]
    exact fin_puK md _ st k
  | unOp op _ x0 =>
    show (cX1 x0 fun x=>.pur fun env k=>puG k (unS P op (x env)):KOp).run rk env st k=_
    simp only [cX1_eq]
    exact fin_puK md _ st k
  | convert T T' x0 =>
    show (cX1 x0 fun x=>.pur fun env k=>puG k (cvS P T T' (x env)):KOp).run rk env st k=_
    simp only [cX1_eq]
    exact fin_puK md _ st k
  | sliceToArrayPointer _ _=>cases md <;> rfl
  | makeInterface _ _=>cases md <;> rfl
  | makeChan _ _=>cases md <;> rfl
  | makeSlice T x0 y0 =>
    show (cX1 x0 fun x=>cX1 y0 fun y=>.gen fun rk env st k=>stG k (mkS P T (x env) (y env) st):KOp).run rk env st k=_
    simp only [cX1_eq]
    exact fin_oneL md _ k
  | slice T x0 lo hi mx =>
    show (cX1 x0 fun x=>.gen fun rk env st k=>stG k (slS P T (x env) (lo.map (svOp env)) (hi.map (svOp env)) (mx.map (svOp env)) st):KOp).run rk env st k=_
    simp only [cX1_eq]
    exact fin_oneL md _ k
  | field T x0 f =>
    show (cX1 x0 fun x=>.pur fun env k=>puG k (fdS P T f (x env)):KOp).run rk env st k=_
    simp only [cX1_eq]
    exact fin_puK md _ st k
  | index T x0 i0 =>
    show (cX1 x0 fun x=>cX1 i0 fun i=>.pur fun env k=>puG k (ixS P T (x env) (i env)):KOp).run rk env st k=_
    simp only [cX1_eq]
    exact fin_puK md _ st k
  | lookup T x0 i0 ok =>
    show (cX1 x0 fun x=>cX1 i0 fun i=>.gen fun rk env st k=>stG k (lkS P T (x env) (i env) ok st):KOp).run rk env st k=_
    simp only [cX1_eq]
    exact fin_oneL md _ k
  | mapUpdate T x0 i0 v0 =>
    show (cX1 x0 fun x=>cX1 i0 fun i=>cX1 v0 fun v=>.gen fun rk env st k=>stG k (muS P T (x env) (i env) (v env) st):KOp).run rk env st k=_
    simp only [cX1_eq]
    exact fin_oneL md _ k
  | mapEntry T x0 i0 =>
    show (cX1 x0 fun x=>cX1 i0 fun i=>.gen fun rk env st k=>stG k (meS P T (x env) (i env) st):KOp).run rk env st k=_
    simp only [cX1_eq]
    exact fin_oneL md _ k
  | entryStore _ x0 i0 v0 =>
    show (cX1 x0 fun x=>cX1 i0 fun i=>cX1 v0 fun v=>.gen fun rk env st k=>stG k (esS (x env) (i env) (v env) st):KOp).run rk env st k=_
    simp only [cX1_eq]
    exact fin_oneL md _ k
  | range T x0 =>
    show (cX1 x0 fun x=>.gen fun rk env st k=>stG k (rgS P T (x env) st):KOp).run rk env st k=_
    simp only [cX1_eq]
    exact fin_oneL md _ k
  | entry x0 =>
    show (cX1 x0 fun x=>.gen fun rk env st k=>stG k (enS (x env) st):KOp).run rk env st k=_
    simp only [cX1_eq]
    exact fin_oneL md _ k
  | typeAssert _ _ _ _=>cases md <;> rfl
  | extract x0 i =>
    show (cX1 x0 fun x=>.pur fun env k=>puG k (exS (x env) i):KOp).run rk env st k=_
    simp only [cX1_eq]
    exact fin_puK md _ st k
  | go _=>cases md <;> rfl
  | defer _=>cases md <;> rfl
  | panic _=>cases md <;> rfl
  | send _ _=>cases md <;> rfl
  | recv _ _ _=>cases md <;> rfl
  | select _ _=>cases md <;> rfl
structure KP where
  put:Tr SV→SV→(Tr SV→RB)→RB
def compP (N:Nat) (d:Option Tmp):KP:=Option.rec (motive:=fun _=>KP) ⟨fun env _ k=>k env⟩ (fun d=>Bool.rec (motive:=fun _=>KP) ⟨fun _ _ _=>none⟩ (Tr.Acc.rec (motive:=fun _=>KP) (fun _ s=>⟨fun env v k=>s env (some v) k⟩) (Tr.acc d)) (Nat.ble (Nat.succ d) N)) d
theorem compP_eq (N:Nat) (d:Option Tmp) (env:Tr SV) (v:SV) (k:Tr SV→RB):(compP N d).put env v k=putK N env d v k:=by
  cases d with
  | none=>rfl
  | some d =>
    show (Bool.rec (motive:=fun _=>KP) ⟨fun _ _ _=>none⟩ (Tr.Acc.rec (motive:=fun _=>KP) (fun _ s=>⟨fun env v k=>s env (some v) k⟩) (Tr.acc d)) (Nat.ble (Nat.succ d) N):KP).put env v k=bif Nat.ble (Nat.succ d) N then env.setK d (some v) k else none
    cases Nat.ble (Nat.succ d) N with
    | false=>rfl
    | true =>
      show (Tr.Acc.rec (motive:=fun _=>KP) (fun _ s=>⟨fun env v k=>s env (some v) k⟩) (Tr.acc d):KP).put env v k=env.setK d (some v) k
      unfold Tr.setK
      generalize (Tr.acc d:Tr.Acc SV RB)=a
      cases a;rfl
structure KG where
  tst:Tr SV→RB→RB→RB
def gdS (want:Bool) (v:Option SV) (a b:RB):RB:=match v with
  | some (.raw v)=>match v with
    | .bool b'=>bif beqB b' want then a else b
    | _=>b
  | some (.tup _)=>b
  | _=>none
def compG (ops:List Oper) (g:Option (Nat × Bool)):KG:=match g with
  | none=>⟨fun _ a _=>a⟩
  | some (j,want)=>match nth ops j with
    | some oj=>match oj.dst with
      | some d=>⟨fun env a b=>gdS want (env.get d) a b⟩
      | none=>⟨fun _ _ _=>none⟩
    | none=>⟨fun _ _ _=>none⟩
theorem compG_eq (ops:List Oper) (env:Tr SV) (a b:RB) (o:Oper):(compG ops o.guard).tst env a b=match wantS ops env o with
    | some true=>a
    | some false=>b
    | none=>none:=by
  unfold wantS compG
  cases h:o.guard with
  | none=>rfl
  | some p =>
    obtain ⟨j,want⟩:=p
    simp only
    cases h1:nth ops j with
    | none=>rfl
    | some oj =>
      simp only
      cases h2:oj.dst with
      | none=>rfl
      | some d =>
        simp only [gdS]
        cases h3:env.get d with
        | none=>rfl
        | some s =>
          cases s <;> simp
          rename_i v
          cases v <;> simp
          rename_i b'
          cases beqB b' want <;> simp
section
variable (P:Program) (sm:Sums)
structure KL where
  run:RecK→Tr SV→St→(Tr SV→St→RB)→RB
def kl (N:Nat) (ops:List Oper) (tail:KL):Oper→KL:=Oper.rec (motive:=fun _=>KL) (fun dst op ty _ _ g=>KP.rec (motive:=fun _=>KL) (fun put=>KL.rec (motive:=fun _=>KL) (fun trun=>KOp.rec (motive:=fun _=>KL)
    (fun prun=>Option.rec (motive:=fun _=>KL)
      ⟨fun rk env st k=>prun env fun v=>put env v fun env'=>trun rk env' st k⟩
      (fun g=>KG.rec (motive:=fun _=>KL) (fun tst=>⟨fun rk env st k=>tst env (prun env fun v=>put env v fun env'=>trun rk env' st k) (put env (.raw undef) fun env'=>trun rk env' st k)⟩) (compG ops (some g))) g)
    (fun orun=>Option.rec (motive:=fun _=>KL)
      ⟨fun rk env st k=>orun rk env st fun v st'=>put env v fun env'=>trun rk env' st' k⟩
      (fun g=>KG.rec (motive:=fun _=>KL) (fun tst=>⟨fun rk env st k=>tst env (orun rk env st fun v st'=>put env v fun env'=>trun rk env' st' k) (put env (.raw undef) fun env'=>trun rk env' st k)⟩) (compG ops (some g))) g) (opK P sm false ty op)) tail) (compP N dst))
theorem kl_run (N:Nat) (ops:List Oper) (tail:KL) (o:Oper) (rk:RecK) (env:Tr SV) (st:St) (k:Tr SV→St→RB):(kl P sm N ops tail o).run rk env st k=(compG ops o.guard).tst env ((opK P sm false o.type o.op).run rk env st fun v st'=>putK N env o.dst v fun env'=>tail.run rk env' st' k) (putK N env o.dst (.raw undef) fun env'=>tail.run rk env' st k):=by
  obtain ⟨dst,op,ty,pos,af,g⟩:=o
  simp only [← compP_eq]
  unfold kl
  simp only
  generalize compP N dst=p
  generalize opK P sm false ty op=q
  cases p with
  | mk put =>
    cases tail with
    | mk trun =>
      cases q with
      | pur prun =>
        cases g with
        | none=>rfl
        | some g =>
          simp only
          generalize compG ops (some g)=c
          cases c;rfl
      | gen orun =>
        cases g with
        | none=>rfl
        | some g =>
          simp only
          generalize compG ops (some g)=c
          cases c;rfl
def compL (N:Nat) (ops:List Oper):List Oper→KL:=List.rec (motive:=fun _=>KL) ⟨fun _ env st k=>k env st⟩ (fun o _ ih=>kl P sm N ops ih o)
theorem compL_eq {rk:RecK} {rec:Rec} (h:RecOK rk rec) (N:Nat) (ops:List Oper):∀ (l:List Oper) (env:Tr SV) (st:St) (k:Tr SV→St→RB),(compL P sm N ops l).run rk env st k=bnd (exL P sm rec N ops l env st) (fun p=>k p.1 p.2)
  | [],env,st,k=>(bnd_one (fun p:Tr SV × St=>k p.1 p.2) (env,st)).symm
  | o::l,env,st,k=>by
    show (kl P sm N ops (compL P sm N ops l) o).run rk env st k=_
    rw [kl_run,compG_eq,exL,opK_eq P sm false h,fin_eq]
    simp only [compL_eq h N ops l]
    cases wantS ops env o with
    | none=>rfl
    | some b =>
      have hput:∀ v st,(putK N env o.dst v fun env'=>bnd (exL P sm rec N ops l env' st) (fun p=>k p.1 p.2))=bnd (putK N env o.dst v fun env'=>exL P sm rec N ops l env' st) (fun p=>k p.1 p.2):=by
        intro v st
        cases o.dst with
        | none=>rfl
        | some d =>
          simp only [putK,Tr.setK_eq]
          cases Nat.blt d N <;> rfl
      cases b with
      | false=>exact hput _ _
      | true =>
        show bnd (exO P sm rec env o st) (fun p=>putK N env o.dst p.1 fun env'=>bnd (exL P sm rec N ops l env' p.2) (fun p=>k p.1 p.2))=bnd (match exO P sm rec env o st with
          | some L=>mapB (fun p=>putK N env o.dst p.1 fun env'=>exL P sm rec N ops l env' p.2) L
          | none=>none) (fun p=>k p.1 p.2)
        simp only [hput]
        rw [← bnd_bnd]
        cases exO P sm rec env o st <;> rfl
structure KR where
  run:RecK→Tr SV→Tr SO→Nat→List (Nat × Tc)→(Tr SV→Tr SO→Nat→List (Nat × Tc)→RB)→RB
def kr (N:Nat) (ops:List Oper) (tail:KR) (i:Nat):Oper→KR:=Oper.rec (motive:=fun _=>KR) (fun dst op ty _ _ g=>KP.rec (motive:=fun _=>KR) (fun put=>KR.rec (motive:=fun _=>KR) (fun trun=>KOp.rec (motive:=fun _=>KR)
    (fun prun=>Option.rec (motive:=fun _=>KR)
      ⟨fun rk env h nx acc k=>prun env fun v=>put env v fun env'=>trun rk env' h nx acc k⟩
      (fun g=>KG.rec (motive:=fun _=>KR) (fun tst=>⟨fun rk env h nx acc k=>tst env (prun env fun v=>put env v fun env'=>trun rk env' h nx acc k) (put env (.raw undef) fun env'=>trun rk env' h nx acc k)⟩) (compG ops (some g))) g)
    (fun orun=>Option.rec (motive:=fun _=>KR)
      ⟨fun rk env h nx acc k=>orun rk env ⟨h,nx,nx,[],[]⟩ fun v st'=>endF i h nx st' acc fun h2 nx2 acc'=>put env v fun env'=>trun rk env' h2 nx2 acc' k⟩
      (fun g=>KG.rec (motive:=fun _=>KR) (fun tst=>⟨fun rk env h nx acc k=>tst env (orun rk env ⟨h,nx,nx,[],[]⟩ fun v st'=>endF i h nx st' acc fun h2 nx2 acc'=>put env v fun env'=>trun rk env' h2 nx2 acc' k) (put env (.raw undef) fun env'=>trun rk env' h nx acc k)⟩) (compG ops (some g))) g) (opK P sm true ty op)) tail) (compP N dst))
theorem endK_0 (h:Tr SO) (nx:Nat) (k:Tr SO→Nat→Tc→RB):endK h nx ⟨h,nx,nx,[],[]⟩ k=k h nx ⟨[],[],nx,nx,true⟩:=by
  simp only [endK,quietB]
  rw [show Nat.beq nx nx=true from Nat.beq_refl nx];rfl
theorem psh_nul (i nx:Nat) (acc:List (Nat × Tc)):psh i ⟨[],[],nx,nx,true⟩ acc=acc:=by
  have:nul ⟨[],[],nx,nx,true⟩=true:=by simp [nul]
  simp only [psh,this];rfl
theorem kr_run (N:Nat) (ops:List Oper) (tail:KR) (i:Nat) (o:Oper) (rk:RecK) (env:Tr SV) (h:Tr SO) (nx:Nat) (acc:List (Nat × Tc)) (k:Tr SV→Tr SO→Nat→List (Nat × Tc)→RB):(kr P sm N ops tail i o).run rk env h nx acc k=(compG ops o.guard).tst env ((opK P sm true o.type o.op).run rk env ⟨h,nx,nx,[],[]⟩ fun v st'=>endK h nx st' fun h2 nx2 t=>putK N env o.dst v fun env'=>tail.run rk env' h2 nx2 (psh i t acc) k) (putK N env o.dst (.raw undef) fun env'=>tail.run rk env' h nx acc k):=by
  obtain ⟨dst,op,ty,pos,af,g⟩:=o
  simp only [← compP_eq]
  unfold kr
  simp only [endF_eq]
  generalize compP N dst=p
  generalize opK P sm true ty op=q
  cases p with
  | mk put =>
    cases tail with
    | mk trun =>
      cases q with
      | pur prun =>
        have e:∀ (k:Tr SV→Tr SO→Nat→List (Nat × Tc)→RB),(KOp.pur prun).run rk env ⟨h,nx,nx,[],[]⟩ (fun v st'=>endK h nx st' fun h2 nx2 t=>put env v fun env'=>trun rk env' h2 nx2 (psh i t acc) k)=prun env fun v=>put env v fun env'=>trun rk env' h nx acc k:=by
          intro k
          show (prun env fun v=>endK h nx ⟨h,nx,nx,[],[]⟩ fun h2 nx2 t=>put env v fun env'=>trun rk env' h2 nx2 (psh i t acc) k)=_
          simp only [endK_0,psh_nul]
        cases g with
        | none=>exact (e k).symm
        | some g =>
          simp only
          generalize compG ops (some g)=c
          cases c
          simp only [e]
      | gen orun =>
        cases g with
        | none=>rfl
        | some g =>
          simp only
          generalize compG ops (some g)=c
          cases c;rfl
def compR (N:Nat) (ops:List Oper) (l:List Oper):Nat→KR:=List.rec (motive:=fun _=>Nat→KR) (fun _=>⟨fun _ env h nx acc k=>k env h nx acc⟩) (fun o _ ih i=>kr P sm N ops (ih (Nat.succ i)) i o) l
def obd {α:Type} (r:Option α) (k:α→RB):RB:=match r with
  | some p=>k p
  | none=>none
theorem compR_eq {rk:RecK} {rec:Rec} (hr:RecOK rk rec) (N:Nat) (ops:List Oper):∀ (l:List Oper) (env:Tr SV) (h:Tr SO) (nx:Nat) (acc:List Tc) (k:Tr SV→Tr SO→Nat→List (Nat × Tc)→RB),(compR P sm N ops l acc.length).run rk env h nx (flt acc) k=obd (exR P sm rec N ops l env h nx acc) (fun p=>k p.1 p.2.1 p.2.2.1 (flt p.2.2.2))
  | [],env,h,nx,acc,k=>rfl
  | o::l,env,h,nx,acc,k=>by
    show (kr P sm N ops (compR P sm N ops l (Nat.succ acc.length)) acc.length o).run rk env h nx (flt acc) k=_
    have ih:∀ env h nx t,(compR P sm N ops l (Nat.succ acc.length)).run rk env h nx (psh acc.length t (flt acc)) k=obd (exR P sm rec N ops l env h nx (t::acc)) (fun p=>k p.1 p.2.1 p.2.2.1 (flt p.2.2.2)):=fun env h nx t=>compR_eq hr N ops l env h nx (t::acc) k
    have ih0:∀ env h nx,(compR P sm N ops l (Nat.succ acc.length)).run rk env h nx (flt acc) k=obd (exR P sm rec N ops l env h nx (⟨[],[],nx,nx,true⟩::acc)) (fun p=>k p.1 p.2.1 p.2.2.1 (flt p.2.2.2)):=fun env h nx=>by
      rw [← ih,psh_nul]
    rw [kr_run,compG_eq,exR,opK_eq P sm true hr,fin_eq]
    simp only [ih,ih0]
    cases wantS ops env o with
    | none=>rfl
    | some b =>
      have hput:∀ v h nx acc,(putK N env o.dst v fun env'=>obd (exR P sm rec N ops l env' h nx acc) (fun p=>k p.1 p.2.1 p.2.2.1 (flt p.2.2.2)))=obd (putK N env o.dst v fun env'=>exR P sm rec N ops l env' h nx acc) (fun p=>k p.1 p.2.1 p.2.2.1 (flt p.2.2.2)):=by
        intro v h nx acc
        cases o.dst with
        | none=>rfl
        | some d =>
          simp only [putK,Tr.setK_eq]
          cases Nat.blt d N <;> rfl
      cases b with
      | false=>exact hput _ _ _ _
      | true =>
        rcases he:exO P sm rec env o ⟨h,nx,nx,[],[]⟩ with _ | (_ | ⟨⟨v,st'⟩,_ | ⟨_,_⟩⟩)
        · rfl
        · rfl
        · show (endK h nx st' fun h2 nx2 t=>putK N env o.dst v fun env'=>obd (exR P sm rec N ops l env' h2 nx2 (t::acc)) (fun p=>k p.1 p.2.1 p.2.2.1 (flt p.2.2.2)))=obd (endK h nx st' fun h2 nx2 t=>putK N env o.dst v fun env'=>exR P sm rec N ops l env' h2 nx2 (t::acc)) (fun p=>k p.1 p.2.1 p.2.2.1 (flt p.2.2.2))
          simp only [hput]
          have mrgK_app:∀ (h':Tr SO) (W:List Nat) (h:Tr SO) (k1:Tr SO→Option (Tr SV × Tr SO × Nat × List Tc)) (g:_→RB),mrgK h' W h (fun x=>obd (k1 x) g)=obd (mrgK h' W h k1) g:=by
            intro h' W
            induction W with
            | nil=>intros;rfl
            | cons x r ih =>
              intro h k1 g
              simp only [mrgK,Tr.setK_eq]
              cases h'.get x <;> exact ih _ _ _
          have rngK_app:∀ (h':Tr SO) (n x:Nat) (h:Tr SO) (k1:Tr SO→Option (Tr SV × Tr SO × Nat × List Tc)) (g:_→RB),rngK h' n x h (fun x=>obd (k1 x) g)=obd (rngK h' n x h k1) g:=by
            intro h' n
            induction n with
            | zero=>intros;rfl
            | succ n ih =>
              intro x h k1 g
              simp only [rngK,Tr.setK_eq,natK_eq]
              cases h'.get x <;> exact ih _ _ _ _
          obtain ⟨h',nx',b',R,W⟩:=st'
          simp only [endK]
          cases quietB W nx nx' with
          | true=>rfl
          | false =>
            simp only [cond_false]
            cases Nat.ble nx nx' with
            | false=>rfl
            | true =>
              simp only [cond_true]
              cases okW nx R W with
              | false=>rfl
              | true =>
                simp only [cond_true]
                simp only [rngK_app,mrgK_app]
        · rfl
def compD (N:Nat) (ops:Array Oper):KL:=Bool.rec (motive:=fun _=>KL) ⟨fun _ _ _ _=>none⟩ (KR.rec (motive:=fun _=>KL) (fun run=>⟨fun rk env st k=>St.rec (motive:=fun _=>RB) (fun h nx b R W=>run rk env h nx [] fun env' h' nx' ts=>Bool.rec (motive:=fun _=>RB) (Bool.rec (motive:=fun _=>RB) none (tellZ b ts R W fun R' W'=>k env' ⟨h',nx',b,R',W'⟩) (sepP (fun i=>(nthF (cloO ops.toList) (ops.toList.length-1-i)).getD 0) ts)) (tellZ b ts R W fun R' W'=>k env' ⟨h',nx',b,R',W'⟩) (allQF ts)) st⟩) (compR P sm N ops.toList ops.toList 0)) (statD ops)
theorem tellK_app {α:Type} (b:Nat) (k:List Nat→List Nat→Option α) (g:Option α→RB):∀ (ts:List Tc) (R W:List Nat),tellK b ts R W (fun R' W'=>g (k R' W'))=g (tellK b ts R W k)
  | [],_,_=>rfl
  | t::r,R,W=>by
    have hi:∀ {γ δ:Type} (g:γ→δ) (l R:List Nat) (k:List Nat→γ),insAllK b l R (fun R'=>g (k R'))=g (insAllK b l R k):=by
      intro γ δ g l
      induction l with
      | nil=>intros;rfl
      | cons x r ih=>intro R k;simp only [insAllK,insK_eq];exact ih _ _
    simp only [tellK,tellK_app b k g r]
    simp only [hi g]
theorem exR_len {rec:Rec} (N:Nat) (ops:List Oper):∀ (l:List Oper) (env:Tr SV) (h:Tr SO) (nx:Nat) (acc:List Tc) (p:Tr SV × Tr SO × Nat × List Tc),exR P sm rec N ops l env h nx acc=some p→p.2.2.2.length=acc.length+l.length
  | [],env,h,nx,acc,p,hp=>by
    simp only [exR,Option.some.injEq] at hp
    subst hp;rfl
  | o::l,env,h,nx,acc,p,hp=>by
    have hput:∀ v h nx t,(putK N env o.dst v fun env'=>exR P sm rec N ops l env' h nx (t::acc))=some p→p.2.2.2.length=acc.length+(o::l).length:=by
      intro v h nx t hh
      have:∃ env',exR P sm rec N ops l env' h nx (t::acc)=some p:=by
        cases hd:o.dst with
        | none=>rw [hd] at hh;exact ⟨_,hh⟩
        | some d =>
          rw [hd] at hh
          simp only [putK,Tr.setK_eq] at hh
          cases hb:Nat.blt d N with
          | true=>rw [hb] at hh;exact ⟨_,hh⟩
          | false=>rw [hb] at hh;cases hh
      obtain ⟨env',he⟩:=this
      have:=exR_len N ops l env' h nx (t::acc) p he
      simp only [List.length_cons] at this ⊢
      omega
    rw [exR] at hp
    cases hw:wantS ops env o with
    | none=>rw [hw] at hp;cases hp
    | some b =>
      rw [hw] at hp
      cases b with
      | false=>exact hput _ _ _ _ hp
      | true =>
        rcases he:exO P sm rec env o ⟨h,nx,nx,[],[]⟩ with _ | (_ | ⟨⟨v,st'⟩,_ | ⟨_,_⟩⟩)
        · rw [he] at hp;cases hp
        · rw [he] at hp;cases hp
        · rw [he] at hp
          have hp:(endK h nx st' fun h2 nx2 t=>putK N env o.dst v fun env'=>exR P sm rec N ops l env' h2 nx2 (t::acc))=some p:=hp
          have mr:∀ (h':Tr SO) (W:List Nat) (h:Tr SO) (k1:Tr SO→Option (Tr SV × Tr SO × Nat × List Tc)),mrgK h' W h k1=some p→∃ x,k1 x=some p:=by
            intro h' W
            induction W with
            | nil=>intro h k1 hh;exact ⟨_,hh⟩
            | cons x r ih =>
              intro h k1 hh
              simp only [mrgK,Tr.setK_eq] at hh
              cases hg:h'.get x <;> rw [hg] at hh <;> exact ih _ _ hh
          have rr:∀ (h':Tr SO) (n x:Nat) (h:Tr SO) (k1:Tr SO→Option (Tr SV × Tr SO × Nat × List Tc)),rngK h' n x h k1=some p→∃ x,k1 x=some p:=by
            intro h' n
            induction n with
            | zero=>intro x h k1 hh;exact ⟨_,hh⟩
            | succ n ih =>
              intro x h k1 hh
              simp only [rngK,Tr.setK_eq,natK_eq] at hh
              cases hg:h'.get x <;> rw [hg] at hh <;> exact ih _ _ _ hh
          obtain ⟨h',nx',b',R,W⟩:=st'
          simp only [endK] at hp
          cases hq:quietB W nx nx' with
          | true=>rw [hq] at hp;exact hput _ _ _ _ hp
          | false =>
            rw [hq,cond_false] at hp
            cases hb:Nat.ble nx nx' with
            | false=>rw [hb] at hp;cases hp
            | true =>
              rw [hb,cond_true] at hp
              cases hk:okW nx R W with
              | false=>rw [hk] at hp;cases hp
              | true =>
                rw [hk,cond_true] at hp
                obtain ⟨x,hx⟩:=mr _ _ _ _ hp
                obtain ⟨y,hy⟩:=rr _ _ _ _ _ hx
                exact hput _ _ _ _ hy
        · rw [he] at hp;cases hp
theorem cloB_len:∀ (l:List (List Nat)) (acc:List Nat),(cloB l acc).length=l.length+acc.length
  | [],acc=>by simp [cloB]
  | a::r,acc=>by simp only [cloB,natK_eq,cloB_len r,List.length_cons];omega
theorem afsAll_len:∀ (l:List Oper),(afsAll l).length=l.length
  | []=>rfl
  | o::r=>by simp [afsAll,afsAll_len r]
theorem compD_eq {rk:RecK} {rec:Rec} (hr:RecOK rk rec) (N:Nat) (ops:Array Oper) (env:Tr SV) (st:St) (k:Tr SV→St→RB):(compD P sm N ops).run rk env st k=obd (exD P sm rec N ops env st) (fun p=>k p.1 p.2):=by
  obtain ⟨h,nx,b,R,W⟩:=st
  unfold compD exD
  cases statD ops with
  | false=>rfl
  | true =>
    simp only [cond_true]
    have e:=fun (k:Tr SV→Tr SO→Nat→List (Nat × Tc)→RB)=>compR_eq P sm hr N ops.toList ops.toList env h nx [] k
    have hlen:=exR_len P sm (rec:=rec) N ops.toList ops.toList env h nx []
    have e0:(compR P sm N ops.toList ops.toList ([]:List Tc).length)=compR P sm N ops.toList ops.toList 0:=rfl
    rw [e0] at e
    generalize compR P sm N ops.toList ops.toList 0=c at *
    cases c with
    | mk run =>
      show (run rk env h nx [] fun env' h' nx' ts=>Bool.rec (motive:=fun _=>RB) (Bool.rec (motive:=fun _=>RB) none (tellZ b ts R W fun R' W'=>k env' ⟨h',nx',b,R',W'⟩) (sepP (fun i=>(nthF (cloO ops.toList) (ops.toList.length-1-i)).getD 0) ts)) (tellZ b ts R W fun R' W'=>k env' ⟨h',nx',b,R',W'⟩) (allQF ts))=_
      refine (e _).trans ?_
      cases hx:exR P sm rec N ops.toList ops.toList env h nx [] with
      | none=>rfl
      | some p =>
        obtain ⟨env',h',nx',ts⟩:=p
        have hts:ts.length=ops.toList.length:=by
          have:=hlen _ hx
          simpa using this
        have hcl:(cloO ops.toList).length=ops.toList.length:=by
          unfold cloO
          rw [cloB_len,afsAll_len];simp
        have hsep:=sepAll_eq (fun i=>(nthF (cloO ops.toList) (ops.toList.length-1-i)).getD 0) ts (cloO ops.toList) (by omega) (fun i hi=>by
          simp only [nthF_eq,nth_eq]
          rw [hts]
          have:ops.toList.length-1-i<(cloO ops.toList).length:=by omega
          rw [List.getElem?_eq_getElem this];rfl)
        have ht:=tellK_app b (fun R' W'=>some (env',(⟨h',nx',b,R',W'⟩:St))) (fun r=>obd r (fun p=>k p.1 p.2)) ts R W
        show Bool.rec (motive:=fun _=>RB) (Bool.rec (motive:=fun _=>RB) none (tellZ b (flt ts) R W fun R' W'=>k env' ⟨h',nx',b,R',W'⟩) (sepP (fun i=>(nthF (cloO ops.toList) (ops.toList.length-1-i)).getD 0) (flt ts))) (tellZ b (flt ts) R W fun R' W'=>k env' ⟨h',nx',b,R',W'⟩) (allQF (flt ts))=obd (bif allQ ts||sepAll ts (cloO ops.toList) then tellK b ts R W fun R' W'=>some (env',(⟨h',nx',b,R',W'⟩:St)) else none) (fun p=>k p.1 p.2)
        rw [tellZ_eq,allQF_eq,← hsep]
        cases allQ ts with
        | true=>exact ht
        | false =>
          cases sepAll ts (cloO ops.toList) with
          | true=>exact ht
          | false=>rfl
def rfEK (rk:RecK) (ro:Option Nat) (N:Nat) (env:Tr SV) (ds0:List Nat) (l:Nat) (st3:St) (k:Ex→Tr SV→List Nat→St→RB):RB:=match st3.h.get l with
  | some (.loop r)=>match r.state with
    | .busy=>none
    | _=>wtK st3 l (.loop { r with state:=.exhausted }) fun st4=>match r.pending with
      | none=>k .nrm env ds0 st4
      | some c=>rk ro N c env ds0 st4 k
  | _=>none
def rfBK (rk:RecK) (ro:Option Nat) (N:Nat) (g:Operand) (env:Tr SV) (ds0:List Nat) (l:Nat) (st2:St) (k:Ex→Tr SV→List Nat→St→RB):RB:=match svOp env g with
  | .fn f first cap=>bnd (exFK P sm rk f (appS first (.yield l::cap)) st2) (fun p=>rfEK rk ro N env ds0 l p.2 k)
  | _=>none
def rfSK (rk:RecK) (ro:Option Nat) (N:Nat) (g:Operand) (ps:Array Tmp) (assign body:Code) (env:Tr SV) (ds:List Nat) (st:St) (k:Ex→Tr SV→List Nat→St→RB):RB:=match ro with
  | none=>newK st (.dfr false) fun d st1=>newK st1 (.loop ⟨.ready,none,N,env,ps,assign,body,d⟩) fun l st2=>rfBK P sm rk none N g env (d::ds) l st2 k
  | some l0=>match st.h.get l0 with
    | some (.loop r0)=>insK st.base l0 st.R fun R'=>newK ⟨st.h,st.nx,st.base,R',st.W⟩ (.loop ⟨.ready,none,N,env,ps,assign,body,r0.defers⟩) fun l st2=>rfBK P sm rk (some l0) N g env ds l st2 k
    | _=>none
variable {P sm}
abbrev bK (k:Ex→Tr SV→List Nat→St→RB):Out→RB:=fun o=>k o.1 o.2.1 o.2.2.1 o.2.2.2
theorem one_b (k:Ex→Tr SV→List Nat→St→RB) (e:Ex) (env:Tr SV) (ds:List Nat) (st:St):k e env ds st=bnd (some [(e,env,ds,st)]) (bK k):=(bnd_one (bK k) (e,env,ds,st)).symm
theorem rfEK_eq {rk:RecK} {rec:Rec} (hr:RecOK rk rec) (ro:Option Nat) (N:Nat) (env:Tr SV) (ds0:List Nat) (l:Nat) (st3:St) (k:Ex→Tr SV→List Nat→St→RB):rfEK rk ro N env ds0 l st3 k=bnd (rfE rec ro N env ds0 l st3) (bK k):=by
  unfold rfEK rfE
  obtain ⟨h,nx,b,R,W⟩:=st3
  cases h.get l with
  | none=>rfl
  | some o =>
    cases o with
    | loop r =>
      simp only [wtK_eq]
      cases r.state <;> (first | rfl | (simp only;cases r.pending with
        | none=>exact (bnd_one (bK k) (.nrm,env,ds0,_)).symm
        | some c=>exact hr ..))
    | _=>rfl
theorem rfBK_eq {rk:RecK} {rec:Rec} (hr:RecOK rk rec) (ro:Option Nat) (N:Nat) (g:Operand) (env:Tr SV) (ds0:List Nat) (l:Nat) (st2:St) (k:Ex→Tr SV→List Nat→St→RB):rfBK P sm rk ro N g env ds0 l st2 k=bnd (rfB P sm rec ro N g env ds0 l st2) (bK k):=by
  unfold rfBK rfB
  cases svOp env g with
  | fn f first cap =>
    simp only [exFK_eq P sm hr,rfEK_eq hr]
    rw [← bnd_bnd]
    cases exF P sm rec f (appS first (.yield l::cap)) st2 <;> rfl
  | _=>rfl
theorem rfSK_eq {rk:RecK} {rec:Rec} (hr:RecOK rk rec) (ro:Option Nat) (N:Nat) (g:Operand) (ps:Array Tmp) (assign body:Code) (env:Tr SV) (ds:List Nat) (st:St) (k:Ex→Tr SV→List Nat→St→RB):rfSK P sm rk ro N g ps assign body env ds st k=bnd (rfS P sm rec ro N g ps assign body env ds st) (bK k):=by
  unfold rfSK rfS
  cases ro with
  | none =>
    simp only [newK_eq,rfBK_eq hr]
  | some l0 =>
    obtain ⟨h,nx,b,R,W⟩:=st
    simp only
    cases h.get l0 with
    | none=>rfl
    | some o =>
      cases o with
      | loop r0=>simp only [newK_eq,insK_eq,rfBK_eq hr]
      | _=>rfl
variable (P sm)
structure KC where
  run:RecK→Option Nat→Tr SV→List Nat→St→(Ex→Tr SV→List Nat→St→RB)→RB
def cndF (v:SV) (a b:RB):RB:=match v with
  | .raw (.bool true)=>a
  | .raw (.bool false)=>b
  | _=>none
def kThn (N:Nat) (x y:Code):KC:=⟨fun rk ro env ds st k=>rk ro N x env ds st fun e env' ds' st'=>Ex.rec (motive:=fun _=>RB) (rk ro N y env' ds' st' k) (fun i=>k (.ext i) env' ds' st') (fun l=>k (.gto l) env' ds' st') (k .ret env' ds' st') e⟩
def unK (rk:RecK):Rec:=fun ro N c env ds st=>Option.rec (motive:=fun _=>Option (List Out)) none (fun L=>some (List.rec (motive:=fun _=>List Out) [] (fun a _ ih=>Ans.rec (motive:=fun _=>List Out) (fun _ e env ds st=>(e,env,ds,st)::ih) a) L)) (rk ro N c env ds st fun e env ds st=>some [⟨.raw undef,e,env,ds,st⟩])
theorem unK_eq {rk:RecK} {rec:Rec} (h:RecOK rk rec):unK rk=rec:=by
  funext ro N c env ds st
  unfold unK
  rw [h]
  have e0:=bnd_map (rec ro N c env ds st) outA
  have e1:(bnd (rec ro N c env ds st) fun o=>some [⟨.raw undef,o.1,o.2.1,o.2.2.1,o.2.2.2⟩])=(rec ro N c env ds st).map (List.map outA):=e0
  rw [e1]
  cases rec ro N c env ds st with
  | none=>rfl
  | some L =>
    show some _=some _
    congr 1
    induction L with
    | nil=>rfl
    | cons o L ih=>exact congrArg (o::·) ih
def mlPat:Code→Bool
  | .seq a _=>match a with
    | .region _ ops draw=>match draw with
      | false=>match ops.toList with
        | o::_=>match o.op with
          | .next _ s=>!s
          | _=>false
        | []=>false
      | true=>false
    | _=>false
  | _=>false
theorem mlPat_of {rec:Rec} {ro:Option Nat} {N:Nat} {b:Code} {env:Tr SV} {ds:List Nat} {st:St} {L:List Out} (h:mlS P sm rec ro N (.loop b) env ds st=some L):mlPat b=true:=by
  obtain ⟨id,o,os,C,x,d,A,h1,h2,_⟩:=mlS_some h
  injection h1 with h1
  subst h1
  simp only [mlPat,h2]
  rfl
def mlK (rk:RecK) (ro:Option Nat) (N:Nat) (b:Code) (env:Tr SV) (ds:List Nat) (st:St) (k:Ex→Tr SV→List Nat→St→RB):RB:=match mlS P sm (unK rk) ro N (.loop b) env ds st with
  | some L=>bnd (some L) (bK k)
  | none=>(kThn N b (.loop b)).run rk ro env ds st k
def kLoop (N:Nat) (b:Code):KC:=Bool.rec (motive:=fun _=>KC) (kThn N b (.loop b)) ⟨fun rk ro env ds st k=>mlK P sm rk ro N b env ds st k⟩ (mlPat b)
theorem stepM_eqC {rec:Rec} {ro:Option Nat} {N:Nat} {c:Code} {env:Tr SV} {ds:List Nat} {st:St} (h:mlS P sm rec ro N c env ds st=none):stepM P sm rec ro N c env ds st=stepC P sm rec ro N c env ds st:=by
  unfold stepM;rw [h]
def compC (N:Nat):Code→KC:=Code.rec (motive:=fun _=>KC)
  ⟨fun _ _ env ds st k=>k .nrm env ds st⟩
  (fun _ ops draw=>Bool.rec (motive:=fun _=>KC) (KL.rec (motive:=fun _=>KC) (fun run=>⟨fun rk _ env ds st k=>run rk env st fun env' st'=>k .nrm env' ds st'⟩) (Bool.rec (motive:=fun _=>KL) (compL P sm N ops.toList ops.toList) (compD P sm N ops) draw)) ⟨fun rk _ env ds st k=>obd (exD2 P sm (unK rk) N ops env st) fun p=>k .nrm p.1 ds p.2⟩ (draw&&lmPat ops))
  (fun x y _ _=>kThn N x y)
  (fun c x y _ _=>kX1 c fun c=>⟨fun rk ro env ds st k=>cndF (c env) (rk ro N x env ds st k) (rk ro N y env ds st k)⟩)
  (fun id b _=>⟨fun rk ro env ds st k=>rk ro N b env ds st fun e env' ds' st'=>Ex.rec (motive:=fun _=>RB) (k .nrm env' ds' st') (fun i=>Bool.rec (motive:=fun _=>RB) (k (.ext i) env' ds' st') (k .nrm env' ds' st') (Nat.beq i id)) (fun l=>k (.gto l) env' ds' st') (k .ret env' ds' st') e⟩)
  (fun b _=>kLoop P sm N b)
  (fun g ps assign body _ _=>⟨fun rk ro env ds st k=>rfSK P sm rk ro N g ps assign body env ds st k⟩)
  (fun id=>⟨fun _ _ env ds st k=>k (.ext id) env ds st⟩)
  (fun b _=>⟨fun rk ro env ds st k=>rk ro N b env ds st fun e env' ds' st'=>Ex.rec (motive:=fun _=>RB) (k .nrm env' ds' st') (fun i=>k (.ext i) env' ds' st') (fun _=>none) (k .ret env' ds' st') e⟩)
  (fun _=>⟨fun _ _ env ds st k=>k .nrm env ds st⟩)
  (fun l=>⟨fun _ _ env ds st k=>k (.gto l) env ds st⟩)
  ⟨fun _ _ env ds st k=>k .ret env ds st⟩
  (fun _=>⟨fun _ _ _ _ _ _=>none⟩)
theorem thn_eq {rk:RecK} {rec:Rec} (hr:RecOK rk rec) (ro:Option Nat) (N:Nat) (x y:Code) (env:Tr SV) (ds:List Nat) (st:St) (k:Ex→Tr SV→List Nat→St→RB):(kThn N x y).run rk ro env ds st k=bnd (bnd (rec ro N x env ds st) (thnS rec ro N y)) (bK k):=by
  show (rk ro N x env ds st fun e env' ds' st'=>Ex.rec (motive:=fun _=>RB) (rk ro N y env' ds' st' k) (fun i=>k (.ext i) env' ds' st') (fun l=>k (.gto l) env' ds' st') (k .ret env' ds' st') e)=_
  rw [hr,bnd_bnd]
  congr 1
  funext o
  obtain ⟨e,env',ds',st'⟩:=o
  cases e with
  | nrm=>exact hr ..
  | ext i=>exact one_b k (.ext i) env' ds' st'
  | gto l=>exact one_b k (.gto l) env' ds' st'
  | ret=>exact one_b k .ret env' ds' st'
theorem compC_eqC {rk:RecK} {rec:Rec} (hr:RecOK rk rec) (ro:Option Nat) (N:Nat) (c:Code) (hc:∀ b,c≠.loop b) (hl:∀ id ops draw,c=.region id ops draw→(draw&&lmPat ops)=false) (env:Tr SV) (ds:List Nat) (st:St) (k:Ex→Tr SV→List Nat→St→RB):(compC P sm N c).run rk ro env ds st k=bnd (stepC P sm rec ro N c env ds st) (bK k):=by
  cases c with
  | region id ops draw =>
    have hlp:=hl id ops draw rfl
    show (Bool.rec (motive:=fun _=>KC) (KL.rec (motive:=fun _=>KC) (fun run=>⟨fun rk _ env ds st k=>run rk env st fun env' st'=>k .nrm env' ds st'⟩) (Bool.rec (motive:=fun _=>KL) (compL P sm N ops.toList ops.toList) (compD P sm N ops) draw)) ⟨fun rk _ env ds st k=>obd (exD2 P sm (unK rk) N ops env st) fun p=>k .nrm p.1 ds p.2⟩ (draw&&lmPat ops):KC).run rk ro env ds st k=_
    rw [hlp]
    cases draw with
    | false =>
      show (KL.rec (motive:=fun _=>KC) (fun run=>⟨fun rk _ env ds st k=>run rk env st fun env' st'=>k .nrm env' ds st'⟩) (compL P sm N ops.toList ops.toList):KC).run rk ro env ds st k=_
      have e:=fun (k:Tr SV→St→RB)=>compL_eq P sm hr N ops.toList ops.toList env st k
      generalize compL P sm N ops.toList ops.toList=c at *
      cases c with
      | mk run =>
        refine (e _).trans ?_
        have:stepC P sm rec ro N (.region id ops false) env ds st=bnd (exL P sm rec N ops.toList ops.toList env st) (nrmS ds):=by
          simp only [stepC]
          cases exL P sm rec N ops.toList ops.toList env st <;> rfl
        rw [this,bnd_bnd]
        congr 1
        funext p
        exact one_b k .nrm p.1 ds p.2
    | true =>
      show (KL.rec (motive:=fun _=>KC) (fun run=>⟨fun rk _ env ds st k=>run rk env st fun env' st'=>k .nrm env' ds st'⟩) (compD P sm N ops):KC).run rk ro env ds st k=_
      have e:=fun (k:Tr SV→St→RB)=>compD_eq P sm hr N ops env st k
      generalize compD P sm N ops=c at *
      cases c with
      | mk run =>
        refine (e _).trans ?_
        simp only [stepC]
        cases exD P sm rec N ops env st with
        | none=>rfl
        | some p=>exact one_b k .nrm p.1 ds p.2
  | seq x y =>
    refine (thn_eq hr ro N x y env ds st k).trans ?_
    simp only [stepC]
    cases rec ro N x env ds st <;> rfl
  | cond c x y =>
    show (kX1 c fun c=>(⟨fun rk ro env ds st k=>cndF (c env) (rk ro N x env ds st k) (rk ro N y env ds st k)⟩:KC)).run rk ro env ds st k=_
    rw [kX1_eq]
    show cndF (svOp env c) _ _=_
    rw [hr,hr]
    simp only [stepC]
    generalize svOp env c=v
    unfold cndF
    cases v with
    | raw v=>cases v with
      | bool b=>cases b <;> rfl
      | _=>rfl
    | _=>rfl
  | block id b =>
    show (rk ro N b env ds st fun e env' ds' st'=>Ex.rec (motive:=fun _=>RB) (k .nrm env' ds' st') (fun i=>Bool.rec (motive:=fun _=>RB) (k (.ext i) env' ds' st') (k .nrm env' ds' st') (Nat.beq i id)) (fun l=>k (.gto l) env' ds' st') (k .ret env' ds' st') e)=_
    rw [hr]
    have:stepC P sm rec ro N (.block id b) env ds st=bnd (rec ro N b env ds st) (blkS id):=by
      simp only [stepC]
      cases rec ro N b env ds st <;> rfl
    rw [this,bnd_bnd]
    congr 1
    funext o
    obtain ⟨e,env',ds',st'⟩:=o
    cases e with
    | ext i =>
      show Bool.rec (motive:=fun _=>RB) (k (.ext i) env' ds' st') (k .nrm env' ds' st') (Nat.beq i id)=bnd (bif Nat.beq i id then some [(.nrm,env',ds',st')] else some [(.ext i,env',ds',st')]) (bK k)
      cases Nat.beq i id with
      | true=>exact one_b k .nrm env' ds' st'
      | false=>exact one_b k (.ext i) env' ds' st'
    | nrm=>exact one_b k .nrm env' ds' st'
    | gto l=>exact one_b k (.gto l) env' ds' st'
    | ret=>exact one_b k .ret env' ds' st'
  | loop b=>exact absurd rfl (hc b)
  | rangeFunc g ps assign body=>exact rfSK_eq hr ..
  | scope b =>
    show (rk ro N b env ds st fun e env' ds' st'=>Ex.rec (motive:=fun _=>RB) (k .nrm env' ds' st') (fun i=>k (.ext i) env' ds' st') (fun _=>none) (k .ret env' ds' st') e)=_
    rw [hr]
    have:stepC P sm rec ro N (.scope b) env ds st=bnd (rec ro N b env ds st) scoS:=by
      simp only [stepC]
      cases rec ro N b env ds st <;> rfl
    rw [this,bnd_bnd]
    congr 1
    funext o
    obtain ⟨e,env',ds',st'⟩:=o
    cases e with
    | gto l=>rfl
    | nrm=>exact one_b k .nrm env' ds' st'
    | ext i=>exact one_b k (.ext i) env' ds' st'
    | ret=>exact one_b k .ret env' ds' st'
  | skip=>exact one_b k .nrm env ds st
  | label l=>exact one_b k .nrm env ds st
  | goto l=>exact one_b k (.gto l) env ds st
  | exit l=>exact one_b k (.ext l) env ds st
  | ret=>exact one_b k .ret env ds st
  | _=>rfl
theorem compC_eqM {rk:RecK} {rec:Rec} (hr:RecOK rk rec) (ro:Option Nat) (N:Nat) (c:Code) (hl:∀ id ops draw,c=.region id ops draw→(draw&&lmPat ops)=false) (env:Tr SV) (ds:List Nat) (st:St) (k:Ex→Tr SV→List Nat→St→RB):(compC P sm N c).run rk ro env ds st k=bnd (stepM P sm rec ro N c env ds st) (bK k):=by
  by_cases hc:∀ b,c≠.loop b
  · rw [stepM_eqC P sm (by
      cases h:mlS P sm rec ro N c env ds st with
      | none=>rfl
      | some L =>
        obtain ⟨id,o,os,C,x,d,A,h1,_⟩:=mlS_some h
        exact absurd h1 (hc _))]
    exact compC_eqC P sm hr ro N c hc hl env ds st k
  · have hb:∃ b,c=.loop b:=by
      cases c with
      | loop b=>exact ⟨b,rfl⟩
      | _=>exact absurd (fun b h=>by cases h) hc
    obtain ⟨b,rfl⟩:=hb
    have e1:=thn_eq hr ro N b (.loop b) env ds st k
    have e2:stepC P sm rec ro N (.loop b) env ds st=bnd (rec ro N b env ds st) (thnS rec ro N (.loop b)):=by
      simp only [stepC]
      cases rec ro N b env ds st <;> rfl
    rw [← e2] at e1
    show (kLoop P sm N b).run rk ro env ds st k=_
    unfold kLoop
    cases hp:mlPat b with
    | false =>
      have hn:mlS P sm rec ro N (.loop b) env ds st=none:=by
        cases h:mlS P sm rec ro N (.loop b) env ds st with
        | none=>rfl
        | some L=>rw [mlPat_of P sm h] at hp;cases hp
      rw [stepM_eqC P sm hn]
      exact e1
    | true =>
      show mlK P sm rk ro N b env ds st k=_
      unfold mlK stepM
      rw [unK_eq hr]
      cases mlS P sm rec ro N (.loop b) env ds st with
      | none=>exact e1
      | some L=>rfl
theorem compC_eq {rk:RecK} {rec:Rec} (hr:RecOK rk rec) (ro:Option Nat) (N:Nat) (c:Code) (env:Tr SV) (ds:List Nat) (st:St) (k:Ex→Tr SV→List Nat→St→RB):(compC P sm N c).run rk ro env ds st k=bnd (stepN P sm rec ro N c env ds st) (bK k):=by
  by_cases hl:∀ id ops draw,c=.region id ops draw→(draw&&lmPat ops)=false
  · have e:stepN P sm rec ro N c env ds st=stepM P sm rec ro N c env ds st:=by
      cases c with
      | region id ops draw=>simp only [stepN,hl id ops draw rfl]
      | _=>rfl
    rw [e]
    exact compC_eqM P sm hr ro N c hl env ds st k
  · cases c with
    | region id ops draw =>
      have hd:(draw&&lmPat ops)=true:=by
        cases hh:(draw&&lmPat ops) with
        | true=>rfl
        | false=>exact absurd (fun id' ops' draw' e=>by cases e;exact hh) hl
      have e:stepN P sm rec ro N (.region id ops draw) env ds st=lmS P sm rec N ops env ds st:=by simp only [stepN,hd]
      rw [e]
      show (Bool.rec (motive:=fun _=>KC) (KL.rec (motive:=fun _=>KC) (fun run=>⟨fun rk _ env ds st k=>run rk env st fun env' st'=>k .nrm env' ds st'⟩) (Bool.rec (motive:=fun _=>KL) (compL P sm N ops.toList ops.toList) (compD P sm N ops) draw)) ⟨fun rk _ env ds st k=>obd (exD2 P sm (unK rk) N ops env st) fun p=>k .nrm p.1 ds p.2⟩ (draw&&lmPat ops):KC).run rk ro env ds st k=_
      rw [hd]
      show obd (exD2 P sm (unK rk) N ops env st) (fun p=>k .nrm p.1 ds p.2)=_
      rw [unK_eq hr]
      unfold lmS
      cases exD2 P sm rec N ops env st with
      | none=>rfl
      | some p=>exact one_b k .nrm p.1 ds p.2
    | _=>exact absurd (fun id ops draw e=>by cases e) hl
def exCK (n:Nat):RecK:=Nat.rec (motive:=fun _=>RecK) (fun _ _ _ _ _ _ _=>none) (fun _ ih ro N c env ds st k=>KC.rec (motive:=fun _=>RB) (fun run=>run ih ro env ds st k) (compC P sm N c)) n
theorem exCK_eq:∀ n,RecOK (exCK P sm n) (exN P sm n)
  | 0=>fun _ _ _ _ _ _ _=>rfl
  | n+1=>fun ro N c env ds st k=>by
    have e:=compC_eq P sm (exCK_eq n) ro N c env ds st k
    show KC.rec (motive:=fun _=>RB) (fun run=>run (exCK P sm n) ro env ds st k) (compC P sm N c)=bnd (stepN P sm (exN P sm n) ro N c env ds st) _
    refine Eq.trans ?_ e
    cases compC P sm N c;rfl
end
def yesF (P:Program) (sm:Program→Sums) (n:Nat) (f:FuncId):Bool:=fastK P fun P=>match exFK P (sm P) (exCK P (sm P) n) f [] st0 with
  | some L=>allT L
  | _=>false
theorem yesF_eq (P:Program) (sm:Program→Sums) (n:Nat) (f:FuncId):yesF P sm n f=yesN P (sm P) n f:=by
  unfold yesF
  rw [fastK_eq]
  simp only [exFK_eq P (sm P) (exCK_eq P (sm P) n),yesN] <;> rfl
end
end Go.TX
namespace Go.TX
open Go Go.TH
variable {P:Program}
def enB (P : Program) : Bool := P.funcs.toList.all fun fn => fn.body.isNone || !(fn.name == "runtime.NumGoroutine")
theorem Enters.of (h:enB P=true):Enters P:=by
 rintro f ⟨fn,c,hf,hb⟩ args w
 have hm:fn∈P.funcs.toList:=Array.mem_toList_iff.2 (Array.mem_of_getElem? hf)
 have:=List.all_eq_true.1 h fn hm
 rw [hb] at this
 simp only [Option.isNone_some,Bool.false_or,Bool.not_eq_true'] at this
 have hne : ¬ fn.name = "runtime.NumGoroutine" := fun e => by rw [e] at this; simp at this
 simp [callFunc,hf,hne,hb]
theorem sum0:SumOK P (fun _=>none):=⟨fun f s args st v st' h=>(by cases h),fun f s args st v st' h=>(by cases h)⟩
end Go.TX
namespace Go.TX
open Go Go.TH
variable {P:Program} {ρ:Ren} {D:Nat→Prop} {st:St} {w w':World}
def Yes (P:Program) (f:FuncId):Prop:=HasBody P f∧∀ w,CallsIn Fence.wide 0 P f #[] w (fun e w'=>e=.returned (.bool true)∧Kept w w')
def smY (l:List Nat) (_:Program):Sums:=fun f=>bif memb f l then some (fun args st=>match args with
 | []=>some (.raw (.bool true),st)
 | _=>none) else none
theorem Step.kept (hs:Sim ρ D st w) (k:Kept w w'):Step ρ ρ D st st w w':=by
 have h:=Step.refl hs
 exact ⟨k.os,k.tape,k.output,k.size,Nat.le_refl _,rfl,h.sR,h.sW,h.ext,fun b hb=>.inl (k.keep b hb),h.dead,h.same,h.fresh,h.sim.world k.keep⟩
theorem smY_ok {l:List Nat} (h:∀ f,f∈l→Yes P f):SumOK P (smY l P):=by
 have key:∀ f s args st v st',smY l P f=some s→s args st=some (v,st')→f∈l∧args=[]∧v=.raw (.bool true)∧st'=st:=by
  intro f s args st v st' h1 h2
  unfold smY at h1
  cases hm:memb f l with
  | false=>rw [hm] at h1;cases h1
  | true =>
   rw [hm,cond_true,Option.some.injEq] at h1
   subst h1
   cases args with
   | nil =>
    simp only [Option.some.injEq,Prod.mk.injEq] at h2
    exact ⟨memb_mem hm,rfl,h2.1.symm,h2.2.symm⟩
   | cons a r=>simp at h2
 refine ⟨fun f s args st v st' h1 h2=>?_,fun f s args st v st' h1 h2=>?_⟩
 ·obtain ⟨_,_,_,rfl⟩:=key f s args st v st' h1 h2
  exact Mono.refl _
 ·obtain ⟨hf,rfl,rfl,rfl⟩:=key f s args st v st' h1 h2
  refine ⟨fun ρ D w us hu hs _ _=>?_,(h f hf).1⟩
  rw [RelL] at hu
  subst hu
  refine CallsIn.mono ((h f hf).2 w) ?_
  rintro e w' ⟨rfl,hk⟩
  exact ⟨_,List.mem_cons_self,.bool true,ρ,rfl,by rw [Rel],Step.kept hs hk⟩
theorem yesS (hm:P.follows .mixedOrders=true) (he:enB P=true) {sm:Program→Sums} (hsm:SumOK P (sm P)) {n:Nat} {f:FuncId} (hb:HasBody P f) (h:yesF P sm n f=true):Yes P f:=by
 rw [yesF_eq] at h
 exact ⟨hb,yesN_ok hm (Enters.of he) hsm h⟩
def hbB (P:Program) (f:FuncId):Bool:=match P.funcs[f]? with
 | some fn=>fn.body.isSome
 | none=>false
theorem hbB_ok {f:FuncId} (h:hbB P f=true):HasBody P f:=by
 unfold hbB at h
 split at h
 ·rename_i fn hf
  obtain ⟨c,hc⟩:=Option.isSome_iff_exists.1 h
  exact ⟨fn,c,hf,hc⟩
 ·cases h
end Go.TX
namespace Go.TH
open Go Go.TX
variable {P:Program}
theorem Ret.yes {f:FuncId} (h:Yes P f) (w:World):Ret P f #[] w (.bool true):=by
 refine CallsIn.mono (h.2 w) ?_
 rintro e w' ⟨rfl,hk⟩
 exact ⟨_,rfl,[],⟨rfl,rfl⟩,hk.os,hk.tape,hk.output,hk.size,fun k hk' _=>hk.keep k hk',trivial⟩
end Go.TH
namespace Go.Proofs.YtnehaifgcegemaaGreat
open Go Go.TH
attribute [local irreducible] W WO pt
set_option maxRecDepth 10000
set_option maxHeartbeats 4000000
theorem eq54 (a:Tu.Cir):EqT Tryz.prog .eql 54 (Tu.cirV a) (Tu.cirV a) (.bool true):=by
 intro x y w
 simp [go_sem,Tryz.eqGuardType54,Tryz.underlying54,Tryz.underlying36,Tryz.eqGuardType36]
theorem thr_th {a b c:Int × Int} (ha:Tu.OkP a) (hb:Tu.OkP b) (hc:Tu.OkP c):Tu.thrV a b c=.tuple #[Tu.cirV (Tu.thO a b c),.int .i64 (Tu.thE a b c)]:=by
 unfold Tu.thrV Tu.thO Tu.thE
 rw [if_pos ⟨ha,hb,hc⟩]
 split <;> rfl
theorem thE_two (a b c:Int × Int):Tu.thE a b c=0∨Tu.thE a b c=5:=by unfold Tu.thE;split <;> omega
theorem even_thE {l:Tu.Pts} (h2:2≤l.length) (hx:Fa.beL (l.map (·.1))=0) (hy:Fa.beL (l.map (·.2))=0) {i j k:Nat} (hi:i<l.length) (hj:j<l.length) (hk:k<l.length):Tu.thE (l.at i) (l.at j) (l.at k)=5:=by
 obtain ⟨dx,dy,he⟩:=even_of h2 hx hy
 exact if_pos (even_cross he hi hj hk)
theorem even_or {l:Tu.Pts} (h2:2≤l.length) {i j k:Nat} (hi:i<l.length) (hj:j<l.length) (hk:k<l.length):0<Fa.beL (l.map (·.1))+Fa.beL (l.map (·.2))∨Tu.thE (l.at i) (l.at j) (l.at k)=5:=by
 have h3:=be_nn (l.map (·.1))
 have h4:=be_nn (l.map (·.2))
 rcases Int.lt_or_le 0 (Fa.beL (l.map (·.1))+Fa.beL (l.map (·.2))) with q | q
 ·exact .inl q
 ·exact .inr (even_thE h2 (by omega) (by omega) hi hj hk)
theorem chkL_n {l:Tu.Pts} (h:Tu.chkL l=0):Tu.OkL l∧1≤l.length∧l.length≤24:=by
 unfold Tu.chkL at h
 split at h
 ·omega
 ·split at h
  ·exact ⟨by assumption,by omega⟩
  ·omega
theorem rim_ends {l:Tu.Pts} (h:Tu.chkL l=0) (h2:2≤l.length):Tu.crV l [0,(l.length:Int)-1]=.tuple #[Tu.cirV (Tu.lst (ends l)),.int .i64 0]:=by
 have ho:Tu.OkRim l.length [0,(l.length:Int)-1]:=fun i hi=>by
  have:i=0∨i=1:=by simp at hi;omega
  rcases this with rfl | rfl
  ·exact ⟨by show (0:Int)≤0;omega,by show (0:Int)<l.length;omega,fun q=>by omega⟩
  ·exact ⟨by show (0:Int)≤(l.length:Int)-1;omega,by show (l.length:Int)-1<l.length;omega,fun _=>by show (0:Int)<(l.length:Int)-1;omega⟩
 rw [Tu.crV_0 h (by simp) ho]
 have e:Tu.ofL l [0,(l.length:Int)-1]=ends l:=by
  unfold Tu.ofL ends
  rw [List.map_cons,List.map_cons,List.map_nil,show ((l.length:Int)-1).toNat=l.length-1 by omega]
  rfl
 rw [e]
theorem take_fst {l:Tu.Pts} {i:Nat} (h:i<l.length):(l.take (i+1)).map (·.1)=(l.take i).map (·.1)++[(l.getD i (0,0)).1]:=by rw [take_succ_getD h (0,0),List.map_append];rfl
theorem take_snd {l:Tu.Pts} {i:Nat} (h:i<l.length):(l.take (i+1)).map (·.2)=(l.take i).map (·.2)++[(l.getD i (0,0)).2]:=by rw [take_succ_getD h (0,0),List.map_append];rfl
theorem law_StraightTrack (y17:Go.TX.Yes Tryz.prog 17) (w:World) (v:Value) (l:Tu.Pts) (hR:RdF encP 2 w.heap.size w v l):Ret Tryz.prog 7 [v].toArray w (.bool true):=by
 refine Ret.of mixed tyTab Tryz.func7 rfl rfl ?_
 replace hR:RdF encP 2 (fnCx mixed tyTab Tryz.f7.ntmps w).B (fnCx mixed tyTab Tryz.f7.ntmps w).w0 v l:=hR
 have hle:=hR.sl.le
 have hbx:=be_nn (l.map (·.1))
 have hby:=be_nn (l.map (·.2))
 refine W.sreg (WO.p rfl rfl (WO.nil (W.seq (W.sreg (WO.p rfl rfl (WO.callR rfl Tryz.call16 (fun L w hi=>Tu.ref_CheckTrack w v l (hR.later hi)) rfl (WO.p rfl rfl (WO.p rfl rfl ?_))))))))
 refine WO.guard_bl rfl rfl (fun c1=>?_) (fun c1=>?_)
 ·refine WO.no rfl rfl (WO.no rfl rfl (WO.no rfl rfl (WO.p rfl rfl (WO.nil (W.cond_t rfl (W.sreg (WO.callR rfl Tryz.call17 (fun L w hi=>Ret.yes y17 w) rfl (WO.p rfl rfl (WO.nil (W.ret ?_))))))))))
  exact fin.ret (Res.one rfl (RV.tmp rfl)) rfl
 ·refine WO.pg rfl rfl rfl (WO.go' rfl (WO.len rfl rfl hR.sl rfl (WO.pg rfl rfl rfl (WO.p rfl rfl (WO.nil ?_)))))
  refine W.cond_bl rfl (fun c2=>?_) (fun c2=>?_)
  ·refine W.sreg (WO.callR rfl Tryz.call17 (fun L w hi=>Ret.yes y17 w) rfl (WO.p rfl rfl (WO.nil (W.ret ?_))))
   exact fin.ret (Res.one rfl (RV.tmp rfl)) rfl
  ·refine W.skip ?_
   have hck:Tu.chkL l=0:=by omega
   have hcl:=chkL_n hck
   have h2:2≤l.length:=by omega
   refine W.sreg (WO.p rfl rfl (WO.p rfl rfl (WO.nil (W.seq (W.sreg (WO.p rfl rfl (WO.nil (W.block (W.chg (owNil (enc:=encI) (e:=2) (sz:=1)) (W.chg (owNil (enc:=encI) (e:=2) (sz:=1)) ?_))))))))))
   refine W.loop3 (fun (i:Nat) (xv:Value) (yv:Value)=>i≤l.length)
    (fun (i:Nat) (xv:Value) (yv:Value)=>[(5,.int .i64 (i:Int)),(4,yv),(3,xv),(0,v)])
    (fun (i:Nat) (xv:Value) (yv:Value)=>[OwE encI 2 1 yv ((l.take i).map (·.2)),OwE encI 2 1 xv ((l.take i).map (·.1))])
    (fun (i:Nat) (xv:Value) (yv:Value)=>l.length-i) 0 (.slice none 0 0) (.slice none 0 0)
    (by omega) ⟨rfl,rfl,rfl,rfl,trivial⟩ (by repeat (first | exact Sub.nil | refine Sub.cons (by repeat first | exact .head | apply Pick.tail) ?_)) ?_
   rintro i xv yv hi0
   refine W.seq (W.sreg (WO.p rfl rfl (WO.p rfl rfl (WO.len rfl rfl hR.sl rfl (WO.p rfl rfl (WO.nil ?_))))))
   refine W.cond_bl rfl (fun c3=>?_) (fun c3=>?_)
   ·refine W.skip (W.seq (W.block (DB.W.drawB 15 [.r 0 [],.r 1 [],.r 2 [],.r 3 [],.r 4 [],.b 5 [],.r 8 [],.r 9 [],.r 10 [],.r 11 [],.r 12 [],.b 13 []] [.a 6 42 (fun b=>OwC 2 1 (.slice (some ⟨b,0,none⟩) 1 1) 1 [.int .i64 (l.getD i (0,0)).1]) (fun b=>.slice (some ⟨b,0,none⟩) 1 1),.c 7 [],.a 14 50 (fun b=>OwC 2 1 (.slice (some ⟨b,0,none⟩) 1 1) 1 [.int .i64 (l.getD i (0,0)).2]) (fun b=>.slice (some ⟨b,0,none⟩) 1 1)] [] (A0:=[_,_]) (H0:=[]) (.cons .head (.cons .head .nil)) (by kernel_rfl) ?_)))
    refine' DB.QB.r rfl rfl rfl ?hq ?_
    case hq =>
     refine WO.p rfl rfl ?_
     exact WO.nil ⟨rfl,rfl⟩
    refine' DB.QB.r rfl rfl rfl ?hq ?_
    case hq =>
     refine WO.p rfl rfl ?_
     exact WO.nil ⟨rfl,rfl⟩
    refine' DB.QB.r rfl rfl rfl ?hq ?_
    case hq =>
     refine WO.p rfl rfl ?_
     exact WO.nil ⟨rfl,rfl⟩
    refine' DB.QB.r rfl rfl rfl ?hq ?_
    case hq =>
     refine WO.indexAddr rfl rfl rfl hR.sl (by first | omega | (simp;omega)) rfl ?_
     exact WO.nil ⟨rfl,rfl⟩
    refine' DB.QB.r rfl rfl rfl ?hq ?_
    case hq =>
     refine WO.field0 rfl rfl rfl ?_
     exact WO.nil ⟨rfl,rfl⟩
    refine' DB.QB.b rfl rfl rfl ?hq ?_
    case hq =>
     refine' WO.load (v:=_) rfl rfl ?hc rfl ?_
     case hc=>((refine RdF.cell0 hR (i:=i) (by omega) (0,0) ?_;rfl))
     exact WO.nil ⟨rfl,rfl⟩
    refine' DB.QB.r rfl rfl rfl ?hq ?_
    case hq =>
     refine WO.p rfl rfl ?_
     exact WO.nil ⟨rfl,rfl⟩
    refine' DB.QB.r rfl rfl rfl ?hq ?_
    case hq =>
     refine WO.p rfl rfl ?_
     exact WO.nil ⟨rfl,rfl⟩
    refine' DB.QB.r rfl rfl rfl ?hq ?_
    case hq =>
     refine WO.p rfl rfl ?_
     exact WO.nil ⟨rfl,rfl⟩
    refine' DB.QB.r rfl rfl rfl ?hq ?_
    case hq =>
     refine WO.indexAddr rfl rfl rfl hR.sl (by first | omega | (simp;omega)) rfl ?_
     exact WO.nil ⟨rfl,rfl⟩
    refine' DB.QB.r rfl rfl rfl ?hq ?_
    case hq =>
     refine WO.field rfl rfl rfl ?_
     exact WO.nil ⟨rfl,rfl⟩
    refine' DB.QB.b rfl rfl rfl ?hq ?_
    case hq =>
     refine' WO.load (v:=_) rfl rfl ?hc rfl ?_
     case hc=>((refine RdF.cellAt hR (i:=i) (by omega) (0,0) (j:=1) ?_;rfl))
     exact WO.nil ⟨rfl,rfl⟩
    refine DB.QB.nil ?_ ?_
    ·refine (DB.ALok.r (DB.ALok.r (DB.ALok.r (DB.ALok.r (DB.ALok.r (DB.ALok.b (DB.ALok.r (DB.ALok.r (DB.ALok.r (DB.ALok.r (DB.ALok.r (DB.ALok.b (DB.ALok.n rfl rfl rfl ?_ (DB.ALok.c (DB.ALok.n rfl rfl rfl ?_ DB.ALok.nil)))))))))))))))
     ·skip
      refine WO.buildSl rfl rfl rfl rfl rfl rfl rfl rfl rfl (fun v1=>?_)
      exact WO.nil ⟨_,rfl,rfl⟩
     ·skip
      refine WO.buildSl rfl rfl rfl rfl rfl rfl rfl rfl rfl (fun v2=>?_)
      exact WO.nil ⟨_,rfl,rfl⟩
    refine DB.DT.a (fun v3=>(DB.DT.c [_,_,_] rfl rfl rfl rfl ?_))
    refine' WO.appendE (enc:=encI) (m:=1) (ys:=[(l.getD i (0,0)).1]) encI_ok rfl rfl rfl rfl rfl (by repeat first | exact .head | apply Pick.tail) (Fa.isSl_lit (by omega) (fun _=>⟨_,_,rfl⟩)) (by omega) rfl (OwC.cells .head) (by rw [List.length_map,List.length_take];omega) (by rw [List.length_map,List.length_take];omega) rfl (fun g c=>?_)
    rw [← take_fst (by omega)]
    refine WO.nil ⟨_,[_,_,_],rfl,rfl,(DB.Keep.a (DB.Keep.b (DB.Keep.r (DB.Keep.r (DB.Keep.r (DB.Keep.r (DB.Keep.r (DB.Keep.b (DB.Keep.r (DB.Keep.r (DB.Keep.r (DB.Keep.r (DB.Keep.r DB.Keep.nil))))))))))))),?_⟩
    refine DB.DT.a (fun v4=>(DB.DT.nil [_,_,_,_] rfl ?_))
    refine' WO.appendE (enc:=encI) (m:=1) (ys:=[(l.getD i (0,0)).2]) encI_ok rfl rfl rfl rfl rfl (by repeat first | exact .head | apply Pick.tail) (Fa.isSl_lit (by omega) (fun _=>⟨_,_,rfl⟩)) (by omega) rfl (OwC.cells .head) (by rw [List.length_map,List.length_take];omega) (by rw [List.length_map,List.length_take];omega) rfl (fun g2 c2=>?_)
    rw [← take_snd (by omega)]
    refine WO.p rfl rfl (WO.p rfl rfl (WO.nil (W.region (WO.p rfl rfl (WO.ar rfl rfl rfl (by unfold in64;omega) rfl (WO.p rfl rfl (WO.nil ?_)))))))
    refine' ⟨i+1,_,_,?hp,?hmu,⟨rfl,rfl,rfl,rfl,trivial⟩,?hS⟩
    case hS=>repeat (first | exact Sub.nil | refine Sub.cons (by repeat first | exact .head | apply Pick.tail) ?_)
    case hp=>omega
    case hmu=>omega
   ·refine W.exit (blk_same ?_)
    obtain rfl:i=l.length:=by omega
    have hbm1:=Fa.mea_bd (OkI_1 hcl.1)
    have hbm2:=Fa.mea_bd (OkI_2 hcl.1)
    rw [List.length_map] at hbm1 hbm2
    rw [List.take_length]
    refine W.sreg (WO.p rfl rfl (WO.callR (r:=.tuple #[.int .i64 (Fa.chL (l.map (·.1)):Int),.int .i64 (Fa.beL (l.map (·.1))),.int .i64 0]) rfl Tryz.call14 (fun L w hi=>by rw [← mea_ok (OkI_1 hcl.1) (by rw [List.length_map];omega) (by rw [List.length_map];omega)];exact Fa.c_Measure w xv (l.map (·.1)) (RdF.of_ow (e:=2) encI_ok (by repeat first | exact .head | apply Pick.tail) hi)) rfl (WO.p rfl rfl (WO.p rfl rfl (WO.p rfl rfl (WO.p rfl rfl (WO.p rfl rfl (WO.p rfl rfl (WO.p rfl rfl (WO.nil (W.sreg (WO.p rfl rfl ?_))))))))))))
    refine WO.callR (r:=.tuple #[.int .i64 (Fa.chL (l.map (·.2)):Int),.int .i64 (Fa.beL (l.map (·.2))),.int .i64 0]) rfl Tryz.call14 (fun L w hi=>by rw [← mea_ok (OkI_2 hcl.1) (by rw [List.length_map];omega) (by rw [List.length_map];omega)];exact Fa.c_Measure w yv (l.map (·.2)) (RdF.of_ow (e:=2) encI_ok (by repeat first | exact .head | apply Pick.tail) hi)) rfl (WO.p rfl rfl (WO.p rfl rfl (WO.p rfl rfl (WO.p rfl rfl (WO.p rfl rfl (WO.p rfl rfl (WO.p rfl rfl (WO.nil (W.seq (W.sreg (WO.p rfl rfl (WO.neqF rfl rfl (by omega) rfl (WO.p rfl rfl (WO.pg rfl rfl rfl (WO.go' rfl (WO.neqF rfl rfl (by omega) rfl ?_))))))))))))))))
    refine WO.p rfl rfl (WO.p rfl rfl (WO.pg rfl rfl rfl (WO.pg rfl rfl rfl (WO.p rfl rfl (WO.p rfl rfl ?_)))))
    refine WO.guard_bl rfl rfl (fun c4=>?_) (fun c4=>?_)
    ·exfalso;omega
    ·refine WO.pg rfl rfl rfl (WO.pg rfl rfl rfl (WO.p rfl rfl (WO.nil ?_)))
     refine W.cond_bl rfl (fun c5=>?_) (fun c5=>?_)
     ·exfalso;omega
     ·refine W.skip (W.sreg (WO.p rfl rfl (WO.p rfl rfl (WO.ar rfl rfl rfl (by unfold in64;omega) rfl (WO.p rfl rfl (WO.p rfl rfl (WO.nil (W.seq (W.sreg (WO.p rfl rfl (WO.nil (W.block ?_))))))))))))
      refine W.loop (fun (k:Nat)=>k≤l.length)
       (fun (k:Nat)=>[(13,.int .i64 (k:Int)),(12,.bool (bl (0<Fa.beL (l.map (·.1))+Fa.beL (l.map (·.2))))),(0,v)])
       (fun (k:Nat)=>[])
       (fun (k:Nat)=>l.length-k) 0
       (by omega) ⟨rfl,rfl,rfl,trivial⟩ (by repeat (first | exact Sub.nil | refine Sub.cons (by repeat first | exact .head | apply Pick.tail) ?_)) ?_
      rintro k hk0
      refine W.seq (W.sreg (WO.p rfl rfl (WO.ar rfl rfl rfl (by unfold in64;omega) rfl (WO.p rfl rfl (WO.len rfl rfl hR.sl rfl (WO.p rfl rfl (WO.nil ?_)))))))
      refine W.cond_bl rfl (fun c6=>?_) (fun c6=>?_)
      ·refine W.skip (W.seq (W.block (W.seq ?_)))
       have hth:=thE_two (l.at k) (l.at (k+1)) (l.at (k+2))
       have hthe:=even_or h2 (i:=k) (j:=k+1) (k:=k+2) (by omega) (by omega) (by omega)
       refine W.drawD 20 [.r 0 [],.r 1 [],.r 2 [],.b 3 [],.r 4 [],.r 5 [],.r 6 [],.r 7 [],.b 8 [],.r 9 [],.r 10 [],.r 11 [],.r 12 [],.b 13 [],.b 14 [],.r 15 [],.r 16 [],.r 17 [],.a 18 14 (.cells #[.int .i64 0,.int .i64 0,.int .i64 0,.int .i64 0,.int .i64 0] 54 (0,0)),.s 19 []] [] (A0:=[]) (Sub.refl _) (by kernel_rfl) ?_ ?_
       ·exact (ALok.r (ALok.r (ALok.r (ALok.b (ALok.r (ALok.r (ALok.r (ALok.r (ALok.b (ALok.r (ALok.r (ALok.r (ALok.r (ALok.b (ALok.b (ALok.r (ALok.r (ALok.r (ALok.cons rfl rfl rfl rfl rfl (ALok.s ALok.nil))))))))))))))))))))
       refine DT.r rfl rfl rfl (WO.p rfl rfl (WO.nil ⟨rfl,rfl⟩)) (DT.r rfl rfl rfl (WO.p rfl rfl (WO.nil ⟨rfl,rfl⟩)) (DT.r rfl rfl rfl (WO.indexAddr rfl rfl rfl hR.sl (by first | omega | (simp;omega)) rfl (WO.nil ⟨rfl,rfl⟩)) (DT.b rfl rfl rfl (WO.loadA rfl rfl (Tu.RdF.cells2 hR (i:=k) (by omega)) rfl rfl (WO.nil ⟨rfl,rfl⟩)) (DT.r rfl rfl rfl (WO.p rfl rfl (WO.nil ⟨rfl,rfl⟩)) (DT.r rfl rfl rfl (WO.p rfl rfl (WO.nil ⟨rfl,rfl⟩)) (DT.r rfl rfl rfl (WO.ar rfl rfl rfl (by unfold in64;omega) rfl (WO.nil ⟨rfl,rfl⟩)) ?_))))))
       refine' DT.r rfl rfl rfl ?hq ?_
       case hq =>
        refine' WO.indexAddrZ (n:=_) rfl rfl rfl ?hs ?h00 ?h1 rfl ?_
        case hs=>exact hR.sl
        case h00=>omega
        case h1=>(first | omega | (simp;omega))
        exact WO.nil ⟨rfl,rfl⟩
       refine' DT.b rfl rfl rfl ?hq ?_
       case hq =>
        refine' WO.loadA (vs:=_) rfl rfl ?hc ?hl rfl ?_
        case hc=>((refine Fa.RdF.cells2z hR (i:=k+1) (by omega) ?_;omega))
        case hl=>rfl
        exact WO.nil ⟨rfl,rfl⟩
       refine DT.r rfl rfl rfl (WO.p rfl rfl (WO.nil ⟨rfl,rfl⟩)) (DT.r rfl rfl rfl (WO.p rfl rfl (WO.nil ⟨rfl,rfl⟩)) (DT.r rfl rfl rfl (WO.ar rfl rfl rfl (by unfold in64;omega) rfl (WO.nil ⟨rfl,rfl⟩)) ?_))
       refine' DT.r rfl rfl rfl ?hq ?_
       case hq =>
        refine' WO.indexAddrZ (n:=_) rfl rfl rfl ?hs ?h00 ?h1 rfl ?_
        case hs=>exact hR.sl
        case h00=>omega
        case h1=>(first | omega | (simp;omega))
        exact WO.nil ⟨rfl,rfl⟩
       refine' DT.b rfl rfl rfl ?hq ?_
       case hq =>
        refine' WO.loadA (vs:=_) rfl rfl ?hc ?hl rfl ?_
        case hc=>((refine Fa.RdF.cells2z hR (i:=k+2) (by omega) ?_;omega))
        case hl=>rfl
        exact WO.nil ⟨rfl,rfl⟩
       refine DT.b rfl rfl rfl (WO.callR (r:=.tuple #[Tu.cirV (Tu.thO (l.at k) (l.at (k+1)) (l.at (k+2))),.int .i64 (Tu.thE (l.at k) (l.at (k+1)) (l.at (k+2)))]) rfl Tryz.call38 (fun L w hi=>by rw [← thr_th (Tu.at_ok hcl.1 (by omega)) (Tu.at_ok hcl.1 (by omega)) (Tu.at_ok hcl.1 (by omega))];exact Tu.c_Through w (l.at k) (l.at (k+1)) (l.at (k+2))) rfl (WO.nil ⟨rfl,rfl⟩)) (DT.r rfl rfl rfl (WO.p rfl rfl (WO.nil ⟨rfl,rfl⟩)) (DT.r rfl rfl rfl (WO.p rfl rfl (WO.nil ⟨rfl,rfl⟩)) (DT.r rfl rfl rfl (WO.p rfl rfl (WO.nil ⟨rfl,rfl⟩)) (DT.a (fun b5=>(DT.s [_] rfl rfl rfl (WO.storeA rfl rfl rfl rfl Pick.head rfl rfl ?_)))))))
       refine WO.nil ⟨[_],rfl,rfl,(Keep.a (Keep.r (Keep.r (Keep.r (Keep.b (Keep.b (Keep.r (Keep.r (Keep.r (Keep.r (Keep.b (Keep.r (Keep.r (Keep.r (Keep.r (Keep.b (Keep.r (Keep.r (Keep.r Keep.nil))))))))))))))))))),?_⟩
       refine DT.nil [_] rfl (WO.p rfl rfl (WO.nil (W.sreg (WO.p rfl rfl (WO.p rfl rfl (WO.p rfl rfl ?_))))))
       refine WO.guard_bl rfl rfl (fun c7=>?_) (fun c7=>?_)
       ·refine WO.pg rfl rfl rfl (WO.pg rfl rfl rfl (WO.p rfl rfl (WO.p rfl rfl ?_)))
        refine WO.guard_bl rfl rfl (fun c8=>?_) (fun c8=>?_)
        ·exfalso;omega
        ·refine WO.pg rfl rfl rfl (WO.pg rfl rfl rfl (WO.pg rfl rfl rfl ?_))
         refine WO.guard_bl rfl rfl (fun c9=>?_) (fun c9=>?_)
         ·exfalso;omega
         ·refine WO.no rfl rfl (WO.no rfl rfl (WO.pg rfl rfl rfl (WO.p rfl rfl (WO.nil (W.cond_f rfl (W.skip (W.region (WO.p rfl rfl (WO.ar rfl rfl rfl (by unfold in64;omega) rfl (WO.p rfl rfl (WO.nil ?_)))))))))))
          refine' ⟨k+1,?hp,?hmu,⟨rfl,rfl,rfl,trivial⟩,?hS⟩
          case hS=>repeat (first | exact Sub.nil | refine Sub.cons (by repeat first | exact .head | apply Pick.tail) ?_)
          case hp=>omega
          case hmu=>omega
       ·refine WO.no rfl rfl (WO.no rfl rfl (WO.p rfl rfl (WO.p rfl rfl (WO.pg rfl rfl rfl (WO.pg rfl rfl rfl (WO.pg rfl rfl rfl ?_))))))
        refine WO.guard_bl rfl rfl (fun c11=>?_) (fun c11=>?_)
        ·refine WO.pg rfl rfl rfl (WO.pg rfl rfl rfl (WO.pg rfl rfl rfl (WO.p rfl rfl (WO.nil ?_))))
         refine W.cond_nbl rfl (fun c12=>?_) (fun c12=>?_)
         ·exfalso;omega
         ·refine W.skip (W.region (WO.p rfl rfl (WO.ar rfl rfl rfl (by unfold in64;omega) rfl (WO.p rfl rfl (WO.nil ?_)))))
          refine' ⟨k+1,?hp,?hmu,⟨rfl,rfl,rfl,trivial⟩,?hS⟩
          case hS=>repeat (first | exact Sub.nil | refine Sub.cons (by repeat first | exact .head | apply Pick.tail) ?_)
          case hp=>omega
          case hmu=>omega
        ·exfalso;omega
      ·refine W.exit (blk_same (W.seq (W.sreg (WO.p rfl rfl (WO.nil ?_)))))
       refine W.cond_bl rfl (fun c13=>?_) (fun c13=>?_)
       ·refine W.sreg (WO.callR rfl Tryz.call17 (fun L w hi=>Ret.yes y17 w) rfl (WO.p rfl rfl (WO.nil (W.ret ?_))))
        exact fin.ret (Res.one rfl (RV.tmp rfl)) rfl
       ·refine W.skip ?_
        obtain ⟨dx,dy,hev⟩:=even_of h2 (show Fa.beL (l.map (·.1))=0 by omega) (show Fa.beL (l.map (·.2))=0 by omega)
        have hee:=even_lst hcl.1 h2 hev
        have hq2:((l.length:Int)-1).tdiv 2=(((l.length-1)/2:Nat):Int):=by rw [show (l.length:Int)-1=((l.length-1:Nat):Int) by omega];rfl
        have hcz:=even_cross hev (i:=0) (j:=(l.length-1)/2) (k:=l.length-1) (by omega) (by omega) (by omega)
        refine W.sreg (WO.p rfl rfl (WO.len rfl rfl hR.sl rfl (WO.ar rfl rfl rfl (by unfold in64;omega) rfl (WO.p rfl rfl (WO.nil (W.sreg (WO.p rfl rfl (WO.callR (r:=.tuple #[Tu.cirV (Tu.lst l),.int .i64 0]) rfl Tryz.call20 (fun L w hi=>by have h:=Tu.c_Smallest w v l (hR.later hi);rw [hck,if_pos rfl] at h;exact h) rfl (WO.p rfl rfl (WO.p rfl rfl (WO.p rfl rfl (WO.alloc rfl rfl rfl (fun b6 hb6=>(WO.storeA rfl rfl rfl rfl Pick.head rfl rfl (WO.p rfl rfl (WO.nil (W.sreg (WO.p rfl rfl (WO.p rfl rfl (WO.buildSl rfl rfl rfl rfl rfl rfl rfl rfl rfl (fun v7=>?_)))))))))))))))))))))
        refine WO.callR (r:=.tuple #[Tu.cirV (Tu.lst l),.int .i64 0]) rfl Tryz.call39 (fun L w hi=>by have h:=Tu.c_CheckRim w v _ l [0,(l.length:Int)-1] (hR.later hi) (RdF.of_ow (e:=3) (xs:=[0,(l.length:Int)-1]) encI_ok (by repeat first | exact .head | apply Pick.tail) hi);rw [rim_ends hck h2,hee] at h;exact h) rfl (WO.p rfl rfl (WO.p rfl rfl (WO.p rfl rfl (WO.alloc rfl rfl rfl (fun b8 hb8=>(WO.storeA rfl rfl rfl rfl Pick.head rfl rfl (WO.p rfl rfl (WO.nil (W.seq ?_)))))))))
        refine W.drawD 18 [.r 0 [],.r 1 [],.b 2 [],.r 3 [],.r 4 [],.r 5 [],.r 6 [],.b 7 [],.r 8 [],.r 9 [],.r 10 [],.b 11 [],.b 12 [],.r 13 [],.r 14 [],.r 15 [],.a 16 19 (.cells #[.int .i64 0,.int .i64 0,.int .i64 0,.int .i64 0,.int .i64 0] 54 (0,0)),.s 17 []] [] (A0:=[]) (Sub.refl _) (by kernel_rfl) ?_ ?_
        ·exact (ALok.r (ALok.r (ALok.b (ALok.r (ALok.r (ALok.r (ALok.r (ALok.b (ALok.r (ALok.r (ALok.r (ALok.b (ALok.b (ALok.r (ALok.r (ALok.r (ALok.cons rfl rfl rfl rfl rfl (ALok.s ALok.nil))))))))))))))))))
        refine DT.r rfl rfl rfl (WO.p rfl rfl (WO.nil ⟨rfl,rfl⟩)) (DT.r rfl rfl rfl (WO.indexAddr (i:=0) rfl rfl rfl hR.sl (by first | omega | (simp;omega)) rfl (WO.nil ⟨rfl,rfl⟩)) (DT.b rfl rfl rfl (WO.loadA rfl rfl (Tu.RdF.cells2 hR (i:=0) (by omega)) rfl rfl (WO.nil ⟨rfl,rfl⟩)) (DT.r rfl rfl rfl (WO.p rfl rfl (WO.nil ⟨rfl,rfl⟩)) (DT.r rfl rfl rfl (WO.p rfl rfl (WO.nil ⟨rfl,rfl⟩)) (DT.r rfl rfl rfl (WO.quo rfl rfl (by first | omega | assumption) (by unfold in64;omega) rfl (WO.nil ⟨rfl,rfl⟩)) ?_)))))
        refine' DT.r rfl rfl rfl ?hq ?_
        case hq =>
         refine' WO.indexAddrZ (n:=_) rfl rfl rfl ?hs ?h00 ?h1 rfl ?_
         case hs=>exact hR.sl
         case h00=>omega
         case h1=>(first | omega | (simp;omega))
         exact WO.nil ⟨rfl,rfl⟩
        refine' DT.b rfl rfl rfl ?hq ?_
        case hq =>
         refine' WO.loadA (vs:=_) rfl rfl ?hc ?hl rfl ?_
         case hc=>((refine Fa.RdF.cells2z hR (i:=(l.length-1)/2) (by omega) ?_;omega))
         case hl=>rfl
         exact WO.nil ⟨rfl,rfl⟩
        refine DT.r rfl rfl rfl (WO.p rfl rfl (WO.nil ⟨rfl,rfl⟩)) (DT.r rfl rfl rfl (WO.p rfl rfl (WO.nil ⟨rfl,rfl⟩)) ?_)
        refine' DT.r rfl rfl rfl ?hq ?_
        case hq =>
         refine' WO.indexAddrZ (n:=_) rfl rfl rfl ?hs ?h00 ?h1 rfl ?_
         case hs=>exact hR.sl
         case h00=>omega
         case h1=>(first | omega | (simp;omega))
         exact WO.nil ⟨rfl,rfl⟩
        refine' DT.b rfl rfl rfl ?hq ?_
        case hq =>
         refine' WO.loadA (vs:=_) rfl rfl ?hc ?hl rfl ?_
         case hc=>((refine Fa.RdF.cells2z hR (i:=l.length-1) (by omega) ?_;omega))
         case hl=>rfl
         exact WO.nil ⟨rfl,rfl⟩
        refine DT.b rfl rfl rfl (WO.callR (r:=.tuple #[Tu.cirV ⟨0,0,0,0,0⟩,.int .i64 5]) rfl Tryz.call38 (fun L w hi=>by rw [← Tu.thrV_5 ⟨Tu.at_ok hcl.1 (i:=0) (by omega),Tu.at_ok hcl.1 (i:=(l.length-1)/2) (by omega),Tu.at_ok hcl.1 (i:=l.length-1) (by omega)⟩ hcz];exact Tu.c_Through w (l.at 0) (l.at ((l.length-1)/2)) (l.at (l.length-1))) rfl (WO.nil ⟨rfl,rfl⟩)) (DT.r rfl rfl rfl (WO.p rfl rfl (WO.nil ⟨rfl,rfl⟩)) (DT.r rfl rfl rfl (WO.p rfl rfl (WO.nil ⟨rfl,rfl⟩)) (DT.r rfl rfl rfl (WO.p rfl rfl (WO.nil ⟨rfl,rfl⟩)) (DT.a (fun b9=>(DT.s [_,_,_,_] rfl rfl rfl (WO.storeA rfl rfl rfl rfl Pick.head rfl rfl ?_)))))))
        refine WO.nil ⟨[_],rfl,rfl,(Keep.a (Keep.r (Keep.r (Keep.r (Keep.b (Keep.b (Keep.r (Keep.r (Keep.r (Keep.b (Keep.r (Keep.r (Keep.r (Keep.r (Keep.b (Keep.r (Keep.r Keep.nil))))))))))))))))),?_⟩
        refine DT.nil [_,_,_,_] rfl (WO.p rfl rfl (WO.nil (W.seq ?_)))
        refine W.drawD 26 [.r 0 [],.r 1 [],.r 2 [],.r 3 [],.r 4 [],.r 5 [],.r 6 [],.r 7 [],.r 8 [],.r 9 [],.r 10 [],.b 11 [],.b 12 [],.r 13 [],.r 14 [],.r 15 [],.b 16 [],.r 17 [],.r 18 [],.b 19 [],.r 20 [],.r 21 [],.r 22 [],.b 23 [],.c 24 [],.f 25 []] [] (A0:=[]) (Sub.refl _) (by kernel_rfl) ?_ ?_
        ·repeat constructor
        refine DT.r rfl rfl rfl (WO.p rfl rfl (WO.nil ⟨rfl,rfl⟩)) (DT.r rfl rfl rfl (WO.eqlT rfl rfl rfl rfl (WO.nil ⟨rfl,rfl⟩)) (DT.r rfl rfl rfl (WO.p rfl rfl (WO.nil ⟨rfl,rfl⟩)) (DT.r rfl rfl rfl (WO.pg rfl rfl rfl (WO.nil ⟨rfl,rfl⟩)) (DT.r rfl rfl rfl (WO.go' rfl (WO.eqlT rfl rfl rfl rfl (WO.nil ⟨rfl,rfl⟩))) (DT.r rfl rfl rfl (WO.p rfl rfl (WO.nil ⟨rfl,rfl⟩)) (DT.r rfl rfl rfl (WO.p rfl rfl (WO.nil ⟨rfl,rfl⟩)) (DT.r rfl rfl rfl (WO.pg rfl rfl rfl (WO.nil ⟨rfl,rfl⟩)) (DT.r rfl rfl rfl (WO.go' rfl (WO.eqlT rfl rfl rfl rfl (WO.nil ⟨rfl,rfl⟩))) (DT.r rfl rfl rfl (WO.p rfl rfl (WO.nil ⟨rfl,rfl⟩)) (DT.r rfl rfl rfl (WO.p rfl rfl (WO.nil ⟨rfl,rfl⟩)) ?_))))))))))
        refine DT.b rfl rfl rfl (WO.go' rfl (WO.loadA rfl rfl (Cells.own (Pick.tail (Pick.tail (Pick.tail (Pick.head))))) rfl rfl (WO.nil ⟨rfl,rfl⟩))) (DT.b rfl rfl rfl (WO.go' rfl (WO.loadA rfl rfl (Cells.own (Pick.tail (Pick.head))) rfl rfl (WO.nil ⟨rfl,rfl⟩))) (DT.r rfl rfl rfl (WO.go' rfl (WO.eqT rfl rfl (eq54 _) rfl (WO.nil ⟨rfl,rfl⟩))) (DT.r rfl rfl rfl (WO.p rfl rfl (WO.nil ⟨rfl,rfl⟩)) (DT.r rfl rfl rfl (WO.p rfl rfl (WO.nil ⟨rfl,rfl⟩)) (DT.b rfl rfl rfl (WO.go' rfl (WO.loadA rfl rfl (Cells.own (Pick.tail (Pick.tail (Pick.tail (Pick.head))))) rfl rfl (WO.nil ⟨rfl,rfl⟩))) (DT.r rfl rfl rfl (WO.pg rfl rfl rfl (WO.nil ⟨rfl,rfl⟩)) ?_))))))
        refine DT.r rfl rfl rfl (WO.go' rfl (WO.indexAddr (i:=0) rfl rfl rfl hR.sl (by first | omega | (simp;omega)) rfl (WO.nil ⟨rfl,rfl⟩))) (DT.b rfl rfl rfl (WO.go' rfl (WO.loadA rfl rfl (Tu.RdF.cells2 hR (i:=0) (by omega)) rfl rfl (WO.nil ⟨rfl,rfl⟩))) (DT.r rfl rfl rfl (WO.pg rfl rfl rfl (WO.nil ⟨rfl,rfl⟩)) (DT.r rfl rfl rfl (WO.pg rfl rfl rfl (WO.nil ⟨rfl,rfl⟩)) ?_)))
        refine' DT.r rfl rfl rfl ?hq ?_
        case hq =>
         refine WO.go' rfl ?_
         refine' WO.indexAddrZ (n:=_) rfl rfl rfl ?hs ?h00 ?h1 rfl ?_
         case hs=>exact hR.sl
         case h00=>omega
         case h1=>(first | omega | (simp;omega))
         exact WO.nil ⟨rfl,rfl⟩
        refine' DT.b rfl rfl rfl ?hq ?_
        case hq =>
         refine WO.go' rfl ?_
         refine' WO.loadA (vs:=_) rfl rfl ?hc ?hl rfl ?_
         case hc=>((refine Fa.RdF.cells2z hR (i:=l.length-1) (by omega) ?_;omega))
         case hl=>rfl
         exact WO.nil ⟨rfl,rfl⟩
        refine DT.c [_,_,_,_] rfl rfl rfl rfl (WO.go' rfl (WO.buildSl rfl rfl rfl rfl rfl rfl rfl rfl rfl (fun v10=>?_)))
        refine WO.nil ⟨_,[_],rfl,rfl,(Keep.b (Keep.r (Keep.r (Keep.r (Keep.b (Keep.r (Keep.r (Keep.b (Keep.r (Keep.r (Keep.r (Keep.b (Keep.b (Keep.r (Keep.r (Keep.r (Keep.r (Keep.r (Keep.r (Keep.r (Keep.r (Keep.r (Keep.r (Keep.r Keep.nil)))))))))))))))))))))))),?_⟩
        refine DT.f [_,_,_,_,_] rfl rfl rfl rfl (WO.go' rfl (WO.callR (r:=Tu.cirV (Tu.lst l)) rfl Tryz.call40 (fun L w hi=>by rw [← hee];exact Tu.ref_Least w _ (ends l) (RdF.of_ow (e:=49) (xs:=ends l) encP_ok (by repeat first | exact .head | apply Pick.tail) hi) (ends_ok hcl.1 h2) (by show 0<2;omega) (by show 2≤24;omega)) rfl (WO.nil ⟨rfl,rfl⟩))) (DT.nil [_,_,_,_,_] rfl (WO.go' rfl (WO.eqT rfl rfl (eq54 _) rfl (WO.p rfl rfl (WO.p rfl rfl (WO.go' rfl (WO.callR rfl Tryz.call17 (fun L w hi=>Ret.yes y17 w) rfl (WO.p rfl rfl (WO.p rfl rfl (WO.nil (W.ret ?_)))))))))))
        exact fin.ret (Res.one rfl (RV.tmp rfl)) rfl
end Go.Proofs.YtnehaifgcegemaaGreat
namespace Go.TX
open Go Go.TH
noncomputable section
variable {P:Program}
def smC (f:Nat) (_:Program):Sums:=fun g=>bif Nat.beq g f then some (fun args st=>match args with
 | [x]=>match x with
  | .map b=>rdMK st b fun es clk st1=>newK st1 (.map es clk) fun n st'=>some (.map n,st')
  | _=>none
 | _=>none) else none
theorem smC_ok {f:Nat} (hb:HasBody P f) (h:∀ (b:Nat) (es:Array MapEntry) (clock:Nat) (w:World),w.heap[b]?=some (.map es clock)→Calls P f #[.map (some b)] w fun e w'=>e=.returned (.map (some w.heap.size))∧w'=w.alloc (.map es clock)):SumOK P (smC f P):=by
 have key:∀ g s args st v st',smC f P g=some s→s args st=some (v,st')→g=f∧∃ b es clk,args=[.map b]∧st.h.get b=some (.map es clk)∧v=.map st.nx∧st'=⟨st.h.set st.nx (some (.map es clk)),st.nx+1,st.base,ins st.base b st.R,st.W⟩:=by
  intro g s args st v st' h1 h2
  unfold smC at h1
  cases hm:Nat.beq g f with
  | false=>rw [hm] at h1;cases h1
  | true =>
   rw [hm,cond_true,Option.some.injEq] at h1
   subst h1
   refine ⟨Nat.eq_of_beq_eq_true hm,?_⟩
   dsimp only at h2
   split at h2
   case h_2=>cases h2
   rename_i x
   split at h2
   case h_2=>cases h2
   rename_i b
   obtain ⟨es,clk,hg,h2⟩:=rdMK_some h2
   simp only [newK_eq,Option.some.injEq,Prod.mk.injEq] at h2
   exact ⟨b,es,clk,rfl,hg,h2.1.symm,h2.2.symm⟩
 refine ⟨fun g s args st v st' h1 h2=>?_,fun g s args st v st' h1 h2=>?_⟩
 ·obtain ⟨_,b,es,clk,_,hg,_,rfl⟩:=key g s args st v st' h1 h2
  refine ⟨Nat.le_succ _,rfl,ins_sub _ _ _,fun x hx=>?_⟩
  show KeepL (st.h.get x) ((st.h.set st.nx (some (.map es clk))).get x)
  rw [Tr.get_set,if_neg (by omega)]
  exact KeepL.refl _
 ·obtain ⟨rfl,b,es,clk,rfl,hg,rfl,rfl⟩:=key g s args st v st' h1 h2
  refine ⟨fun ρ D w us hu hs hD hf=>?_,hb⟩
  rw [RelL] at hu
  obtain ⟨u,r,rfl,h3,h4⟩:=hu
  rw [RelL] at h4
  subst h4
  rw [Rel] at h3
  obtain ⟨B,s0,hB,rfl⟩:=h3
  have hDb:D b:=hD _ List.mem_cons_self b (ins_has _ _ _)
  obtain ⟨b',s',ms,q1,q2,q3⟩:=hs.mapAt hDb hg
  rw [hB] at q1
  cases q1
  have f0:ρ st.nx=none:=hf _ List.mem_cons_self _ (Nat.le_refl _) (Nat.lt_succ_self _)
  have hle1:ρ.Le (ρ.put st.nx w.heap.size (0,0)):=Ren.put_le f0
  refine CallsIn.mono (callsIn_wide.2 (h B ms.toArray clk w q2)) ?_
  rintro e w' ⟨rfl,rfl⟩
  have ht:=Step.touch (R:=ins st.base b st.R) (W:=st.W) hs (ins_sub _ _ _) fun _ h=>h
  have hst2:=Step.new (st:=⟨st.h,st.nx,st.base,ins st.base b st.R,st.W⟩) (o:=.map es clk) (ob:=.map ms.toArray clk) (s:=(0,0)) (w':=w.alloc (.map ms.toArray clk)) ht.sim f0 ⟨ms,rfl,q3.mono hle1⟩ rfl rfl rfl rfl
  refine ⟨_,List.mem_cons_self,_,ρ.put st.nx w.heap.size (0,0),rfl,?_,ht.trans hst2⟩
  rw [Rel]
  exact ⟨w.heap.size,(0,0),Ren.put_at,rfl⟩
end
end Go.TX
