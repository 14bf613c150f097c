/-
  What is proved here: a call whose results hold no address, reckoned where one row of cells lies, may be used as known wherever this row lies. Conditions: none; each lemma states its own.
-/
import Derived.Test.YtnehaifgcegemaaGreatWa
namespace Go.TX
open Go Go.TH
noncomputable section
variable {P:Program}
mutual
def onS (d:Nat→Bool):SV→Bool
 | .raw _=>true
 | .sl b _ _ _=>d b
 | .agg l=>onL d l
 | .tup l=>onL d l
 | .ptr _ _=>false
 | .sl0=>false
 | .map _=>false
 | .fn _ _ _=>false
 | .yield _=>false
 | .any=>false
def onL (d:Nat→Bool):List SV→Bool
 | []=>true
 | s::l=>onS d s&&onL d l
end
mutual
theorem onS_rel {d:Nat→Bool} {ρ ρ':Ren} (h:∀ b,d b=true→ρ' b=ρ b):∀ {s:SV} {u:Value},onS d s=true→Rel ρ s u→Rel ρ' s u
 | .raw v,u,_,hr=>by rw [Rel] at hr ⊢;exact hr
 | .sl b o n c,u,ho,hr=>by
  rw [onS] at ho
  rw [Rel] at hr ⊢
  obtain ⟨x,s,k,h1,h2⟩:=hr
  exact ⟨x,s,k,by rw [h b ho];exact h1,h2⟩
 | .agg l,u,ho,hr=>by rw [onS] at ho;rw [Rel] at hr ⊢;obtain ⟨us,h1,h2⟩:=hr;exact ⟨us,onL_rel h ho h1,h2⟩
 | .tup l,u,ho,hr=>by rw [onS] at ho;rw [Rel] at hr ⊢;obtain ⟨us,h1,h2⟩:=hr;exact ⟨us,onL_rel h ho h1,h2⟩
 | .ptr _ _,_,ho,_=>by rw [onS] at ho;cases ho
 | .sl0,_,ho,_=>by rw [onS] at ho;cases ho
 | .map _,_,ho,_=>by rw [onS] at ho;cases ho
 | .fn _ _ _,_,ho,_=>by rw [onS] at ho;cases ho
 | .yield _,_,ho,_=>by rw [onS] at ho;cases ho
 | .any,_,ho,_=>by rw [onS] at ho;cases ho
theorem onL_rel {d:Nat→Bool} {ρ ρ':Ren} (h:∀ b,d b=true→ρ' b=ρ b):∀ {l:List SV} {us:List Value},onL d l=true→RelL ρ l us→RelL ρ' l us
 | [],us,_,hr=>by rw [RelL] at hr ⊢;exact hr
 | s::l,us,ho,hr=>by
  rw [onL,Bool.and_eq_true] at ho
  rw [RelL] at hr ⊢
  obtain ⟨v,r,h1,h2,h3⟩:=hr
  exact ⟨v,r,h1,onS_rel h ho.1 h2,onL_rel h ho.2 h3⟩
end
structure Inst where
 xs:List SV
 b:Nat
 l:List SV
 e:TypeId
 v:SV
def Inst.st (i:Inst):St:=⟨Tr.lf.set i.b (some (.cells i.l i.e false)),i.b+1,i.b+1,[],[]⟩
def allV (v:SV):List (SV × St)→Bool
 | []=>true
 | p::r=>eqV p.1 v&&(p.2.W.isEmpty&&allV v r)
def Inst.ok (i:Inst) (P:Program) (sm:Program→Sums) (n:Nat) (f:FuncId):Bool:=onL (Nat.beq i.b) i.xs&&(onL (fun _=>false) i.l&&(onS (fun _=>false) i.v&&fastK P fun P=>match exFK P (sm P) (exCK P (sm P) n) f i.xs i.st with
 | some L=>allV i.v L
 | none=>false))
def ask:List Inst→List SV→St→Option (SV × St)
 | [],_,_=>none
 | i::r,xs,st=>bif eqVs xs i.xs then (match st with
  | ⟨h,nx,b,R,W⟩=>match h.get i.b with
   | some o=>bif eqO o (.cells i.l i.e false) then insK b i.b R (fun R'=>some (i.v,⟨h,nx,b,R',W⟩)) else none
   | none=>none) else ask r xs st
def smT (f:FuncId) (l:List Inst) (sm:Program→Sums) (P:Program):Sums:=fun g=>bif Nat.beq g f then some (ask l) else sm P g
theorem ask_some {l:List Inst} {xs:List SV} {st st':St} {v:SV} (h:ask l xs st=some (v,st')):∃ i∈l,xs=i.xs∧st.h.get i.b=some (.cells i.l i.e false)∧v=i.v∧st'=⟨st.h,st.nx,st.base,ins st.base i.b st.R,st.W⟩:=by
 induction l with
 | nil=>cases h
 | cons i r ih =>
  rw [ask] at h
  cases hx:eqVs xs i.xs with
  | false =>
   rw [hx,cond_false] at h
   obtain ⟨j,hj,q⟩:=ih h
   exact ⟨j,List.mem_cons_of_mem _ hj,q⟩
  | true =>
   rw [hx,cond_true] at h
   refine ⟨i,List.mem_cons_self,eqVs_eq hx,?_⟩
   cases st with
   | mk h' nx b R W =>
   dsimp only at h ⊢
   split at h
   case h_2=>cases h
   rename_i o ho
   cases ho':eqO o (.cells i.l i.e false) with
   | false=>rw [ho',cond_false] at h;cases h
   | true =>
    rw [ho',cond_true,insK_eq,Option.some.injEq,Prod.mk.injEq] at h
    exact ⟨by rw [ho,eqO_eq ho'],h.1.symm,h.2.symm⟩
theorem allV_ok {v:SV}:∀ {L:List (SV × St)},allV v L=true→∀ p∈L,p.1=v∧p.2.W=[]
 | [],_,p,hp=>(by cases hp)
 | q::r,h,p,hp=>by
  rw [allV,Bool.and_eq_true,Bool.and_eq_true] at h
  rcases List.mem_cons.1 hp with rfl | hp
  ·exact ⟨eqV_eq h.1,List.isEmpty_iff.1 h.2.1⟩
  ·exact allV_ok h.2.2 p hp
theorem Inst.fun (hm:P.follows .mixedOrders=true) (he:enB P=true) {sm:Program→Sums} (hsm:SumOK P (sm P)) {i:Inst} {n:Nat} {f:FuncId} (h:i.ok P sm n f=true):HasBody P f∧∀ (st:St) (R:List Nat),st.h.get i.b=some (.cells i.l i.e false)→(i.b∈R∨st.base≤i.b)→(∀ x,x∈st.R→x∈R)→FunOK P f i.xs st [(i.v,⟨st.h,st.nx,st.base,R,st.W⟩)]:=by
 unfold Inst.ok at h
 rw [Bool.and_eq_true,Bool.and_eq_true,Bool.and_eq_true,fastK_eq] at h
 obtain ⟨h1,h2,h3,h4⟩:=h
 split at h4
 case h_2=>cases h4
 rename_i L hL
 rw [exFK_eq P (sm P) (exCK_eq P (sm P) n)] at hL
 have hF:=exF_ok (exN_mono hsm.1 n) (exN_ne n) (exN_ok hm (Enters.of he) hsm n).1 hsm hL
 refine ⟨hF.2,fun st R hg hR hsub ρ D w us hu hs hD _=>?_⟩
 have hDb:D i.b:=hD _ List.mem_cons_self i.b hR
 obtain ⟨B,s,ob,hB,hw,ho⟩:=hs.live i.b _ hDb hg
 let ρ':Ren:=fun x=>if x=i.b then ρ x else none
 have hgt:∀ x o,i.st.h.get x=some o→x=i.b∧o=.cells i.l i.e false:=by
  intro x o hx
  unfold Inst.st at hx
  rw [Tr.get_set] at hx
  split at hx
  ·rename_i e
   cases hx
   exact ⟨e,rfl⟩
  ·rw [show (Tr.lf:Tr SO).get x=none from Tr.get_lf x] at hx;cases hx
 have hb':ρ' i.b=some (B,s):=by show (if i.b=i.b then ρ i.b else none)=_;rw [if_pos rfl];exact hB
 have hon:∀ b,Nat.beq i.b b=true→ρ' b=ρ b:=fun b hb=>by
  have e:i.b=b:=Nat.eq_of_beq_eq_true hb
  show (if b=i.b then ρ b else none)=_
  rw [if_pos e.symm]
 have hsim:Sim ρ' (fun _=>True) i.st w:=by
  refine ⟨fun x o _ hx=>?_,fun x y b s s' _ _ hx hy _ _=>?_,fun x hx=>?_⟩
  ·obtain ⟨rfl,rfl⟩:=hgt x o hx
   refine ⟨B,s,ob,hb',hw,?_⟩
   obtain ⟨pre,us,vs,q1,q2,q3,q4⟩:=ho
   exact ⟨pre,us,vs,q1,q2,onL_rel (fun b hb=>by cases hb) h2 q3,q4⟩
  ·obtain ⟨o,e1⟩:=Option.ne_none_iff_exists'.1 hx
   obtain ⟨o',e2⟩:=Option.ne_none_iff_exists'.1 hy
   rw [(hgt x o e1).1,(hgt y o' e2).1]
  ·obtain ⟨o,e1⟩:=Option.ne_none_iff_exists'.1 hx
   rw [(hgt x o e1).1]
   exact Nat.lt_succ_self _
 have hall:=allV_ok h4
 refine CallsIn.mono (hF.1 ρ' (fun _=>True) w us (onL_rel hon h1 hu) hsim (fun _ _ _ _=>trivial) (fun p _ x hx _=>?_)) ?_
 ·show (if x=i.b then ρ x else none)=none
  rw [if_neg]
  intro e
  have:i.b+1≤x:=hx
  omega
 ·rintro e w' ⟨p,hp,u,ρ2,rfl,q1,q2⟩
  obtain ⟨e1,e2⟩:=hall p hp
  rw [e1] at q1
  have hk:Kept w w':=by
   refine ⟨q2.os,q2.tape,q2.output,q2.size,fun b hb=>?_⟩
   rcases q2.keep b hb with q | ⟨x,s,f1,_,f3,f4⟩
   ·exact q
   ·obtain ⟨o,e3⟩:=Option.ne_none_iff_exists'.1 f3
    have e4:=(hgt x o e3).1
    rw [e2] at f4
    rcases f4 with f4 | f4
    ·cases f4
    ·have:i.b+1≤x:=f4
     omega
  refine ⟨_,List.mem_cons_self,u,ρ,rfl,onS_rel (fun b hb=>by cases hb) h3 q1,?_⟩
  have ht:=Step.touch (R:=R) (W:=st.W) hs hsub fun _ h=>h
  exact ht.trans (Step.kept ht.sim hk)
theorem smT_ok (hm:P.follows .mixedOrders=true) (he:enB P=true) {sm:Program→Sums} (hsm:SumOK P (sm P)) {f:FuncId} {l:List Inst} (h:∀ i∈l,∃ sm':Program→Sums,SumOK P (sm' P)∧∃ n,i.ok P sm' n f=true):SumOK P (smT f l sm P):=by
 refine ⟨fun g s xs st v st' h1 h2=>?_,fun g s xs st v st' h1 h2=>?_⟩
 ·unfold smT at h1
  cases hg:Nat.beq g f with
  | false=>rw [hg,cond_false] at h1;exact hsm.1 g s xs st v st' h1 h2
  | true =>
   rw [hg,cond_true,Option.some.injEq] at h1
   subst h1
   obtain ⟨i,_,_,_,_,rfl⟩:=ask_some h2
   exact ⟨Nat.le_refl _,rfl,ins_sub _ _ _,fun x hx=>KeepL.refl _⟩
 ·unfold smT at h1
  cases hg:Nat.beq g f with
  | false=>rw [hg,cond_false] at h1;exact hsm.2 g s xs st v st' h1 h2
  | true =>
   rw [hg,cond_true,Option.some.injEq] at h1
   subst h1
   obtain rfl:=Nat.eq_of_beq_eq_true hg
   obtain ⟨i,hi,rfl,hb,rfl,rfl⟩:=ask_some h2
   obtain ⟨sm',hs',n,hn⟩:=h i hi
   have hF:=Inst.fun hm he hs' hn
   exact ⟨hF.2 st _ hb (ins_has _ _ _) (ins_sub _ _ _),hF.1⟩
end
end Go.TX
