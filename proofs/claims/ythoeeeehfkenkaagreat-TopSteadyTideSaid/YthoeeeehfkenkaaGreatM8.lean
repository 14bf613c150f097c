/-
  What is proved here: what an evaluator checks of a region that draws its order, and the order in which it reckons. Conditions: none; each lemma states its own.
-/
import Derived.Test.YthoeeeehfkenkaaGreatM7
import Derived.Test.YthoeeeehfkenkaaGreatM2
set_option linter.unusedVariables false
set_option linter.unusedSimpArgs false
namespace Go.TX
open Go Go.TH
noncomputable section
section cur
open Classical
variable {α:Type} (f:Nat→Nat→α) (tch:Nat→Nat→Prop) (S:Nat→Prop)
def cur:Nat→Nat→α
  | 0,x=>f 0 x
  | i+1,x=>if S i∧tch i x then f (i+1) x else cur i x
theorem cur_at {n x:Nat} (hf:∀ i,i<n→∀ x,¬ tch i x→f (i+1) x=f i x):∀ {t:Nat},t≤n→(∀ i,i<t→tch i x→S i)→cur f tch S t x=f t x
  | 0,_,_=>rfl
  | t+1,ht,h1=>by
    have ih:=cur_at hf (t:=t) (by omega) (fun i hi=>h1 i (by omega))
    simp only [cur]
    by_cases h:tch t x
    · rw [if_pos ⟨h1 t (by omega) h,h⟩]
    · rw [if_neg (fun q=>h q.2),ih,hf t (by omega) x h]
theorem cur_stay {t x:Nat}:∀ {n:Nat},t≤n→(∀ i,t≤i→i<n→S i→¬ tch i x)→cur f tch S n x=cur f tch S t x
  | 0, ht, _ => by have : t = 0 := by omega
                   rw [this]
  | n+1,ht,h=>by
    by_cases e:t=n+1
    · rw [e]
    · have ih:=cur_stay (n:=n) (t:=t) (by omega) (fun i h1 h2=>h i h1 (by omega))
      simp only [cur]
      rw [if_neg (fun q=>h n (by omega) (by omega) q.1 q.2),ih]
theorem cur_is {n t x:Nat} (hf:∀ i,i<n→∀ x,¬ tch i x→f (i+1) x=f i x) (ht:t≤n) (h1:∀ i,i<t→tch i x→S i) (h2:∀ i,t≤i→i<n→S i→¬ tch i x):cur f tch S n x=f t x:=by
  rw [cur_stay f tch S ht h2,cur_at f tch S hf ht h1]
theorem cur_other {t x:Nat} (S':Nat→Prop) (hS:∀ i,i≠t→(S' i↔S i)) (hx:¬ tch t x):∀ n,cur f tch S' n x=cur f tch S n x
  | 0=>rfl
  | n+1=>by
    simp only [cur,cur_other S' hS hx n]
    by_cases e:n=t
    · subst e;rw [if_neg (fun q=>hx q.2),if_neg (fun q=>hx q.2)]
    · rw [hS n e]
theorem cur_none {x:Nat} (h:∀ i,¬ S i):∀ n,cur f tch S n x=f 0 x
  | 0=>rfl
  | n+1=>by simp only [cur];rw [if_neg (fun q=>h n q.1),cur_none h n]
end cur
theorem mem_afsL {o:Oper} {j:Nat}:j∈afsL o↔∃ e∈o.after.toList,Region.binds .any e=true∧e.on=j:=by
  unfold afsL
  generalize o.after.toList=l
  induction l with
  | nil=>simp [afsL.go]
  | cons e l ih =>
    simp only [afsL.go]
    cases hg:e.ground <;> simp [ih,Region.binds,hg] <;> constructor <;> intro h <;> rcases h with h | h <;> first | exact .inl h.symm | exact .inr h | (exact absurd h (by decide))
def Good (A:List (List Nat)) (k m:Nat):Prop:=∀ S:Nat→Prop,(∀ i af,A[i]?=some af→S i→∀ j∈af,S j)→(∀ af,A[k]?=some af→∀ j∈af,S j)→∀ j,bitB m j=true→S j
theorem bitB_testBit (m i:Nat):bitB m i=m.testBit i:=by
  unfold bitB
  have h:Nat.beq (Nat.land (Nat.shiftRight m i) 1) 1=((m>>>i)&&&1==1):=by
    show Nat.beq ((m>>>i)&&&1) 1=((m>>>i)&&&1==1)
    generalize (m>>>i)&&&1=z
    rw [Bool.eq_iff_iff];simp
  rw [h,Nat.testBit,Nat.and_comm]
  have:=Nat.and_one_is_mod (m>>>i)
  rw [Nat.and_comm 1,this]
  rcases Nat.mod_two_eq_zero_or_one (m>>>i) with h | h <;> simp [h]
theorem cloGo_ok {A:List (List Nat)} {acc:List Nat} (hA:∀ k m,k<acc.length→acc[acc.length-1-k]?=some m→Good A k m) {S:Nat→Prop} (hS:∀ i af,A[i]?=some af→S i→∀ j∈af,S j) :
    ∀ (js:List Nat) (m0:Nat),(∀ j∈js,j<acc.length)→(∀ j∈js,S j)→(∀ j,bitB m0 j=true→S j)→∀ j,bitB (cloB.go acc acc.length js m0) j=true→S j
  | [],m0,_,_,h0,j,hj=>by simp only [cloB.go] at hj;exact h0 j hj
  | x::js,m0,hlt,hjs,h0,j,hj=>by
    simp only [cloB.go] at hj
    split at hj
    · rename_i mj hm
      rw [nth_eq] at hm
      have hx:S x:=hjs x (by simp)
      refine cloGo_ok hA hS js _ (fun j hj=>hlt j (by simp [hj])) (fun j hj=>hjs j (by simp [hj])) ?_ j hj
      intro j hj
      rw [bitB_testBit] at hj
      have e:Nat.lor m0 (Nat.lor mj (Nat.shiftLeft 1 x))=m0|||(mj|||(1<<<x)):=rfl
      rw [e,Nat.testBit_or,Nat.testBit_or,Bool.or_eq_true,Bool.or_eq_true] at hj
      rcases hj with hj | hj | hj
      · exact h0 j (by rw [bitB_testBit];exact hj)
      · exact hA x mj (hlt x (by simp)) hm S hS (fun af haf=>hS x af haf hx) j (by rw [bitB_testBit];exact hj)
      · rw [Nat.one_shiftLeft,Nat.testBit_two_pow] at hj
        have:x=j:=by simpa using hj
        subst this;exact hx
    · exact cloGo_ok hA hS js _ (fun j hj=>hlt j (by simp [hj])) (fun j hj=>hjs j (by simp [hj])) h0 j hj
theorem ltAll_ok:∀ {l:List Nat} {i:Nat},ltAll l i=true→∀ j∈l,j<i
  | [],_,_,j,hj=>by cases hj
  | x::r,i,h,j,hj=>by
    simp only [ltAll] at h
    cases hb:Nat.blt x i with
    | false=>rw [hb] at h;cases h
    | true =>
      rw [hb,cond_true] at h
      rcases List.mem_cons.1 hj with rfl | hj
      · exact Nat.blt_eq.mp hb
      · exact ltAll_ok h j hj
theorem backAll_ok:∀ {A:List (List Nat)} {i0:Nat},backAll A i0=true→∀ i af,A[i]?=some af→∀ j∈af,j<i0+i
  | [],_,_,i,af,h,_,_=>by simp at h
  | a::r,i0,h,i,af,ha,j,hj=>by
    simp only [backAll] at h
    cases hb:ltAll a i0 with
    | false=>rw [hb] at h;cases h
    | true =>
      rw [hb,cond_true] at h
      cases i with
      | zero=>simp only [List.getElem?_cons_zero,Option.some.injEq] at ha;subst ha;exact ltAll_ok hb j hj
      | succ i =>
        simp only [List.getElem?_cons_succ] at ha
        have:=backAll_ok h i af ha j hj
        omega
def Masks (A:List (List Nat)) (ms:List Nat):Prop:=∀ k m,k<ms.length→ms[ms.length-1-k]?=some m→Good A k m
theorem cloB_ok {A:List (List Nat)} (hback:∀ (i:Nat) (af:List Nat),A[i]?=some af→∀ j∈af,j<i):∀ (r:List (List Nat)) (acc:List Nat),A.drop acc.length=r→Masks A acc→Masks A (cloB r acc)∧(cloB r acc).length=acc.length+r.length
  | [],acc,_,h=>⟨h,rfl⟩
  | af::r,acc,hd,h=>by
    simp only [cloB,natK_eq]
    have haf:A[acc.length]?=some af:=by
      have:=congrArg (fun l=>l[0]?) hd
      simpa [List.getElem?_drop] using this
    have hr:A.drop (acc.length+1)=r:=by
      have:=congrArg (List.drop 1) hd
      simpa [List.drop_drop] using this
    have hm:Masks A (cloB.go acc (llen acc) af 0::acc):=by
      intro k m hk hm
      rw [List.length_cons] at hk hm
      by_cases e:k=acc.length
      · subst e
        have e1:acc.length+1-1-acc.length=0:=by omega
        rw [e1,List.getElem?_cons_zero,Option.some.injEq] at hm
        subst hm
        intro S hS hk2 j hj
        rw [llen_eq] at hj
        exact cloGo_ok h hS af 0 (fun j hj=>hback _ af haf j hj) (fun j hj=>hk2 af haf j hj) (fun j hj=>by rw [bitB_testBit,Nat.zero_testBit] at hj;cases hj) j hj
      · have e1:acc.length+1-1-k=(acc.length-1-k)+1:=by omega
        rw [e1,List.getElem?_cons_succ] at hm
        exact h k m (by omega) hm
    obtain ⟨h1,h2⟩:=cloB_ok hback r _ (by simpa using hr) hm
    exact ⟨h1,by rw [h2];simp;omega⟩
theorem afsAll_eq:∀ (l:List Oper),afsAll l=l.map afsL
  | []=>rfl
  | o::r=>by simp [afsAll,afsAll_eq r]
theorem revK_eq {α:Type}:∀ (l acc:List α),revK l acc=l.reverse++acc
  | [],_=>rfl
  | x::r,acc=>by simp [revK,revK_eq r]
theorem apU_ok {ops:Array Oper} {u:Oper} {m:Nat}:∀ {r:List Oper},apAll.apU ops u m r r.length=true→∀ i t,i<r.length→r[r.length-1-i]?=some t→bitB m i=true∨t.apart ops u=true
  | [],_,i,t,hi,_=>by simp at hi
  | x::r,h,i,t,hi,ht=>by
    simp only [List.length_cons,apAll.apU,Nat.add_sub_cancel] at h
    simp only [List.length_cons] at hi ht
    by_cases e:i=r.length
    · subst e
      have e1:r.length+1-1-r.length=0:=by omega
      rw [e1,List.getElem?_cons_zero,Option.some.injEq] at ht
      subst ht
      cases hb:bitB m r.length with
      | true=>exact .inl rfl
      | false =>
        rw [hb,cond_false] at h
        cases ha:x.apart ops u with
        | true=>exact .inr rfl
        | false=>rw [ha] at h;cases h
    · have e1:r.length+1-1-i=(r.length-1-i)+1:=by omega
      rw [e1,List.getElem?_cons_succ] at ht
      have h':apAll.apU ops u m r r.length=true:=by
        cases hb:bitB m r.length with
        | true=>rw [hb,cond_true] at h;exact h
        | false =>
          rw [hb,cond_false] at h
          cases ha:x.apart ops u with
          | true=>rw [ha,cond_true] at h;exact h
          | false=>rw [ha] at h;cases h
      exact apU_ok h' i t (by omega) ht
theorem apAll_ok {ops:Array Oper}:∀ {r:List Oper} {ms:List Nat},r.length=ms.length→apAll ops r ms=true→∀ i j t u m,i<j→j<r.length→r[r.length-1-i]?=some t→r[r.length-1-j]?=some u→ms[ms.length-1-j]?=some m→bitB m i=true∨t.apart ops u=true
  | [],_,_,_,i,j,t,u,m,_,hj,_,_,_=>by simp at hj
  | x::r,[],hl,_,_,_,_,_,_,_,_,_,_,_=>by simp at hl
  | x::r,y::ms,hl,h,i,j,t,u,m,hij,hj,ht,hu,hm=>by
    simp only [apAll,Bool.and_eq_true] at h
    obtain ⟨h1,h2⟩:=h
    rw [llen_eq] at h1
    simp only [List.length_cons] at hj ht hu hm hl
    have hl':r.length=ms.length:=by omega
    have ei:r.length+1-1-i=(r.length-1-i)+1:=by omega
    rw [ei,List.getElem?_cons_succ] at ht
    by_cases e:j=r.length
    · subst e
      have e1:r.length+1-1-r.length=0:=by omega
      rw [e1,List.getElem?_cons_zero,Option.some.injEq] at hu
      rw [← hl',e1,List.getElem?_cons_zero,Option.some.injEq] at hm
      subst hu;subst hm
      exact apU_ok h1 i t (by omega) ht
    · have e1:r.length+1-1-j=(r.length-1-j)+1:=by omega
      rw [e1,List.getElem?_cons_succ] at hu
      rw [← hl',e1,List.getElem?_cons_succ] at hm
      rw [hl'] at hm
      exact apAll_ok hl' h2 i j t u m hij (by omega) ht hu hm
theorem sepU_ok {u:Tc} {m:Nat}:∀ {r:List Tc},sepAll.sepU u m r r.length=true→∀ i t,i<r.length→r[r.length-1-i]?=some t→bitB m i=true∨sepT t u=true
  | [],_,i,t,hi,_=>by simp at hi
  | x::r,h,i,t,hi,ht=>by
    simp only [List.length_cons,sepAll.sepU,Nat.add_sub_cancel] at h
    simp only [List.length_cons] at hi ht
    have h':(sepT x u=true∨bitB m r.length=true)∧sepAll.sepU u m r r.length=true:=by
      cases ha:sepT x u with
      | true=>rw [ha,cond_true] at h;exact ⟨.inl rfl,h⟩
      | false =>
        rw [ha,cond_false] at h
        cases hb:bitB m r.length with
        | true=>rw [hb,cond_true] at h;exact ⟨.inr rfl,h⟩
        | false=>rw [hb] at h;cases h
    by_cases e:i=r.length
    · subst e
      have e1:r.length+1-1-r.length=0:=by omega
      rw [e1,List.getElem?_cons_zero,Option.some.injEq] at ht
      subst ht
      exact h'.1.symm
    · have e1:r.length+1-1-i=(r.length-1-i)+1:=by omega
      rw [e1,List.getElem?_cons_succ] at ht
      exact sepU_ok h'.2 i t (by omega) ht
theorem sepAll_ok:∀ {r:List Tc} {ms:List Nat},r.length=ms.length→sepAll r ms=true→∀ i j t u m,i<j→j<r.length→r[r.length-1-i]?=some t→r[r.length-1-j]?=some u→ms[ms.length-1-j]?=some m→bitB m i=true∨sepT t u=true
  | [],_,_,_,i,j,t,u,m,_,hj,_,_,_=>by simp at hj
  | x::r,[],hl,_,_,_,_,_,_,_,_,_,_,_=>by simp at hl
  | x::r,y::ms,hl,h,i,j,t,u,m,hij,hj,ht,hu,hm=>by
    simp only [sepAll,Bool.and_eq_true] at h
    obtain ⟨h1,h2⟩:=h
    rw [llen_eq] at h1
    simp only [List.length_cons] at hj ht hu hm hl
    have hl':r.length=ms.length:=by omega
    have ei:r.length+1-1-i=(r.length-1-i)+1:=by omega
    rw [ei,List.getElem?_cons_succ] at ht
    by_cases e:j=r.length
    · subst e
      have e1:r.length+1-1-r.length=0:=by omega
      rw [e1,List.getElem?_cons_zero,Option.some.injEq] at hu
      rw [← hl',e1,List.getElem?_cons_zero,Option.some.injEq] at hm
      subst hu;subst hm
      exact sepU_ok h1 i t (by omega) ht
    · have e1:r.length+1-1-j=(r.length-1-j)+1:=by omega
      rw [e1,List.getElem?_cons_succ] at hu
      rw [← hl',e1,List.getElem?_cons_succ] at hm
      rw [hl'] at hm
      exact sepAll_ok hl' h2 i j t u m hij (by omega) ht hu hm
theorem allQ_ok:∀ {l:List Tc},allQ l=true→∀ t∈l,t.q=true
  | [],_,t,ht=>by cases ht
  | x::r,h,t,ht=>by
    simp only [allQ] at h
    split at h
    · rename_i hq
      rcases List.mem_cons.1 ht with rfl | ht
      · exact hq
      · exact allQ_ok h t ht
    · cases h
theorem memb_no {x:Nat}:∀ {l:List Nat},memb x l=false→x ∉ l
  | [],_,hx=>by cases hx
  | y::r,h,hx=>by
    simp only [memb] at h
    cases hb:Nat.beq x y with
    | true=>rw [hb] at h;cases h
    | false =>
      rw [hb,cond_false] at h
      rcases List.mem_cons.1 hx with rfl | hx
      · rw [Nat.beq_refl] at hb;cases hb
      · exact memb_no h hx
theorem disj_ok:∀ {l m:List Nat},disj l m=true→∀ x∈l,x ∉ m
  | [],_,_,x,hx=>by cases hx
  | y::r,m,h,x,hx=>by
    simp only [disj] at h
    cases hb:memb y m with
    | true=>rw [hb] at h;cases h
    | false =>
      rw [hb,cond_false] at h
      rcases List.mem_cons.1 hx with rfl | hx
      · exact memb_no hb
      · exact disj_ok h x hx
theorem outR_ok {a b:Nat}:∀ {l:List Nat},outR a b l=true→∀ x∈l,¬ (a≤x∧x<b)
  | [],_,x,hx=>by cases hx
  | y::r,h,x,hx=>by
    simp only [outR] at h
    cases hb:(Nat.ble a y&&Nat.blt y b) with
    | true=>rw [hb] at h;cases h
    | false =>
      rw [hb,cond_false] at h
      rcases List.mem_cons.1 hx with rfl | hx
      · intro ⟨h1,h2⟩
        rw [Nat.ble_eq.mpr h1,Nat.blt_eq.mpr h2] at hb
        cases hb
      · exact outR_ok h x hx
theorem sepT_ok {t u:Tc} (h:sepT t u=true):(t.q=true∧u.q=true)∨((∀ x∈t.W,x ∉ u.R)∧(∀ x∈t.W,x ∉ u.W)∧(∀ x∈t.R,x ∉ u.W)∧∀ x∈u.R,¬ (t.a≤x∧x<t.b)):=by
  have hf:sepF t u=true→(∀ x∈t.W,x ∉ u.R)∧(∀ x∈t.W,x ∉ u.W)∧(∀ x∈t.R,x ∉ u.W)∧∀ x∈u.R,¬ (t.a≤x∧x<t.b):=by
    intro h
    unfold sepF at h
    simp only [Bool.and_eq_true] at h
    exact ⟨disj_ok h.1.1.1,disj_ok h.1.1.2,disj_ok h.1.2,outR_ok h.2⟩
  unfold sepT at h
  split at h
  · rename_i h1
    split at h
    · rename_i h2;exact .inl ⟨h1,h2⟩
    · exact .inr (hf h)
  · exact .inr (hf h)
theorem insAllK_eq {β:Type} {b:Nat}:∀ {l R:List Nat} {k:List Nat→β},∃ R',insAllK b l R k=k R'∧(∀ x∈R,x∈R')∧∀ x∈l,x∈R'∨b≤x
  | [],R,k=>⟨R,rfl,fun _ h=>h,fun x hx=>by cases hx⟩
  | y::l,R,k=>by
    simp only [insAllK,insK_eq]
    obtain ⟨R',h1,h2,h3⟩:=insAllK_eq (b:=b) (l:=l) (R:=ins b y R) (k:=k)
    refine ⟨R',h1,fun x hx=>h2 x (ins_sub _ _ _ x hx),fun x hx=>?_⟩
    rcases List.mem_cons.1 hx with rfl | hx
    · rcases ins_has b x R with h | h
      · exact .inl (h2 _ h)
      · exact .inr h
    · exact h3 x hx
theorem tellK_eq {β:Type} {b:Nat}:∀ {ts:List Tc} {R W:List Nat} {k:List Nat→List Nat→β},∃ R' W',tellK b ts R W k=k R' W'∧(∀ x∈R,x∈R')∧(∀ x∈W,x∈W')∧∀ t∈ts,(∀ x∈t.R,x∈R'∨b≤x)∧∀ x∈t.W,x∈W'∨b≤x
  | [],R,W,k=>⟨R,W,rfl,fun _ h=>h,fun _ h=>h,fun t ht=>by cases ht⟩
  | t::ts,R,W,k=>by
    simp only [tellK]
    obtain ⟨R1,h1,h2,h3⟩:=insAllK_eq (b:=b) (l:=t.R) (R:=R) (k:=fun R'=>insAllK b t.W W fun W'=>tellK b ts R' W' k)
    obtain ⟨W1,g1,g2,g3⟩:=insAllK_eq (b:=b) (l:=t.W) (R:=W) (k:=fun W'=>tellK b ts R1 W' k)
    obtain ⟨R2,W2,e1,e2,e3,e4⟩:=tellK_eq (b:=b) (ts:=ts) (R:=R1) (W:=W1) (k:=k)
    refine ⟨R2,W2,by rw [h1,g1,e1],fun x hx=>e2 x (h2 x hx),fun x hx=>e3 x (g2 x hx),fun t' ht=>?_⟩
    rcases List.mem_cons.1 ht with rfl | ht
    · refine ⟨fun x hx=>?_,fun x hx=>?_⟩
      · rcases h3 x hx with q | q
        · exact .inl (e2 x q)
        · exact .inr q
      · rcases g3 x hx with q | q
        · exact .inl (e3 x q)
        · exact .inr q
    · exact e4 t' ht
end
end Go.TX
namespace Go.TX
open Go Go.TH
noncomputable section
variable {P:Program} {D:Nat→Prop} {ρ0 ρ ρ':Ren} {w0 w w':World} {st:St}
theorem Step.before {T Ht:Tr SO} {nE x0:Nat} {Rf Wf Rt:List Nat} (hI:Step ρ0 ρ D st ⟨T,nE,st.base,Rf,Wf⟩ w0 w)
 (hR:∀ x∈Rt,x<x0→T.get x=Ht.get x) (hRf:∀ x∈Rt,x∈Rf∨st.base≤x) (hD0:∀ x,x∈Rf∨st.base≤x→D x) (hHl:∀ x,Ht.get x≠none→x<x0) :
 Sim ρ (fun x=>x∈Rt∨x0≤x) ⟨Ht,x0,x0,[],[]⟩ w:=by
 have h1:∀ x,(x∈Rt∨x0≤x)→Ht.get x≠none→x∈Rt∧T.get x=Ht.get x∧(D x∨st.nx≤x):=by
  intro x d g
  have hl:=hHl x g
  have hr:x∈Rt:=d.resolve_right (by omega)
  exact ⟨hr,hR x hr hl,.inl (hD0 x (hRf x hr))⟩
 refine ⟨?_,?_,hHl⟩
 ·intro x o d g
  have g:Ht.get x=some o:=g
  obtain ⟨_,h2,h3⟩:=h1 x d (by rw [g];simp)
  exact hI.sim.live x o h3 (by show T.get x=some o;rw [h2,g])
 ·intro x y b s s' dx dy gx gy hx hy
  obtain ⟨_,h2,h3⟩:=h1 x dx gx
  obtain ⟨_,h4,h5⟩:=h1 y dy gy
  exact hI.sim.inj x y b s s' h3 h5 (by show T.get x≠none;rw [h2];exact gx) (by show T.get y≠none;rw [h4];exact gy) hx hy
theorem Step.behind {T T' Ht hq:Tr SO} {nE x0 x1 b':Nat} {Rf Wf Rt Wt:List Nat} (hI:Step ρ0 ρ D st ⟨T,nE,st.base,Rf,Wf⟩ w0 w)
 (hop:Step ρ ρ' (fun x=>x∈Rt∨x0≤x) ⟨Ht,x0,x0,[],[]⟩ ⟨hq,x1,b',Rt,Wt⟩ w w') (hx0:st.nx≤x0) (hx1:x1≤nE)
 (hR:∀ x∈Rt,x<x0→T.get x=Ht.get x) (hWR:∀ x∈Wt,x∈Rt) (hWl:∀ x∈Wt,x<x0) (hRf:∀ x∈Rt,x∈Rf∨st.base≤x) (hWf:∀ x∈Wt,x∈Wf∨st.base≤x)
 (hD0:∀ x,x∈Rf∨st.base≤x→D x) (hfree:∀ x,x0≤x→x<x1→ρ x=none) (hHl:∀ x,Ht.get x≠none→x<x0)
 (hTa:∀ x,(x∈Wt∨(x0≤x∧x<x1))→T'.get x=hq.get x) (hTb:∀ x,¬ (x∈Wt∨(x0≤x∧x<x1))→T'.get x=T.get x) :
 Step ρ0 ρ' D st ⟨T',nE,st.base,Rf,Wf⟩ w0 w':=by
 have hle:ρ.Le ρ':=hop.le (fun x h1 h2=>hfree x h1 h2)
 have hTH:∀ x∈Wt,T.get x=Ht.get x:=fun x hx=>hR x (hWR x hx) (hWl x hx)
 have hdead:∀ x∈Wt,T.get x=none→hq.get x=none:=fun x hx hn=>hop.dead x (hWl x hx) (by show Ht.get x=none;rw [← hTH x hx];exact hn)
 have hgone:∀ x,x<x0→T.get x=none→T'.get x=none:=by
  intro x hx hn
  by_cases h:x∈Wt
  ·rw [hTa x (.inl h)];exact hdead x h hn
  ·rw [hTb x (by rintro (q | q);exact h q;omega)];exact hn
 have hext:∀ x,¬ (x0≤x∧x<x1)→ρ' x=ρ x:=fun x hx=>hop.ext x (by
  show x<x0∨x1≤x
  omega)
 have hkeep:∀ b,b<w.heap.size→w'.heap[b]?=w.heap[b]?∨∃ x s,ρ x=some (b,s)∧x∈Wt∧T.get x≠none:=by
  intro b hb
  rcases hop.keep b hb with e | ⟨x,s,e1,e2,e3,e4⟩
  ·exact .inl e
  ·have hl:=hHl x e3
   have hw:x∈Wt:=e4.resolve_right (by show ¬ x0≤x;omega)
   exact .inr ⟨x,s,e1,hw,by rw [hTH x hw];exact e3⟩
 have hfresh:∀ x b s,x0≤x→hq.get x≠none→ρ' x=some (b,s)→w.heap.size≤b∨∃ z s',z∈Wt∧ρ z=some (b,s')∧T.get z≠none∧hq.get z=none:=by
  intro x b s hx hg hr
  rcases hop.fresh x b s hx hg hr with e | ⟨z,s',e1,e2,e3,e4,e5,e6⟩
  ·exact .inl e
  ·have hl:=hHl z e4
   have hw:z∈Wt:=e6.resolve_right (by show ¬ x0≤z;omega)
   exact .inr ⟨z,s',hw,e2,by rw [hTH z hw];exact e4,e5⟩
 have hDx:∀ x∈Wt,D x:=fun x hx=>hD0 x (hRf x (hWR x hx))
 refine ⟨hop.os.trans hI.os,hop.tape.trans hI.tape,hop.output.trans hI.output,Nat.le_trans hI.size hop.size,hI.nx,rfl,hI.sR,hI.sW,?_,?_,?_,?_,?_,?_⟩
 ·intro x hx
  have hx':x<st.nx∨nE≤x:=hx
  rw [hext x (by omega)]
  exact hI.ext x hx
 ·intro b hb
  rcases hkeep b (Nat.lt_of_lt_of_le hb hI.size) with e | ⟨x,s,e1,e2,e3⟩
  ·rcases hI.keep b hb with e' | ⟨x,s,e1,e2,e3,e4⟩
   ·exact .inl (e.trans e')
   ·exact .inr ⟨x,s,e1,e2,e3,e4⟩
  ·by_cases hx:x<st.nx
   ·refine .inr ⟨x,s,?_,hDx x e2,fun hn=>e3 (hI.dead x hx hn),hWf x e2⟩
    rw [← hI.ext x (.inl hx)];exact e1
   ·rcases hI.fresh x b s (by omega) e3 e1 with e5 | ⟨z,s',g1,g2,g3,g4,g5,g6⟩
    ·omega
    ·exact .inr ⟨z,s',g2,g3,g4,g6⟩
 ·intro x hx hn
  exact hgone x (by omega) (hI.dead x hx hn)
 ·intro x hx
  by_cases h:x∈Wt
  ·exact .inl (hWf x h)
  ·rcases hI.same x hx with e | e
   ·exact .inl e
   ·right
    show T'.get x=_
    rw [hTb x (by rintro (q | q);exact h q;omega)];exact e
 ·intro x b s hx hg hr
  have hg:T'.get x≠none:=hg
  by_cases hr1:x0≤x∧x<x1
  ·rw [hTa x (.inr hr1)] at hg
   rcases hfresh x b s hr1.1 hg hr with e | ⟨z,s',e1,e2,e3,e4⟩
   ·exact .inl (Nat.le_trans hI.size e)
   ·by_cases hz:z<st.nx
    ·refine .inr ⟨z,s',hz,by rw [← hI.ext z (.inl hz)];exact e2,hDx z e1,fun hn=>e3 (hI.dead z hz hn),?_,hWf z e1⟩
     show T'.get z=none
     rw [hTa z (.inl e1)];exact e4
    ·rcases hI.fresh z b s' (by omega) e3 e2 with e5 | ⟨y,s2,f1,f2,f3,f4,f5,f6⟩
     ·exact .inl e5
     ·exact .inr ⟨y,s2,f1,f2,f3,f4,hgone y (by omega) f5,f6⟩
  ·have hgT:T.get x≠none:=by
    by_cases h:x∈Wt
    ·rw [hTa x (.inl h)] at hg
     exact fun hn=>hg (hdead x h hn)
    ·rw [hTb x (by rintro (q | q);exact h q;exact hr1 q)] at hg;exact hg
   rw [hext x hr1] at hr
   rcases hI.fresh x b s hx hgT hr with e5 | ⟨y,s2,f1,f2,f3,f4,f5,f6⟩
   ·exact .inl e5
   ·exact .inr ⟨y,s2,f1,f2,f3,f4,hgone y (by omega) f5,f6⟩
 ·
  have hold:∀ x,¬ (x∈Wt∨(x0≤x∧x<x1))→∀ o,T.get x=some o→(D x∨st.nx≤x)→∃ b s ob,ρ x=some (b,s)∧w.heap[b]?=some ob∧ORel ρ s o ob∧b<w.heap.size∧w'.heap[b]?=w.heap[b]?:=by
   intro x hx o ho d
   obtain ⟨b,s,ob,e1,e2,e3⟩:=hI.sim.live x o d ho
   have hb:=(Array.getElem?_eq_some_iff.1 e2).1
   refine ⟨b,s,ob,e1,e2,e3,hb,?_⟩
   rcases hkeep b hb with e | ⟨y,s',f1,f2,f3⟩
   ·exact e
   ·have:=hI.sim.inj x y b s s' d (.inl (hDx y f2)) (by show T.get x≠none;rw [ho];simp) f3 e1 f1
    subst this
    exact absurd (.inl f2) hx
  refine ⟨?_,?_,?_⟩
  ·intro x o d g
   have g:T'.get x=some o:=g
   by_cases hx:x∈Wt∨(x0≤x∧x<x1)
   ·rw [hTa x hx] at g
    exact hop.sim.live x o (by rcases hx with q | q;exact .inl (.inl (hWR x q));exact .inr q.1) g
   ·rw [hTb x hx] at g
    obtain ⟨b,s,ob,e1,e2,e3,e4,e5⟩:=hold x hx o g d
    exact ⟨b,s,ob,hle _ _ e1,by rw [e5];exact e2,e3.mono hle⟩
  ·have mix:∀ x y b s s',(x∈Wt∨(x0≤x∧x<x1))→¬ (y∈Wt∨(x0≤y∧y<x1))→(D y∨st.nx≤y)→T'.get x≠none→T'.get y≠none→ρ' x=some (b,s)→ρ' y=some (b,s')→False:=by
    intro x y b s s' hx hy dy gx gy ex ey
    rw [hTb y hy] at gy
    rw [hext y (fun q=>hy (.inr q))] at ey
    obtain ⟨o,ho⟩:=Option.ne_none_iff_exists'.1 gy
    obtain ⟨b2,s2,ob,e1,e2,e3,e4,e5⟩:=hold y hy o ho dy
    rw [ey] at e1;cases e1
    rw [hTa x hx] at gx
    by_cases hxw:x∈Wt
    ·rw [hext x (fun q=>by have:=hWl x hxw;omega)] at ex
     have hxT:T.get x≠none:=fun hn=>gx (hdead x hxw hn)
     have:=hI.sim.inj x y b s s' (.inl (hDx x hxw)) dy hxT gy ex ey
     subst this
     exact hy hx
    ·have hxr:=hx.resolve_left hxw
     rcases hfresh x b s hxr.1 gx ex with e | ⟨z,s3,f1,f2,f3,f4⟩
     ·omega
     ·have:=hI.sim.inj z y b s3 s' (.inl (hDx z f1)) dy f3 gy f2 ey
      subst this
      exact hy (.inl f1)
   intro x y b s s' dx dy gx gy ex ey
   have gx:T'.get x≠none:=gx
   have gy:T'.get y≠none:=gy
   by_cases hx:x∈Wt∨(x0≤x∧x<x1) <;> by_cases hy:y∈Wt∨(x0≤y∧y<x1)
   ·rw [hTa x hx] at gx
    rw [hTa y hy] at gy
    exact hop.sim.inj x y b s s' (by rcases hx with q | q;exact .inl (.inl (hWR x q));exact .inr q.1) (by rcases hy with q | q;exact .inl (.inl (hWR y q));exact .inr q.1) gx gy ex ey
   ·exact (mix x y b s s' hx hy dy gx gy ex ey).elim
   ·exact (mix y x b s' s hy hx dx gy gx ey ex).elim
   ·rw [hTb x hx] at gx
    rw [hTb y hy] at gy
    rw [hext x (fun q=>hx (.inr q))] at ex
    rw [hext y (fun q=>hy (.inr q))] at ey
    exact hI.sim.inj x y b s s' dx dy gx gy ex ey
  ·intro x hg
   have hg:T'.get x≠none:=hg
   show x<nE
   by_cases hx:x∈Wt∨(x0≤x∧x<x1)
   ·rcases hx with q | q
    ·have hTx:T.get x≠none:=fun hn=>hg (by rw [hTa x (.inl q)];exact hdead x q hn)
     exact hI.sim.lt x hTx
    ·omega
   ·rw [hTb x hx] at hg
    exact hI.sim.lt x hg
end
end Go.TX
namespace Go.TX
open Go Go.TH
noncomputable section
variable {P:Program} {sm:Sums} {rec:Rec} {D:Nat→Prop} {ρ ρ':Ren} {w w':World} {st st':St} {env env2:Tr SV}
theorem svOps_congr:∀ {l:List Operand},(∀ x∈l,svOp env x=svOp env2 x)→svOps env l=svOps env2 l
 | [],_=>rfl
 | x::l,h=>by simp only [svOps];rw [h x (by simp),svOps_congr fun y hy=>h y (by simp [hy])]
theorem svParts_congr:∀ {l:List (Nat × Operand)},(∀ x∈l,svOp env x.2=svOp env2 x.2)→svParts env l=svParts env2 l
 | [],_=>rfl
 |(i,x)::l,h=>by simp only [svParts];rw [h (i,x) (by simp),svParts_congr fun y hy=>h y (by simp [hy])]
theorem optMap_congr {o:Option Operand} (h:∀ x∈o.toArray,svOp env x=svOp env2 x):o.map (svOp env)=o.map (svOp env2):=by
 cases o with
 | none=>rfl
 | some x=>simp only [Option.map_some];rw [h x (by simp)]
theorem opS_congr {op:Op} (h:∀ x∈op.operands,svOp env x=svOp env2 x):opS P env op st=opS P env2 op st:=by
 cases op
 case build T ps =>
  simp only [opS]
  rw [svParts_congr (env:=env) (env2:=env2) fun x hx=>h x.2 (by simp only [Op.operands];simp only [List.mem_toArray,List.mem_map];exact ⟨x,hx,rfl⟩)]
 case buildSlice T n ps =>
  simp only [opS]
  rw [svParts_congr (env:=env) (env2:=env2) fun x hx=>h x.2 (by simp only [Op.operands];simp only [List.mem_toArray,List.mem_map];exact ⟨x,hx,rfl⟩)]
 case makeFunc f xs ys =>
  simp only [opS]
  rw [svOps_congr (env:=env) (env2:=env2) (l:=xs.toList) fun x hx=>h x (by simp only [Op.operands,Array.mem_append];exact .inl (Array.mem_toList_iff.1 hx)),
   svOps_congr (env:=env) (env2:=env2) (l:=ys.toList) fun x hx=>h x (by simp only [Op.operands,Array.mem_append];exact .inr (Array.mem_toList_iff.1 hx))]
 case slice T x lo hi mx =>
  simp only [opS]
  have e1:=h x (by simp [Op.operands])
  rw [e1,optMap_congr (o:=lo) fun y hy=>h y (by simp only [Op.operands,Array.mem_append];exact .inl (.inl (.inr hy))),
   optMap_congr (o:=hi) fun y hy=>h y (by simp only [Op.operands,Array.mem_append];exact .inl (.inr hy)),
   optMap_congr (o:=mx) fun y hy=>h y (by simp only [Op.operands,Array.mem_append];exact .inr hy)]
 all_goals
  simp only [opS]
  try rfl
  try simp only [Op.operands,List.mem_toArray,List.mem_cons,List.not_mem_nil,or_false,forall_eq_or_imp,forall_eq] at h
  try simp only [h]
theorem exO_congr {o:Oper} (h:∀ x∈o.op.operands,svOp env x=svOp env2 x):exO P sm rec env o st=exO P sm rec env2 o st:=by
 obtain ⟨dst,op,ty,pos,af,g⟩:=o
 cases op with
 | call c =>
  obtain ⟨callee,args,ats⟩:=c
  have ha:svOps env args.toList=svOps env2 args.toList:=svOps_congr fun x hx=>h x (by
   simp only [Op.operands,Call.operands,Array.mem_append];exact .inr (Array.mem_toList_iff.1 hx))
  cases callee with
  | builtin b=>simp only [exO];rw [ha]
  | value f =>
   have hf:=h f (by simp [Op.operands,Call.operands])
   simp only [exO]
   rw [ha,hf]
  | invoke r n=>rfl
 | next x s =>
  cases s with
  | true=>rfl
  | false=>simp only [exO];rw [h x (by simp [Op.operands])]
 | _=>simp only [exO];rw [opS_congr h]
theorem look_op {ops:Array Oper} {o:Oper} (h:∀ d∈o.looksAt ops,env.get d=env2.get d):∀ x∈o.op.operands,svOp env x=svOp env2 x:=by
 intro x hx
 cases x with
 | tmp t =>
  have:t∈o.looksAt ops:=by
   unfold Oper.looksAt
   rw [List.mem_append]
   left
   rw [List.mem_filterMap]
   exact ⟨.tmp t,Array.mem_toList_iff.2 hx,rfl⟩
  simp only [svOp,h t this]
 | const v=>rfl
 | global g=>rfl
 | func f=>rfl
theorem wantS_congr {l:List Oper} {o:Oper} (h:∀ d∈o.looksAt l.toArray,env.get d=env2.get d):wantS l env o=wantS l env2 o:=by
 unfold wantS
 cases hg:o.guard with
 | none=>rfl
 | some p =>
  obtain ⟨j,want⟩:=p
  simp only
  cases hn:nth l j with
  | none=>rfl
  | some oj =>
   simp only
   cases hd:oj.dst with
   | none=>rfl
   | some d =>
    have:d∈o.looksAt l.toArray:=by
     unfold Oper.looksAt
     rw [List.mem_append]
     right
     rw [hg]
     rw [nth_eq] at hn
     simp [hn,hd]
    simp only [h d this]
theorem wantS_ok {l:List Oper} {o:Oper} {b:Bool} {N:Nat} {a:Act} (he:EnvR ρ N env a.tmps) (h:wantS l env o=some b):Region.wanted o (yielded l.toArray a.tmps)=b:=by
 unfold wantS at h
 unfold Region.wanted
 cases hg:o.guard with
 | none=>rw [hg] at h;simp only [Option.some.injEq] at h;exact h
 | some p =>
  obtain ⟨j,want⟩:=p
  rw [hg] at h
  simp only at h ⊢
  cases hn:nth l j with
  | none=>rw [hn] at h;cases h
  | some oj =>
   rw [hn] at h
   simp only at h
   cases hd:oj.dst with
   | none=>rw [hd] at h;cases h
   | some d =>
    rw [hd] at h
    simp only at h
    have hr:=he.2 d
    rw [nth_eq] at hn
    have hy:yielded l.toArray a.tmps j=match a.tmps.getD d undef with | .bool b=>some b | _=>none:=by
     unfold yielded
     rw [Array.getD_eq_getD_getElem?]
     cases ht:a.tmps[d]? with
     | none=>simp [hn,hd,ht];rfl
     | some u=>cases u <;> simp [hn,hd,ht]
    rw [hy]
    cases he2:env.get d with
    | none=>rw [he2] at h;cases h
    | some s =>
     rw [he2] at h hr
     simp only [Option.getD_some] at hr
     cases s <;> simp only at h <;> try (cases h;done)
     ·rename_i v
      rw [Rel] at hr
      rw [hr]
      cases v <;> simp only [Option.some.injEq] at h <;> subst h
      case bool b'=>cases b' <;> cases want <;> rfl
      all_goals rfl
     ·rename_i l'
      simp only [Option.some.injEq] at h
      subst h
      rw [Rel] at hr
      obtain ⟨us,_,hr⟩:=hr
      rw [hr]
      rfl
def PutR (N:Nat) (env:Tr SV) (dst:Option Tmp) (v:SV) (env':Tr SV):Prop:=(∀ d,dst=some d→d<N)∧env'=match dst with | none=>env | some d=>env.set d (some v)
theorem putK_some {β:Type} {N:Nat} {d:Option Tmp} {v:SV} {k:Tr SV→Option β} {r:β} (h:putK N env d v k=some r):∃ env',PutR N env d v env'∧k env'=some r:=by
 unfold putK at h
 cases d with
 | none=>exact ⟨env,⟨(fun d hd=>by cases hd),rfl⟩,h⟩
 | some d =>
  simp only at h
  have hb:=(bif_of h).1
  replace h:=(bif_of h).2
  rw [Tr.setK_eq] at h
  exact ⟨_,⟨fun d' hd=>by cases hd;exact Nat.blt_eq.mp hb,rfl⟩,h⟩
theorem PutR.envR {N:Nat} {d:Option Tmp} {v:SV} {env':Tr SV} {a:Act} {u:Value} (h:PutR N env d v env') (he:EnvR ρ N env a.tmps) (hv:Rel ρ v u):EnvR ρ N env' (a.put d u).tmps:=by
 obtain ⟨h1,rfl⟩:=h
 cases d with
 | none=>exact he
 | some d=>exact he.put (h1 d rfl) hv
theorem PutR.other {N:Nat} {d:Option Tmp} {v:SV} {env':Tr SV} (h:PutR N env d v env') {t:Nat} (ht:¬ d=some t):env'.get t=env.get t:=by
 obtain ⟨h1,rfl⟩:=h
 cases d with
 | none=>rfl
 | some d=>show (env.set d (some v)).get t=_;rw [Tr.get_set,if_neg (fun e=>ht (by rw [e]))]
theorem PutR.at {N:Nat} {d:Nat} {v:SV} {env':Tr SV} (h:PutR N env (some d) v env'):env'.get d=some v:=by
 obtain ⟨h1,rfl⟩:=h
 show (env.set d (some v)).get d=_
 rw [Tr.get_set,if_pos rfl]
structure StepR (P:Program) (sm:Sums) (rec:Rec) (N:Nat) (ops:List Oper) (o:Oper) (E:Tr SV) (H:Tr SO) (X:Nat) (T:Tc) (E':Tr SV) (H':Tr SO) (X':Nat):Prop where
 a:T.a=X
 b:T.b=X'
 le:X≤X'
 wr:∀ x∈T.W,x∈T.R
 wl:∀ x∈T.W,x<X
 q:T.q=true→T.W=[]∧X'=X
 out:∀ x,¬ (x∈T.W∨(X≤x∧x<X'))→H'.get x=H.get x
 eo:∀ t,¬ o.dst=some t→E'.get t=E.get t
 is:(wantS ops E o=some false∧T.W=[]∧X'=X∧PutR N E o.dst (.raw undef) E') ∨
  (wantS ops E o=some true∧∃ v hq b,exO P sm rec E o ⟨H,X,X,[],[]⟩=some [(v,⟨hq,X',b,T.R,T.W⟩)]∧(∀ x,(x∈T.W∨(X≤x∧x<X'))→H'.get x=hq.get x)∧PutR N E o.dst v E')
theorem mrgK_some {β:Type} {h':Tr SO}:∀ {l:List Nat} {h:Tr SO} {k:Tr SO→Option β} {r:β},mrgK h' l h k=some r→∃ h2,k h2=some r∧(∀ x∈l,h2.get x=h'.get x)∧∀ x,x ∉ l→h2.get x=h.get x
 | [],h,k,r,hh=>⟨h,hh,(fun x hx=>by cases hx),fun _ _=>rfl⟩
 | y::l,h,k,r,hh=>by
  have hh:mrgK h' l (h.set y (h'.get y)) k=some r:=by
   simp only [mrgK] at hh
   split at hh
   ·rename_i o ho;rw [Tr.setK_eq] at hh;rw [ho];exact hh
   ·rename_i ho;rw [Tr.setK_eq] at hh;rw [ho];exact hh
  obtain ⟨h2,e1,e2,e3⟩:=mrgK_some hh
  refine ⟨h2,e1,fun x hx=>?_,fun x hx=>?_⟩
  ·by_cases hl:x∈l
   ·exact e2 x hl
   ·rcases List.mem_cons.1 hx with rfl | hx
    ·rw [e3 x hl,Tr.get_set,if_pos rfl]
    ·exact absurd hx hl
  ·rw [List.mem_cons,not_or] at hx
   rw [e3 x hx.2,Tr.get_set,if_neg hx.1]
theorem rngK_some {β:Type} {h':Tr SO}:∀ {n y:Nat} {h:Tr SO} {k:Tr SO→Option β} {r:β},rngK h' n y h k=some r→∃ h2,k h2=some r∧(∀ x,y≤x→x<y+n→h2.get x=h'.get x)∧∀ x,¬ (y≤x∧x<y+n)→h2.get x=h.get x
 | 0,y,h,k,r,hh=>⟨h,hh,fun x h1 h2=>by omega,fun _ _=>rfl⟩
 | n+1,y,h,k,r,hh=>by
  have hh:rngK h' n (y+1) (h.set y (h'.get y)) k=some r:=by
   simp only [rngK] at hh
   split at hh
   ·rename_i o ho;rw [Tr.setK_eq,natK_eq] at hh;rw [ho];exact hh
   ·rename_i ho;rw [Tr.setK_eq,natK_eq] at hh;rw [ho];exact hh
  obtain ⟨h2,e1,e2,e3⟩:=rngK_some hh
  refine ⟨h2,e1,fun x h3 h4=>?_,fun x hx=>?_⟩
  ·by_cases e:x=y
   ·subst e;rw [e3 x (by omega),Tr.get_set,if_pos rfl]
   ·exact e2 x (by omega) (by omega)
  ·rw [e3 x (by omega),Tr.get_set,if_neg (by omega)]
theorem okW_ok {nx:Nat} {R:List Nat}:∀ {l:List Nat},okW nx R l=true→∀ x∈l,x<nx∧x∈R
 | [],_,x,hx=>by cases hx
 | y::l,h,x,hx=>by
  simp only [okW] at h
  cases h1:Nat.blt y nx with
  | false=>rw [h1] at h;cases h
  | true =>
   rw [h1,cond_true] at h
   cases h2:memb y R with
   | false=>rw [h2] at h;cases h
   | true =>
    rw [h2,cond_true] at h
    rcases List.mem_cons.1 hx with rfl | hx
    ·exact ⟨Nat.blt_eq.mp h1,memb_mem h2⟩
    ·exact okW_ok h x hx
theorem quietB_ok {W:List Nat} {a b:Nat} (h:quietB W a b=true):W=[]∧b=a:=by
 cases W with
 | nil=>exact ⟨rfl,(Nat.eq_of_beq_eq_true h).symm⟩
 | cons x r=>cases h
theorem exR_seq {N:Nat} {ops:List Oper}:∀ {l:List Oper} {env:Tr SV} {h:Tr SO} {nx:Nat} {acc:List Tc} {env':Tr SV} {h':Tr SO} {nx':Nat} {acc':List Tc},exR P sm rec N ops l env h nx acc=some (env',h',nx',acc') →
 ∃ (E:Nat→Tr SV) (H:Nat→Tr SO) (X:Nat→Nat) (T:Nat→Tc),E 0=env∧H 0=h∧X 0=nx∧E l.length=env'∧H l.length=h'∧X l.length=nx'∧acc'=((List.range l.length).map T).reverse++acc ∧
  ∀ (i:Nat) (o:Oper),l[i]?=some o→StepR P sm rec N ops o (E i) (H i) (X i) (T i) (E (i+1)) (H (i+1)) (X (i+1))
 | [],env,h,nx,acc,env',h',nx',acc',hh=>by
  simp only [exR,Option.some.injEq,Prod.mk.injEq] at hh
  obtain ⟨rfl,rfl,rfl,rfl⟩:=hh
  exact ⟨fun _=>env,fun _=>h,fun _=>nx,fun _=>⟨[],[],0,0,true⟩,rfl,rfl,rfl,rfl,rfl,rfl,by simp,fun i o hi=>by simp at hi⟩
 | o::r,env,h,nx,acc,env',h',nx',acc',hh=>by
  have key:∃ env1 h1 nx1 t,StepR P sm rec N ops o env h nx t env1 h1 nx1∧exR P sm rec N ops r env1 h1 nx1 (t::acc)=some (env',h',nx',acc'):=by
   simp only [exR] at hh
   split at hh
   ·rename_i hw
    split at hh
    ·rename_i v st2 he
     obtain ⟨hq,nq,b,R,W⟩:=st2
     simp only [endK] at hh
     cases hqt:quietB W nx nq with
     | true =>
      rw [hqt,cond_true] at hh
      obtain ⟨env1,p1,hh⟩:=putK_some hh
      obtain ⟨rfl,rfl⟩:=quietB_ok hqt
      exact ⟨env1,h,nq,_,⟨rfl,rfl,Nat.le_refl _,(fun x hx=>by cases hx),(fun x hx=>by cases hx),fun _=>⟨rfl,rfl⟩,fun _ _=>rfl,fun t ht=>p1.other ht,.inr ⟨hw,v,hq,b,he,(fun x hx=>by rcases hx with q | q;cases q;omega),p1⟩⟩,hh⟩
     | false =>
      rw [hqt,cond_false] at hh
      have hle:=Nat.ble_eq.mp (bif_of hh).1
      replace hh:=(bif_of hh).2
      have hok:=okW_ok (bif_of hh).1
      replace hh:=(bif_of hh).2
      obtain ⟨h1,hh,e1,e2⟩:=mrgK_some hh
      obtain ⟨h2,hh,e3,e4⟩:=rngK_some hh
      obtain ⟨env1,p1,hh⟩:=putK_some hh
      refine ⟨env1,h2,nq,_,⟨rfl,rfl,hle,fun x hx=>(hok x hx).2,fun x hx=>(hok x hx).1,(fun q=>by cases q),fun x hx=>?_,fun t ht=>p1.other ht,.inr ⟨hw,v,hq,b,he,fun x hx=>?_,p1⟩⟩,hh⟩
      ·rw [not_or] at hx
       rw [e4 x (by omega),e2 x hx.1]
      ·by_cases hr:nx≤x∧x<nq
       ·exact e3 x hr.1 (by omega)
       ·rw [e4 x (by omega)];exact e1 x (hx.resolve_right hr)
    ·cases hh
   ·rename_i hw
    obtain ⟨env1,p1,hh⟩:=putK_some hh
    exact ⟨env1,h,nx,_,⟨rfl,rfl,Nat.le_refl _,(fun x hx=>by cases hx),(fun x hx=>by cases hx),fun _=>⟨rfl,rfl⟩,fun _ _=>rfl,fun t ht=>p1.other ht,.inl ⟨hw,rfl,rfl,p1⟩⟩,hh⟩
   ·cases hh
  obtain ⟨env1,h1,nx1,t,s1,hh⟩:=key
  obtain ⟨E,H,X,T,a1,a2,a3,a4,a5,a6,a7,a8⟩:=exR_seq hh
  refine ⟨fun i=>match i with | 0=>env | i+1=>E i,fun i=>match i with | 0=>h | i+1=>H i,fun i=>match i with | 0=>nx | i+1=>X i,fun i=>match i with | 0=>t | i+1=>T i,rfl,rfl,rfl,a4,a5,a6,?_,?_⟩
  ·rw [a7,List.length_cons,List.range_succ_eq_map,List.map_cons,List.map_map,List.reverse_cons,List.append_assoc]
   rfl
  ·intro i o' hi
   cases i with
   | zero =>
    simp only [List.getElem?_cons_zero,Option.some.injEq] at hi
    subst hi
    show StepR P sm rec N ops o env h nx t (E 0) (H 0) (X 0)
    rw [a1,a2,a3];exact s1
   | succ i =>
    simp only [List.getElem?_cons_succ] at hi
    exact a8 i o' hi
end
end Go.TX
namespace Go.TX
open Go Go.TH
noncomputable section
variable {P:Program} {sm:Sums} {rec:Rec}
def OpOK (P:Program) (F:Fence) (N:Nat) (o:Oper) (env:Tr SV) (st:St) (L:List (SV × St)):Prop :=
  ∀ (ρ:Ren) (D:Nat→Prop) (w:World) (a:Act) (K:Act→World→Prop) (Q:Exit→Act→World→Prop),EnvR ρ N env a.tmps→Sim ρ D st w→(∀ p∈L,∀ x,x∈p.2.R∨st.base≤x→D x)→(∀ p∈L,Free ρ st.nx p.2.nx) →
    (∀ p∈L,∀ u w' ρ',Rel ρ' p.1 u→Step ρ ρ' D st p.2 w w'→K (a.put o.dst u) w')→o.wpIn F 0 P a w K Q
structure DInv (l:List Oper) (E:Nat→Tr SV) (H:Nat→Tr SO) (X:Nat→Nat) (T:Nat→Tc) (N:Nat) (ρ0:Ren) (D:Nat→Prop) (st:St) (Rf Wf:List Nat) (w0:World) (a0:Act) (S:Nat→Prop) (a:Act) (w:World):Prop where
  is:∃ (ρ:Ren) (M:Tr SO) (B:Tr SV),(∀ x,M.get x=cur (fun i=>(H i).get) (fun i x=>x∈(T i).W∨(X i≤x∧x<X (i+1))) S l.length x) ∧
    (∀ t,B.get t=cur (fun i=>(E i).get) (fun i t=>(l[i]?).bind (·.dst)=some t) S l.length t)∧EnvR ρ N B a.tmps∧a.defers=a0.defers ∧
    Step ρ0 ρ D st ⟨M,X l.length,st.base,Rf,Wf⟩ w0 w∧∀ i,i<l.length→¬ S i→∀ x,X i≤x→x<X (i+1)→ρ x=none
theorem mono_nat {X:Nat→Nat} {n:Nat} (h:∀ i,i<n→X i≤X (i+1)):∀ {i j:Nat},i≤j→j≤n→X i≤X j:=by
  intro i j hij hj
  induction j with
  | zero => have : i = 0 := by omega
            rw [this];exact Nat.le_refl _
  | succ j ih =>
    by_cases e:i=j+1
    · rw [e];exact Nat.le_refl _
    · exact Nat.le_trans (ih (by omega) (by omega)) (h j (by omega))
theorem exD_ok {F:Fence} (hFn:∀ f,F.fn f) (hm:P.follows .mixedOrders=true) {N id:Nat} {ops:Array Oper} {env env':Tr SV} {st st':St}
    (hO:∀ o env st L,exO P sm rec env o st=some L→OpOK P F N o env st L) (h:exD P sm rec N ops env st=some (env',st'))
    {ρ0:Ren} {D:Nat→Prop} {w0:World} {a0:Act} (he:EnvR ρ0 N env a0.tmps) (hs:Sim ρ0 D st w0) (hD:∀ x,x∈st'.R∨st.base≤x→D x) (hf:Free ρ0 st.nx st'.nx) :
    (Code.region id ops true).wpIn F 0 P (fun e a' w'=>e=.normal∧∃ ρ',a'.defers=a0.defers∧EnvR ρ' N env' a'.tmps∧Step ρ0 ρ' D st st' w0 w') a0 w0:=by
  obtain ⟨l⟩:=ops
  obtain ⟨h0,nx0,bs,R0,W0⟩:=st
  simp only [exD] at h
  have hstat:=(bif_of h).1
  replace h:=(bif_of h).2
  split at h
  case h_2=>cases h
  rename_i envE hE nxE ts hR
  have hsep:=(bif_of h).1
  replace h:=(bif_of h).2
  obtain ⟨Rf,Wf,ht,hRf0,hWf0,htold⟩:=tellK_eq (b:=bs) (ts:=ts) (R:=R0) (W:=W0) (k:=fun R' W'=>some (envE,(⟨hE,nxE,bs,R',W'⟩:St)))
  rw [ht] at h
  simp only [Option.some.injEq,Prod.mk.injEq] at h
  obtain ⟨rfl,rfl⟩:=h
  obtain ⟨E,H,X,T,hE0,hH0,hX0,hEn,hHn,hXn,hts,hst⟩:=exR_seq hR
  have hXs:∀ i,i<l.length→X i≤X (i+1):=fun i hi=>(hst i l[i] (by simp [hi])).le
  have hXm:∀ {i j:Nat},i≤j→j≤l.length→X i≤X j:=fun {i j}=>mono_nat hXs
  simp only [statD,Bool.and_eq_true] at hstat
  obtain ⟨hback,hap⟩:=hstat
  rw [afsAll_eq] at hback
  have hback:∀ (i:Nat) (af:List Nat),(l.map afsL)[i]?=some af→∀ j∈af,j<i:=fun i af hi j hj=>by have:=backAll_ok hback i af hi j hj;omega
  have hmk:Masks (l.map afsL) (cloO l)∧(cloO l).length=l.length:=by
    have:=cloB_ok hback (l.map afsL) [] rfl (fun k m hk=>by simp at hk)
    rw [cloO,afsAll_eq]
    simpa using this
  have hafl:∀ (i:Nat) (o:Oper),l[i]?=some o→(l.map afsL)[i]?=some (afsL o):=fun i o hi=>by simp [hi]
  have hlt1:∀ (i:Nat) (o:Oper),l[i]?=some o→∀ j∈afsL o,j<i:=fun i o hi j hj=>hback i _ (hafl i o hi) j hj
  let Cl:(Nat→Prop)→Prop:=fun S=>∀ i o,l[i]?=some o→S i→∀ j∈afsL o,S j
  have hpair:∀ (S:Nat→Prop),Cl S→∀ (i j:Nat) (o:Oper),i<j→l[j]?=some o→(∀ k∈afsL o,S k)→(S i∨(∃ t,l[i]?=some t∧t.apart l.toArray o=true))∧(S i∨sepT (T i) (T j)=true∨((T i).q=true∧(T j).q=true)):=by
    intro S hS i j o hij hj haf
    have hjl:=(List.getElem?_eq_some_iff.1 hj).1
    have hm0:j<(cloO l).length:=by rw [hmk.2];exact hjl
    have hmj:(cloO l)[(cloO l).length-1-j]?=some ((cloO l)[(cloO l).length-1-j]'(by omega)):=by simp
    have hgood:∀ i,bitB ((cloO l)[(cloO l).length-1-j]'(by omega)) i=true→S i:=hmk.1 j _ hm0 hmj S (fun i af hi hSi k hk=>by
      rw [List.getElem?_map] at hi
      cases hl:l[i]? with
      | none=>rw [hl] at hi;cases hi
      | some o' =>
        rw [hl] at hi
        simp only [Option.map_some,Option.some.injEq] at hi
        subst hi
        exact hS i o' hl hSi k hk) (fun af hi k hk=>by
      rw [hafl j o hj] at hi
      simp only [Option.some.injEq] at hi
      subst hi
      exact haf k hk)
    constructor
    · rw [revK_eq,List.append_nil] at hap
      have hil:i<l.length:=by omega
      have e1:l.reverse[l.reverse.length-1-i]?=some l[i]:=by
        rw [List.getElem?_reverse (by simp;omega)]
        simp only [List.length_reverse]
        have:l.length-1-(l.length-1-i)=i:=by omega
        rw [this];simp [hil]
      have e2:l.reverse[l.reverse.length-1-j]?=some o:=by
        rw [List.getElem?_reverse (by simp;omega)]
        simp only [List.length_reverse]
        have:l.length-1-(l.length-1-j)=j:=by omega
        rw [this];exact hj
      rcases apAll_ok (by rw [List.length_reverse,hmk.2]) hap i j l[i] o _ hij (by simpa using hjl) e1 e2 hmj with q | q
      · exact .inl (hgood i q)
      · exact .inr ⟨l[i],by simp [hil],q⟩
    · have htl:ts.length=l.length:=by rw [hts];simp
      have hget:∀ k,k<l.length→ts[ts.length-1-k]?=some (T k):=by
        intro k hk
        rw [htl,hts,List.append_nil,List.getElem?_reverse (by simp;omega)]
        simp only [List.length_map,List.length_range]
        have:l.length-1-(l.length-1-k)=k:=by omega
        rw [this];simp [hk]
      rw [Bool.or_eq_true] at hsep
      rcases hsep with hq | hq
      · have:=allQ_ok hq
        refine .inr (.inr ⟨this _ (List.mem_of_getElem? (hget i (by omega))),this _ (List.mem_of_getElem? (hget j hjl))⟩)
      · rcases sepAll_ok (by rw [htl,hmk.2]) hq i j (T i) (T j) _ hij (by omega) (hget i (by omega)) (hget j hjl) hmj with q | q
        · exact .inl (hgood i q)
        · exact .inr (.inl q)
  have hTR:∀ i,i<l.length→(∀ x∈(T i).R,x∈Rf∨bs≤x)∧∀ x∈(T i).W,x∈Wf∨bs≤x:=by
    intro i hi
    exact htold (T i) (by rw [hts];simp;exact ⟨i,hi,rfl⟩)
  let tH:Nat→Nat→Prop:=fun i x=>x∈(T i).W∨(X i≤x∧x<X (i+1))
  let tE:Nat→Nat→Prop:=fun i t=>(l[i]?).bind (·.dst)=some t
  have hoH:∀ i,i<l.length→∀ x,¬ tH i x→(H (i+1)).get x=(H i).get x:=fun i hi x hx=>(hst i l[i] (by simp [hi])).out x hx
  have hoE:∀ i,i<l.length→∀ t,¬ tE i t→(E (i+1)).get t=(E i).get t:=fun i hi t ht=>(hst i l[i] (by simp [hi])).eo t (fun q=>ht (by simp [tE,hi,q]))
  have hHl:∀ i,i≤l.length→∀ x,(H i).get x≠none→x<X i:=by
    intro i
    induction i with
    | zero=>intro _ x hx;rw [hH0] at hx;rw [hX0];exact hs.lt x hx
    | succ i ih =>
      intro hi x hx
      by_cases ht:tH i x
      · rcases ht with q | q
        · have:=(hst i l[i] (by simp)).wl x q
          have:=hXs i (by omega)
          omega
        · exact q.2
      · rw [hoH i (by omega) x ht] at hx
        have:=ih (by omega) x hx
        have:=hXs i (by omega)
        omega
  have hsepq:∀ {i j:Nat},i<l.length→j<l.length→(sepT (T i) (T j)=true∨((T i).q=true∧(T j).q=true))→((T i).W=[]∧X (i+1)=X i∧(T j).W=[]∧X (j+1)=X j)∨((∀ x∈(T i).W,x ∉ (T j).R)∧(∀ x∈(T i).W,x ∉ (T j).W)∧(∀ x∈(T i).R,x ∉ (T j).W)∧∀ x∈(T j).R,¬ (X i≤x∧x<X (i+1))):=by
    intro i j hi hj h
    have si:=hst i l[i] (by simp [hi])
    have sj:=hst j l[j] (by simp [hj])
    have hq:((T i).q=true∧(T j).q=true)→(T i).W=[]∧X (i+1)=X i∧(T j).W=[]∧X (j+1)=X j:=fun q=>⟨(si.q q.1).1,(si.q q.1).2,(sj.q q.2).1,(sj.q q.2).2⟩
    rcases h with h | h
    · rcases sepT_ok h with q | ⟨q1,q2,q3,q4⟩
      · exact .inl (hq q)
      · rw [si.a,si.b] at q4
        exact .inr ⟨q1,q2,q3,q4⟩
    · exact .inl (hq h)
  let S:Array Bool→Nat→Prop:=fun ls i=>i<l.length∧ls.getD i true=true
  refine wpIn_region_any hm ?_
  have main:∀ (fuel:Nat) (ls:Array Bool) (a:Act) (w:World),ls.size=l.length→ls.toList.count false≤fuel→Cl (S ls)→DInv l E H X T N ρ0 D ⟨h0,nx0,bs,R0,W0⟩ Rf Wf w0 a0 (S ls) a w →
      wpAnyIn F 0 P .any l.toArray (fun e a' w'=>e=.normal∧∃ ρ',a'.defers=a0.defers∧EnvR ρ' N envE a'.tmps∧Step ρ0 ρ' D ⟨h0,nx0,bs,R0,W0⟩ ⟨hE,nxE,bs,Rf,Wf⟩ w0 w') fuel ls a w:=by
    intro fuel
    have allDone:∀ (ls:Array Bool),ls.size=l.length→Region.ready .any l.toArray ls=[]→∀ i,i<l.length→ls.getD i true=true:=by
      intro ls hsz hr i
      induction i using Nat.strongRecOn with
      | _ i ih =>
        intro hi
        cases hg:ls.getD i true with
        | true=>rfl
        | false =>
          exfalso
          have:i∈Region.ready .any l.toArray ls:=by
            refine mem_ready.2 ⟨hg,l[i],by simp [hi],fun e he hb=>?_⟩
            have hlt:e.on<i:=hlt1 i l[i] (by simp [hi]) _ (mem_afsL.2 ⟨e,by simpa using he,hb,rfl⟩)
            have:=ih e.on hlt (by omega)
            have hs':e.on<ls.size:=by omega
            simp only [Array.getD_eq_getD_getElem?,Array.getElem?_eq_getElem hs',Option.getD_some] at this ⊢
            exact this
          rw [hr] at this
          cases this
    have finish:∀ (ls:Array Bool) a w,ls.size=l.length→Region.ready .any l.toArray ls=[]→DInv l E H X T N ρ0 D ⟨h0,nx0,bs,R0,W0⟩ Rf Wf w0 a0 (S ls) a w →
        (Exit.normal=Exit.normal∧∃ ρ',a.defers=a0.defers∧EnvR ρ' N envE a.tmps∧Step ρ0 ρ' D ⟨h0,nx0,bs,R0,W0⟩ ⟨hE,nxE,bs,Rf,Wf⟩ w0 w):=by
      intro ls a w hsz hr ⟨ρ,M,B,e1,e2,e3,e4,e5,_⟩
      have hall:=allDone ls hsz hr
      have hM:∀ x,M.get x=hE.get x:=fun x=>by
        rw [e1 x,← hHn]
        exact cur_at (fun i=>(H i).get) tH (S ls) hoH (Nat.le_refl _) fun i hi _=>⟨hi,hall i hi⟩
      have hB:∀ t,B.get t=envE.get t:=fun t=>by
        rw [e2 t,← hEn]
        exact cur_at (fun i=>(E i).get) tE (S ls) hoE (Nat.le_refl _) fun i hi _=>⟨hi,hall i hi⟩
      refine ⟨rfl,ρ,e4,⟨e3.1,fun t=>by rw [← hB t];exact e3.2 t⟩,?_⟩
      rw [hXn] at e5
      refine ⟨e5.os,e5.tape,e5.output,e5.size,e5.nx,rfl,e5.sR,e5.sW,e5.ext,e5.keep,fun x hx hn=>?_,fun x hx=>?_,fun x b s hx hg hr=>?_,⟨fun x o d g=>?_,fun x y b s s' d d' g g'=>?_,fun x g=>?_⟩⟩
      · show hE.get x=none;rw [← hM x];exact e5.dead x hx hn
      · rcases e5.same x hx with q | q
        · exact .inl q
        · right;show hE.get x=_;rw [← hM x];exact q
      · have hg:hE.get x≠none:=hg
        rw [← hM x] at hg
        rcases e5.fresh x b s hx hg hr with q | ⟨z,s',q1,q2,q3,q4,q5,q6⟩
        · exact .inl q
        · exact .inr ⟨z,s',q1,q2,q3,q4,by show hE.get z=none;rw [← hM z];exact q5,q6⟩
      · have g:hE.get x=some o:=g
        rw [← hM x] at g
        exact e5.sim.live x o d g
      · have g:hE.get x≠none:=g
        have g':hE.get y≠none:=g'
        rw [← hM x] at g
        rw [← hM y] at g'
        exact e5.sim.inj x y b s s' d d' g g'
      · have g:hE.get x≠none:=g
        rw [← hM x] at g
        exact e5.sim.lt x g
    induction fuel with
    | zero =>
      intro ls a w hsz hcnt hcl hS
      have hr:Region.ready .any l.toArray ls=[]:=by
        cases hr:Region.ready .any l.toArray ls with
        | nil=>rfl
        | cons i r =>
          have hi:i∈Region.ready .any l.toArray ls:=by rw [hr];simp
          obtain ⟨h1,o,h2,_⟩:=mem_ready.1 hi
          have hlt:i<ls.size:=by
            rw [hsz];have:=(Array.getElem?_eq_some_iff.1 h2).1;simpa using this
          have:false∈ls.toList:=by
            have e:ls[i]?=some false:=by
              simp only [Array.getD_eq_getD_getElem?,Array.getElem?_eq_getElem hlt,Option.getD_some] at h1
              rw [Array.getElem?_eq_getElem hlt,h1]
            exact Array.mem_toList_iff.2 (Array.mem_of_getElem? e)
          have:=List.count_pos_iff.2 this
          omega
      exact ⟨hr,finish ls a w hsz hr hS⟩
    | succ fuel ih =>
      intro ls a w hsz hcnt hcl hS
      refine ⟨fun hr=>finish ls a w hsz hr hS,fun i hi=>?_⟩
      obtain ⟨h1,o,ho,haf⟩:=mem_ready.1 hi
      have ho':l[i]?=some o:=by simpa using ho
      have hil:i<l.length:=(List.getElem?_eq_some_iff.1 ho').1
      have his:i<ls.size:=by omega
      have hcnt':(ls.setIfInBounds i true).toList.count false≤fuel:=by
        have e:ls.toList[i]?=some false:=by
          simp only [Array.getD_eq_getD_getElem?,Array.getElem?_eq_getElem his,Option.getD_some] at h1
          simp [his,h1]
        have:=count_set ls.toList i e
        rw [Array.toList_setIfInBounds]
        omega
      have hsz':(ls.setIfInBounds i true).size=l.length:=by simp [hsz]
      have hbefore:∀ j,j∈afsL o→S ls j:=by
        intro j hj
        have hjl:=hlt1 i o ho' j hj
        obtain ⟨e,he,hb,rfl⟩:=mem_afsL.1 hj
        have hh:=haf e (by simpa using he) hb
        have hlt:e.on<ls.size:=by omega
        refine ⟨by omega,?_⟩
        simp only [Array.getD_eq_getD_getElem?,Array.getElem?_eq_getElem hlt,Option.getD_some] at hh ⊢
        exact hh
      have hni:¬ S ls i:=fun q=>by have:=q.2;rw [h1] at this;cases this
      have hS':∀ j,S (ls.setIfInBounds i true) j↔(S ls j∨j=i):=by
        intro j
        simp only [S]
        rw [getD_set ls i j his]
        by_cases e:i=j
        · subst e;simp [hil]
        · have:(i==j)=false:=by simp [e]
          rw [this];simp;omega
      have hcl':Cl (S (ls.setIfInBounds i true)):=by
        intro i' o' ho2 hl' j hj
        rw [hS'] at hl' ⊢
        rcases hl' with q | rfl
        · exact .inl (hcl i' o' ho2 q j hj)
        · rw [ho'] at ho2
          obtain rfl:o=o':=by simpa using ho2
          exact .inl (hbefore j hj)
      have hsti:=hst i o ho'
      obtain ⟨ρ,M,B,e1,e2,e3,e4,e5,e6⟩:=hS
      have hbe:∀ j,j<i→(S ls j∨∃ t,l[j]?=some t∧t.apart l.toArray o=true)∧(S ls j∨sepT (T j) (T i)=true∨((T j).q=true∧(T i).q=true)):=fun j hj=>hpair (S ls) hcl j i o hj ho' hbefore
      have haft:∀ j,i<j→j<l.length→S ls j→(∃ t,l[j]?=some t∧o.apart l.toArray t=true)∧(sepT (T i) (T j)=true∨((T i).q=true∧(T j).q=true)):=by
        intro j hij hj hSj
        obtain ⟨q1,q2⟩:=hpair (S ls) hcl i j l[j] hij (by simp [hj]) (fun k hk=>hcl j l[j] (by simp [hj]) hSj k hk)
        refine ⟨?_,q2.resolve_left hni⟩
        obtain ⟨t,ht,q⟩:=q1.resolve_left hni
        rw [ho'] at ht
        simp only [Option.some.injEq] at ht
        subst ht
        exact ⟨l[j],by simp [hj],q⟩
      have hRt:∀ x∈(T i).R,x<X i→M.get x=(H i).get x:=by
        intro x hx hxl
        rw [e1 x]
        refine cur_is (fun i=>(H i).get) tH (S ls) hoH (by omega) ?_ ?_
        · intro j hj htj
          rcases (hbe j hj).2 with q | q
          · exact q
          · rcases hsepq (by omega) hil q with ⟨q1,q2,_⟩ | ⟨q1,q2,q3,q4⟩
            · rcases htj with r | r
              · rw [q1] at r;cases r
              · omega
            · rcases htj with r | r
              · exact absurd hx (q1 x r)
              · exact absurd r (q4 x hx)
        · intro j hj hjl hSj htj
          by_cases e:j=i
          · subst e;exact hni hSj
          · have hm2:X (i+1)≤X j:=hXm (by omega) (by omega)
            have hm3:=hXs i hil
            rcases hsepq hil hjl (haft j (by omega) hjl hSj).2 with ⟨_,_,q1,q2⟩ | ⟨q1,q2,q3,q4⟩
            · rcases htj with r | r
              · rw [q1] at r;cases r
              · omega
            · rcases htj with r | r
              · exact absurd r (q3 x hx)
              · omega
      have hBt:∀ t∈o.looksAt l.toArray,B.get t=(E i).get t:=by
        intro t ht
        rw [e2 t]
        refine cur_is (fun i=>(E i).get) tE (S ls) hoE (by omega) ?_ ?_
        · intro j hj htj
          rcases (hbe j hj).1 with q | ⟨u,hu,q⟩
          · exact q
          · simp only [tE,hu,Option.bind_some] at htj
            exact absurd ht ((Oper.apart_spec q).1 t htj)
        · intro j hj hjl hSj htj
          by_cases e:j=i
          · subst e;exact hni hSj
          · obtain ⟨u,hu,q⟩:=(haft j (by omega) hjl hSj).1
            simp only [tE,hu,Option.bind_some] at htj
            exact (Oper.apart_spec q).2.2 t htj ht
      have hB':∀ (v:SV) (B':Tr SV),PutR N (E i) o.dst v (E (i+1))→PutR N B o.dst v B'→∀ t,B'.get t=cur (fun i=>(E i).get) tE (S (ls.setIfInBounds i true)) l.length t:=by
        intro v B' p1 p2 t
        by_cases htt:tE i t
        · have hd:o.dst=some t:=by simpa [tE,ho'] using htt
          have e:cur (fun i=>(E i).get) tE (S (ls.setIfInBounds i true)) l.length t=(E (i+1)).get t:=by
            refine cur_is (fun i=>(E i).get) tE _ hoE (by omega) ?_ ?_
            · intro j hj htj
              rw [hS']
              by_cases e:j=i
              · exact .inr e
              · left
                rcases (hbe j (by omega)).1 with q | ⟨u,hu,q⟩
                · exact q
                · simp only [tE,hu,Option.bind_some] at htj
                  exact absurd hd ((Oper.apart_spec q).2.1 t htj)
            · intro j hj hjl hSj htj
              rw [hS'] at hSj
              have hSj:=hSj.resolve_right (by omega)
              obtain ⟨u,hu,q⟩:=(haft j (by omega) hjl hSj).1
              simp only [tE,hu,Option.bind_some] at htj
              exact (Oper.apart_spec q).2.1 t hd htj
          rw [e]
          rw [hd] at p1 p2
          rw [p1.at,p2.at]
        · have hd:¬ o.dst=some t:=fun q=>htt (by simp [tE,ho',q])
          rw [p2.other hd,e2 t]
          exact (cur_other (fun i=>(E i).get) tE (S ls) (t:=i) (S (ls.setIfInBounds i true)) (fun j hj=>by rw [hS'];simp [hj]) htt l.length).symm
      have hput:∀ (v:SV) (E2:Tr SV),PutR N (E i) o.dst v E2→∃ B',PutR N B o.dst v B':=fun v E2 p=>⟨_,p.1,rfl⟩
      have hstep:∀ (M':Tr SO) (hq:Tr SO),(∀ x,(x∈(T i).W∨(X i≤x∧x<X (i+1)))→(H (i+1)).get x=hq.get x)→(∀ x,(x∈(T i).W∨(X i≤x∧x<X (i+1)))→M'.get x=hq.get x)→(∀ x,¬ (x∈(T i).W∨(X i≤x∧x<X (i+1)))→M'.get x=M.get x) →
          ∀ x,M'.get x=cur (fun i=>(H i).get) tH (S (ls.setIfInBounds i true)) l.length x:=by
        intro M' hq g1 g2 g3 x
        by_cases htx:tH i x
        · have e:cur (fun i=>(H i).get) tH (S (ls.setIfInBounds i true)) l.length x=(H (i+1)).get x:=by
            refine cur_is (fun i=>(H i).get) tH _ hoH (by omega) ?_ ?_
            · intro j hj htj
              rw [hS']
              by_cases e:j=i
              · exact .inr e
              · left
                have hm1:X (j+1)≤X i:=hXm (by omega) (by omega)
                have hm3:=hXs j (by omega)
                rcases htx with hx | hx
                · rcases (hbe j (by omega)).2 with q | q
                  · exact q
                  · rcases hsepq (by omega) hil q with ⟨q1,q2,q3,_⟩ | ⟨q1,q2,q3,q4⟩
                    · rw [q3] at hx;cases hx
                    · rcases htj with r | r
                      · exact absurd hx (q2 x r)
                      · exact absurd r (q4 x (hsti.wr x hx))
                · exfalso
                  rcases htj with r | r
                  · have:=(hst j l[j] (by simp)).wl x r
                    omega
                  · omega
            · intro j hj hjl hSj htj
              rw [hS'] at hSj
              have hSj:=hSj.resolve_right (by omega)
              have hm2:X (i+1)≤X j:=hXm (by omega) (by omega)
              have hm3:=hXs i hil
              rcases hsepq hil hjl (haft j (by omega) hjl hSj).2 with ⟨q1,q2,q3,q4⟩ | ⟨q1,q2,q3,q4⟩
              · rcases htj with r | r
                · rw [q3] at r;cases r
                · omega
              · rcases htx with hx | hx
                · rcases htj with r | r
                  · exact absurd r (q2 x hx)
                  · have:=hsti.wl x hx;omega
                · rcases htj with r | r
                  · exact absurd hx (q4 x ((hst j l[j] (by simp [hjl])).wr x r))
                  · omega
          rw [e,g1 x htx]
          exact g2 x htx
        · rw [g3 x htx,e1 x]
          exact (cur_other (fun i=>(H i).get) tH (S ls) (t:=i) (S (ls.setIfInBounds i true)) (fun j hj=>by rw [hS'];simp [hj]) htx l.length).symm
      have hdfr:∀ (u:Value),(a.put o.dst u).defers=a0.defers:=fun u=>by
        rw [← e4]
        cases o.dst <;> rfl
      have hfr:∀ j,j<l.length→¬ S (ls.setIfInBounds i true) j→∀ x,X j≤x→x<X (j+1)→ρ x=none:=fun j hj hSj=>e6 j hj (fun q=>hSj ((hS' j).2 (.inl q)))
      simp only [wpOpIn,List.getElem?_toArray,ho']
      rcases hsti.is with ⟨hw,q1,q2,q3⟩ | ⟨hw,v,hq,b,hx,q1,q3⟩
      · have hwb:wantS l B o=some false:=by rw [wantS_congr (env:=B) (env2:=E i) hBt];exact hw
        rw [if_neg (by rw [wantS_ok e3 hwb];simp)]
        refine ⟨fun f _=>hFn f,?_⟩
        obtain ⟨B',p⟩:=hput _ _ q3
        refine ih _ _ w hsz' hcnt' hcl' ⟨ρ,M,B',?_,hB' _ _ q3 p,p.envR e3 (by rw [Rel]),hdfr undef,e5,hfr⟩
        have hno:∀ x,¬ (x∈(T i).W∨(X i≤x∧x<X (i+1))):=fun x q=>by
          rcases q with q | q
          · rw [q1] at q;cases q
          · omega
        exact hstep M M (fun x hx=>absurd hx (hno x)) (fun x hx=>absurd hx (hno x)) (fun _ _=>rfl)
      · have hwb:wantS l B o=some true:=by rw [wantS_congr (env:=B) (env2:=E i) hBt];exact hw
        rw [if_pos (by rw [wantS_ok e3 hwb])]
        have hx':exO P sm rec B o ⟨H i,X i,X i,[],[]⟩=some [(v,⟨hq,X (i+1),b,(T i).R,(T i).W⟩)]:=by
          rw [exO_congr (look_op (ops:=l.toArray) hBt)];exact hx
        have hD0:∀ x,x∈Rf∨bs≤x→D x:=hD
        have hRf:=(hTR i hil).1
        have hWf:=(hTR i hil).2
        have hHi:=hHl i (by omega)
        have hsim:=Step.before (x0:=X i) e5 hRt hRf hD0 hHi
        obtain ⟨B',p⟩:=hput _ _ q3
        refine hO o B _ _ hx' ρ (fun x=>x∈(T i).R∨X i≤x) w a _ _ e3 hsim (fun p hp x hx=>by rw [List.mem_singleton] at hp;subst hp;exact hx) (fun p hp x h2 h3=>by rw [List.mem_singleton] at hp;subst hp;exact e6 i hil hni x h2 h3) ?_
        intro p0 hp0 u w' ρ' hv hop
        rw [List.mem_singleton] at hp0
        subst hp0
        have hle:ρ.Le ρ':=hop.le (fun x h2 h3=>e6 i hil hni x h2 h3)
        obtain ⟨M',g2,g3⟩:∃ M':Tr SO,(∀ x,(x∈(T i).W∨(X i≤x∧x<X (i+1)))→M'.get x=hq.get x)∧∀ x,¬ (x∈(T i).W∨(X i≤x∧x<X (i+1)))→M'.get x=M.get x:=by
          have b1:∀ (l:List Nat) (M:Tr SO),∃ M':Tr SO,(∀ x∈l,M'.get x=hq.get x)∧∀ x,x ∉ l→M'.get x=M.get x:=by
            intro l
            induction l with
            | nil=>exact fun M=>⟨M,(fun x hx=>by cases hx),fun _ _=>rfl⟩
            | cons y l ih =>
              intro M
              obtain ⟨M',f1,f2⟩:=ih (M.set y (hq.get y))
              refine ⟨M',fun x hx=>?_,fun x hx=>?_⟩
              · by_cases hl:x∈l
                · exact f1 x hl
                · rcases List.mem_cons.1 hx with rfl | hx
                  · rw [f2 x hl,Tr.get_set,if_pos rfl]
                  · exact absurd hx hl
              · rw [List.mem_cons,not_or] at hx
                rw [f2 x hx.2,Tr.get_set,if_neg hx.1]
          obtain ⟨M',f1,f2⟩:=b1 ((T i).W++(List.range (X (i+1)-X i)).map (X i+·)) M
          have hmem:∀ x,x∈(T i).W++(List.range (X (i+1)-X i)).map (X i+·)↔(x∈(T i).W∨(X i≤x∧x<X (i+1))):=by
            intro x
            rw [List.mem_append,List.mem_map]
            constructor
            · rintro (q | ⟨k,hk,rfl⟩)
              · exact .inl q
              · rw [List.mem_range] at hk;right;omega
            · rintro (q | q)
              · exact .inl q
              · right;exact ⟨x-X i,by rw [List.mem_range];omega,by omega⟩
          exact ⟨M',fun x hx=>f1 x ((hmem x).2 hx),fun x hx=>f2 x (fun q=>hx ((hmem x).1 q))⟩
        refine ih _ _ w' hsz' hcnt' hcl' ⟨ρ',M',B',?_,hB' _ _ q3 p,p.envR (e3.mono hle) hv,hdfr u,?_,?_⟩
        · exact hstep M' hq q1 g2 g3
        · have hx0:nx0≤X i:=by rw [← hX0];exact hXm (Nat.zero_le _) (by omega)
          have hx1:X (i+1)≤X l.length:=hXm (by omega) (Nat.le_refl _)
          exact Step.behind e5 hop hx0 hx1 hRt hsti.wr hsti.wl hRf hWf hD0 (fun x h2 h3=>e6 i hil hni x h2 h3) hHi g2 g3
        · intro j hj hSj x h2 h3
          have hji:j≠i:=fun q=>hSj ((hS' j).2 (.inr q))
          have e:ρ' x=ρ x:=hop.ext x (by
            show x<X i∨X (i+1)≤x
            rcases Nat.lt_or_gt_of_ne hji with q | q
            · have:=hXm (i:=j+1) (j:=i) (by omega) (by omega);omega
            · have:=hXm (i:=i+1) (j:=j) (by omega) (by omega);omega)
          rw [e]
          exact hfr j hj hSj x h2 h3
  have hnone:∀ i,¬ S (Array.replicate (Array.mk l).size false) i:=by
    rintro i ⟨q1,q2⟩
    simp [q1] at q2
  refine main _ _ _ _ (by simp) (by simp) ?_ ⟨ρ0,h0,env,?_,?_,he,rfl,?_,?_⟩
  · intro i o _ hi;exact absurd hi (hnone i)
  · intro x;rw [cur_none _ _ _ hnone,hH0]
  · intro t;rw [cur_none _ _ _ hnone,hE0]
  · have hle:nx0≤X l.length:=by rw [← hX0];exact hXm (Nat.zero_le _) (Nat.le_refl _)
    refine ⟨rfl,rfl,rfl,Nat.le_refl _,hle,rfl,hRf0,hWf0,fun _ _=>rfl,fun _ _=>.inl rfl,fun _ _ h=>h,fun _ _=>.inr rfl,fun x b s hx hg _=>absurd (hs.lt x hg) (Nat.not_lt.2 hx),⟨fun x o d g=>?_,fun x y b s s' d d' g g'=>?_,fun x g=>?_⟩⟩
    · exact hs.live x o (d.resolve_right (by have:=hs.lt x (by show h0.get x≠none;rw [show h0.get x=some o from g];simp);exact Nat.not_le.2 this)) g
    · exact hs.inj x y b s s' (d.resolve_right (Nat.not_le.2 (hs.lt x g))) (d'.resolve_right (Nat.not_le.2 (hs.lt y g'))) g g'
    · have:=hs.lt x g;exact Nat.lt_of_lt_of_le this hle
  · intro i hi _ x h1 h2
    refine hf x ?_ ?_
    · show nx0≤x
      have:=hXm (i:=0) (j:=i) (by omega) (by omega)
      rw [hX0] at this;omega
    · show x<nxE
      have:=hXm (i:=i+1) (j:=l.length) (by omega) (Nat.le_refl _)
      rw [hXn] at this;omega
end
end Go.TX
namespace Go.TX
open Go Go.TH
noncomputable section
structure Imm (r r':SLoop):Prop where
 N:r'.N=r.N
 tmps:r'.tmps=r.tmps
 params:r'.params=r.params
 assign:r'.assign=r.assign
 body:r'.body=r.body
 defers:r'.defers=r.defers
def KeepL (o o':Option SO):Prop:=(∀ r',o'=some (.loop r')→∃ r,o=some (.loop r)∧Imm r r')∧(o=none→o'=none)
theorem KeepL.refl (o:Option SO):KeepL o o:=⟨fun r' h=>⟨r',h,rfl,rfl,rfl,rfl,rfl,rfl⟩,fun h=>h⟩
theorem KeepL.trans {o o1 o2:Option SO} (h:KeepL o o1) (h':KeepL o1 o2):KeepL o o2:=by
 refine ⟨fun r2 e=>?_,fun e=>h'.2 (h.2 e)⟩
 obtain ⟨r1,e1,i1⟩:=h'.1 r2 e
 obtain ⟨r,e0,i0⟩:=h.1 r1 e1
 exact ⟨r,e0,i1.N.trans i0.N,i1.tmps.trans i0.tmps,i1.params.trans i0.params,i1.assign.trans i0.assign,i1.body.trans i0.body,i1.defers.trans i0.defers⟩
structure Mono (st st':St):Prop where
 nx:st.nx≤st'.nx
 base:st'.base=st.base
 R:∀ x,x∈st.R→x∈st'.R
 lp:∀ x,x<st.nx→KeepL (st.h.get x) (st'.h.get x)
variable {P:Program} {T n:Nat} {ps:List (Nat × SV)} {st st' st1:St} {v x y z:SV} {ox lo hi mx:Option SV} {ok:Bool}
theorem Mono.refl (st:St):Mono st st:=⟨Nat.le_refl _,rfl,fun _ h=>h,fun _ _=>KeepL.refl _⟩
theorem Mono.trans (h:Mono st st1) (h':Mono st1 st'):Mono st st':=⟨Nat.le_trans h.nx h'.nx,h'.base.trans h.base,fun x hx=>h'.R x (h.R x hx),fun x hx=>(h.lp x hx).trans (h'.lp x (Nat.lt_of_lt_of_le hx h.nx))⟩
theorem Mono.fin {v v':SV} (h:some (v,st)=some (v',st')):Mono st st':=by
 simp only [Option.some.injEq,Prod.mk.injEq] at h
 rw [h.2];exact Mono.refl _
theorem KeepL.set {h:Tr SO} {x:Nat} {o:SO} (hx:h.get x≠none) (ho:∀ r',o=.loop r'→∃ r,h.get x=some (.loop r)∧Imm r r') (y:Nat):KeepL (h.get y) ((h.set x (some o)).get y):=by
 rw [Tr.get_set]
 by_cases e:y=x
 ·subst e
  rw [if_pos rfl]
  refine ⟨fun r' e=>?_,fun e=>absurd e hx⟩
  simp only [Option.some.injEq] at e
  exact ho r' e
 ·rw [if_neg e];exact KeepL.refl _
theorem KeepL.new {h:Tr SO} {n x:Nat} {o:Option SO} (hx:x<n):KeepL (h.get x) ((h.set n o).get x):=by
 rw [Tr.get_set,if_neg (by omega)];exact KeepL.refl _
theorem Mono.rd {β:Type} {x:Nat} {k:List SV→TypeId→Bool→St→Option β} {r:β} (h:rdK st x k=some r) (hk:∀ l e op s,s.h=st.h→st.h.get x=some (.cells l e op)→k l e op s=some r→Mono s st'):Mono st st':=by
 obtain ⟨l,e,op,hg,h⟩:=rdK_some h
 have h2:=hk l e op ⟨st.h,st.nx,st.base,ins st.base x st.R,st.W⟩ rfl hg h
 exact ⟨h2.nx,h2.base,fun y hy=>h2.R y (ins_sub _ _ _ y hy),h2.lp⟩
theorem Mono.rdM {β:Type} {x:Nat} {k:List SEnt→Nat→St→Option β} {r:β} (h:rdMK st x k=some r) (hk:∀ l c s,s.h=st.h→st.h.get x=some (.map l c)→k l c s=some r→Mono s st'):Mono st st':=by
 obtain ⟨l,c,hg,h⟩:=rdMK_some h
 have h2:=hk l c ⟨st.h,st.nx,st.base,ins st.base x st.R,st.W⟩ rfl hg h
 exact ⟨h2.nx,h2.base,fun y hy=>h2.R y (ins_sub _ _ _ y hy),h2.lp⟩
theorem Mono.wt {β:Type} {x:Nat} {o:SO} {k:St→Option β} {r:β} (h:wtK st x o k=some r) (hx:st.h.get x≠none) (ho:∀ r',o=.loop r'→∃ r,st.h.get x=some (.loop r)∧Imm r r') (hk:∀ s,k s=some r→Mono s st'):Mono st st':=by
 rw [wtK_eq] at h
 have h2:=hk _ h
 exact ⟨h2.nx,h2.base,fun y hy=>h2.R y (ins_sub _ _ _ y hy),fun y hy=>(KeepL.set hx ho y).trans (h2.lp y hy)⟩
theorem Mono.new {β:Type} {o:SO} {k:Nat→St→Option β} {r:β} (h:newK st o k=some r) (hk:∀ n s,k n s=some r→Mono s st'):Mono st st':=by
 rw [newK_eq] at h
 have h2:=hk _ _ h
 exact ⟨Nat.le_trans (Nat.le_succ _) h2.nx,h2.base,h2.R,fun x hx=>(KeepL.new hx).trans (h2.lp x (Nat.lt_succ_of_lt hx))⟩
theorem Mono.src {β:Type} {sz:Nat} {k:Nat→List SV→St→Option β} {r:β} (h:srcK sz y st k=some r) (hk:∀ n l s,k n l s=some r→Mono s st'):Mono st st':=by
 unfold srcK at h
 split at h
 ·exact hk _ _ _ h
 ·exact hk _ _ _ h
 ·refine Mono.rd h ?_
  intro l _ _ s hsh hg h
  obtain ⟨_,h⟩:=subK_some h
  exact hk _ _ _ h
 ·cases h
theorem Mono.bif {α:Type} {b:Bool} {p q:Option α} {r:α} {G:Prop} (h:(bif b then p else q)=some r) (hp:p=some r→G) (hq:q=some r→G):G:=by
 cases b with
 | true=>exact hp h
 | false=>exact hq h
theorem Mono.sub {α β:Type} {l:List α} {o n:Nat} {k:List α→Option β} {r:β} {G:Prop} (h:subK l o n k=some r) (hk:∀ l',k l'=some r→G):G:=hk _ (subK_some h).2
theorem Mono.wr {α β:Type} {l vs:List α} {o:Nat} {k:List α→Option β} {r:β} {G:Prop} (h:wrK l o vs k=some r) (hk:∀ l',k l'=some r→G):G:=hk _ (wrK_some h).2
theorem Mono.putE {β:Type} {es:List SEnt} {j:Nat} {e:SEnt} {k:List SEnt→Option β} {r:β} {G:Prop} (h:putEK es j e k=some r) (hk:∀ l',k l'=some r→G):G:=hk _ (putEK_some h).2
theorem Mono.delE {β:Type} {es:List SEnt} {j:Nat} {k:List SEnt→Option β} {r:β} {G:Prop} (h:delEK es j k=some r) (hk:∀ l',k l'=some r→G):G:=hk _ (delEK_some h).2
theorem apC_mono {e sz by' m:Nat} {news:List SV} (h:apC e sz by' x m news st=some (v,st')):Mono st st':=by
 unfold apC at h
 split at h
 ·split at h
  ·exact Mono.fin h
  ·refine Mono.bif h ?_ ?_ <;> intro h
   ·exact Mono.fin h
   ·cases h
  ·cases h
 ·refine Mono.bif h ?_ ?_ <;> intro h
  ·split at h
   ·refine Mono.bif h ?_ ?_ <;> intro h
    ·refine Mono.new h ?_
     intro _ _ h
     rw [natK_eq] at h
     exact Mono.fin h
    ·cases h
   ·refine Mono.bif h ?_ ?_ <;> intro h
    ·refine Mono.rd h ?_
     intro _ _ _ _ hsh hg h
     refine Mono.wr h ?_
     intro _ h
     refine Mono.wt h (by rw [hsh,hg];simp) (fun _ e=>by cases e) ?_
     intro _ h
     rw [natK_eq] at h
     exact Mono.fin h
    ·refine Mono.bif h ?_ ?_ <;> intro h
     ·refine Mono.rd h ?_
      intro _ _ _ _ hsh hg h
      refine Mono.sub h ?_
      intro _ h
      rw [appK_eq] at h
      refine Mono.new h ?_
      intro _ _ h
      rw [natK_eq] at h
      exact Mono.fin h
     ·cases h
   ·refine Mono.bif h ?_ ?_ <;> intro h
    ·refine Mono.bif h ?_ ?_ <;> intro h
     ·refine Mono.rd h ?_
      intro _ _ _ s hsh hg h
      refine Mono.bif h ?_ ?_ <;> intro h
      ·refine Mono.bif h ?_ ?_ <;> intro h
       ·cases h
       ·refine Mono.sub h ?_
        intro _ h
        rw [appK_eq] at h
        obtain ⟨h0,n0,b0,R0,W0⟩:=s
        simp only [Tr.setK_eq,natK_eq,insK_eq,Option.some.injEq,Prod.mk.injEq] at h
        rw [← h.2]
        refine ⟨Nat.le_succ _,rfl,fun _ h=>h,fun x hx=>?_⟩
        have hx:x<n0:=hx
        have hsh:h0=_:=hsh
        show KeepL (h0.get x) (((h0.set _ none).set n0 _).get x)
        rw [Tr.get_set,if_neg (by omega),Tr.get_set]
        split
        ·rename_i e
         refine ⟨fun r' q=>(by cases q),fun _=>rfl⟩
        ·exact KeepL.refl _
      ·cases h
     ·cases h
    ·cases h
   ·cases h
  ·cases h
theorem apS_mono {T':TypeId} (h:apS P T T' x y st=some (v,st')):Mono st st':=by
 unfold apS at h
 refine Mono.bif h ?_ ?_ <;> intro h
 ·split at h
  ·refine Mono.src h ?_
   intro _ _ _ h
   exact apC_mono h
  ·cases h
 ·cases h
theorem lnS_mono (h:lnS P T x st=some (v,st')):Mono st st':=by
 unfold lnS at h
 split at h
 ·split at h <;> first | exact Mono.fin h | cases h
 ·split at h
  ·exact Mono.fin h
  ·obtain ⟨h0,n0,b0,R0,W0⟩:=st
   simp only at h
   split at h
   ·rw [insK_eq,natK_eq] at h
    simp only [Option.some.injEq,Prod.mk.injEq] at h
    rw [← h.2]
    exact ⟨Nat.le_refl _,rfl,ins_sub _ _ _,fun _ _=>KeepL.refl _⟩
   ·cases h
  ·cases h
 ·cases h
theorem withS_mono (h:withS ox st=some (v,st')):Mono st st':=by
 rw [(withS_some h).2];exact Mono.refl _
theorem alS_mono (h:alS P T st=some (v,st')):Mono st st':=by
 unfold alS at h
 repeat' (first
  |(cases h;done)
  | exact Mono.fin h
  |(refine Mono.rd h ?_;intro _ _ _ _ hsh hg h)
  |(refine Mono.rdM h ?_;intro _ _ _ hsh hg h)
  |(refine Mono.wt h (by rw [hsh,hg];simp) (fun _ e=>by cases e) ?_;intro _ h)
  |(refine Mono.new h ?_;intro _ _ h)
  |(refine Mono.src h ?_;intro _ _ _ h)
  |(rw [natK_eq] at h)
  |(rw [appK_eq] at h)
  |(refine Mono.bif h ?_ ?_ <;> intro h)
  |(refine Mono.sub h ?_;intro _ h)
  |(refine Mono.wr h ?_;intro _ h)
  |(refine Mono.putE h ?_;intro _ h)
  |(refine Mono.delE h ?_;intro _ h)
  | split at h)
theorem bxS_mono (h:bxS T x st=some (v,st')):Mono st st':=by
 unfold bxS at h
 repeat' (first
  |(cases h;done)
  | exact Mono.fin h
  |(refine Mono.rd h ?_;intro _ _ _ _ hsh hg h)
  |(refine Mono.rdM h ?_;intro _ _ _ hsh hg h)
  |(refine Mono.wt h (by rw [hsh,hg];simp) (fun _ e=>by cases e) ?_;intro _ h)
  |(refine Mono.new h ?_;intro _ _ h)
  |(refine Mono.src h ?_;intro _ _ _ h)
  |(rw [natK_eq] at h)
  |(rw [appK_eq] at h)
  |(refine Mono.bif h ?_ ?_ <;> intro h)
  |(refine Mono.sub h ?_;intro _ h)
  |(refine Mono.wr h ?_;intro _ h)
  |(refine Mono.putE h ?_;intro _ h)
  |(refine Mono.delE h ?_;intro _ h)
  | split at h)
theorem bsS_mono (h:bsS P T n ps st=some (v,st')):Mono st st':=by
 unfold bsS at h
 repeat' (first
  |(cases h;done)
  | exact Mono.fin h
  |(refine Mono.rd h ?_;intro _ _ _ _ hsh hg h)
  |(refine Mono.rdM h ?_;intro _ _ _ hsh hg h)
  |(refine Mono.wt h (by rw [hsh,hg];simp) (fun _ e=>by cases e) ?_;intro _ h)
  |(refine Mono.new h ?_;intro _ _ h)
  |(refine Mono.src h ?_;intro _ _ _ h)
  |(rw [natK_eq] at h)
  |(rw [appK_eq] at h)
  |(refine Mono.bif h ?_ ?_ <;> intro h)
  |(refine Mono.sub h ?_;intro _ h)
  |(refine Mono.wr h ?_;intro _ h)
  |(refine Mono.putE h ?_;intro _ h)
  |(refine Mono.delE h ?_;intro _ h)
  | split at h)
theorem ldS_mono (h:ldS P T x st=some (v,st')):Mono st st':=by
 unfold ldS at h
 repeat' (first
  |(cases h;done)
  | exact Mono.fin h
  |(refine Mono.rd h ?_;intro _ _ _ _ hsh hg h)
  |(refine Mono.rdM h ?_;intro _ _ _ hsh hg h)
  |(refine Mono.wt h (by rw [hsh,hg];simp) (fun _ e=>by cases e) ?_;intro _ h)
  |(refine Mono.new h ?_;intro _ _ h)
  |(refine Mono.src h ?_;intro _ _ _ h)
  |(rw [natK_eq] at h)
  |(rw [appK_eq] at h)
  |(refine Mono.bif h ?_ ?_ <;> intro h)
  |(refine Mono.sub h ?_;intro _ h)
  |(refine Mono.wr h ?_;intro _ h)
  |(refine Mono.putE h ?_;intro _ h)
  |(refine Mono.delE h ?_;intro _ h)
  | split at h)
theorem stS_mono (h:stS P T x y st=some (v,st')):Mono st st':=by
 unfold stS at h
 repeat' (first
  |(cases h;done)
  | exact Mono.fin h
  |(refine Mono.rd h ?_;intro _ _ _ _ hsh hg h)
  |(refine Mono.rdM h ?_;intro _ _ _ hsh hg h)
  |(refine Mono.wt h (by rw [hsh,hg];simp) (fun _ e=>by cases e) ?_;intro _ h)
  |(refine Mono.new h ?_;intro _ _ h)
  |(refine Mono.src h ?_;intro _ _ _ h)
  |(rw [natK_eq] at h)
  |(rw [appK_eq] at h)
  |(refine Mono.bif h ?_ ?_ <;> intro h)
  |(refine Mono.sub h ?_;intro _ h)
  |(refine Mono.wr h ?_;intro _ h)
  |(refine Mono.putE h ?_;intro _ h)
  |(refine Mono.delE h ?_;intro _ h)
  | split at h)
theorem mmS_mono (h:mmS ox st=some (v,st')):Mono st st':=by
 unfold mmS at h
 repeat' (first
  |(cases h;done)
  | exact Mono.fin h
  |(refine Mono.rd h ?_;intro _ _ _ _ hsh hg h)
  |(refine Mono.rdM h ?_;intro _ _ _ hsh hg h)
  |(refine Mono.wt h (by rw [hsh,hg];simp) (fun _ e=>by cases e) ?_;intro _ h)
  |(refine Mono.new h ?_;intro _ _ h)
  |(refine Mono.src h ?_;intro _ _ _ h)
  |(rw [natK_eq] at h)
  |(rw [appK_eq] at h)
  |(refine Mono.bif h ?_ ?_ <;> intro h)
  |(refine Mono.sub h ?_;intro _ h)
  |(refine Mono.wr h ?_;intro _ h)
  |(refine Mono.putE h ?_;intro _ h)
  |(refine Mono.delE h ?_;intro _ h)
  | split at h)
theorem mkS_mono (h:mkS P T x y st=some (v,st')):Mono st st':=by
 unfold mkS at h
 repeat' (first
  |(cases h;done)
  | exact Mono.fin h
  |(refine Mono.rd h ?_;intro _ _ _ _ hsh hg h)
  |(refine Mono.rdM h ?_;intro _ _ _ hsh hg h)
  |(refine Mono.wt h (by rw [hsh,hg];simp) (fun _ e=>by cases e) ?_;intro _ h)
  |(refine Mono.new h ?_;intro _ _ h)
  |(refine Mono.src h ?_;intro _ _ _ h)
  |(rw [natK_eq] at h)
  |(rw [appK_eq] at h)
  |(refine Mono.bif h ?_ ?_ <;> intro h)
  |(refine Mono.sub h ?_;intro _ h)
  |(refine Mono.wr h ?_;intro _ h)
  |(refine Mono.putE h ?_;intro _ h)
  |(refine Mono.delE h ?_;intro _ h)
  | split at h)
theorem slS_mono (h:slS P T x lo hi mx st=some (v,st')):Mono st st':=by
 unfold slS at h
 repeat' (first
  |(cases h;done)
  | exact Mono.fin h
  |(refine Mono.rd h ?_;intro _ _ _ _ hsh hg h)
  |(refine Mono.rdM h ?_;intro _ _ _ hsh hg h)
  |(refine Mono.wt h (by rw [hsh,hg];simp) (fun _ e=>by cases e) ?_;intro _ h)
  |(refine Mono.new h ?_;intro _ _ h)
  |(refine Mono.src h ?_;intro _ _ _ h)
  |(rw [natK_eq] at h)
  |(rw [appK_eq] at h)
  |(refine Mono.bif h ?_ ?_ <;> intro h)
  |(refine Mono.sub h ?_;intro _ h)
  |(refine Mono.wr h ?_;intro _ h)
  |(refine Mono.putE h ?_;intro _ h)
  |(refine Mono.delE h ?_;intro _ h)
  | split at h)
theorem lkS_mono (h:lkS P T x y ok st=some (v,st')):Mono st st':=by
 unfold lkS at h
 repeat' (first
  |(cases h;done)
  | exact Mono.fin h
  |(refine Mono.rd h ?_;intro _ _ _ _ hsh hg h)
  |(refine Mono.rdM h ?_;intro _ _ _ hsh hg h)
  |(refine Mono.wt h (by rw [hsh,hg];simp) (fun _ e=>by cases e) ?_;intro _ h)
  |(refine Mono.new h ?_;intro _ _ h)
  |(refine Mono.src h ?_;intro _ _ _ h)
  |(rw [natK_eq] at h)
  |(rw [appK_eq] at h)
  |(refine Mono.bif h ?_ ?_ <;> intro h)
  |(refine Mono.sub h ?_;intro _ h)
  |(refine Mono.wr h ?_;intro _ h)
  |(refine Mono.putE h ?_;intro _ h)
  |(refine Mono.delE h ?_;intro _ h)
  | split at h)
theorem muS_mono (h:muS P T x y z st=some (v,st')):Mono st st':=by
 unfold muS at h
 repeat' (first
  |(cases h;done)
  | exact Mono.fin h
  |(refine Mono.rd h ?_;intro _ _ _ _ hsh hg h)
  |(refine Mono.rdM h ?_;intro _ _ _ hsh hg h)
  |(refine Mono.wt h (by rw [hsh,hg];simp) (fun _ e=>by cases e) ?_;intro _ h)
  |(refine Mono.new h ?_;intro _ _ h)
  |(refine Mono.src h ?_;intro _ _ _ h)
  |(rw [natK_eq] at h)
  |(rw [appK_eq] at h)
  |(refine Mono.bif h ?_ ?_ <;> intro h)
  |(refine Mono.sub h ?_;intro _ h)
  |(refine Mono.wr h ?_;intro _ h)
  |(refine Mono.putE h ?_;intro _ h)
  |(refine Mono.delE h ?_;intro _ h)
  | split at h)
theorem meS_mono (h:meS P T x y st=some (v,st')):Mono st st':=by
 unfold meS at h
 repeat' (first
  |(cases h;done)
  | exact Mono.fin h
  |(refine Mono.rd h ?_;intro _ _ _ _ hsh hg h)
  |(refine Mono.rdM h ?_;intro _ _ _ hsh hg h)
  |(refine Mono.wt h (by rw [hsh,hg];simp) (fun _ e=>by cases e) ?_;intro _ h)
  |(refine Mono.new h ?_;intro _ _ h)
  |(refine Mono.src h ?_;intro _ _ _ h)
  |(rw [natK_eq] at h)
  |(rw [appK_eq] at h)
  |(refine Mono.bif h ?_ ?_ <;> intro h)
  |(refine Mono.sub h ?_;intro _ h)
  |(refine Mono.wr h ?_;intro _ h)
  |(refine Mono.putE h ?_;intro _ h)
  |(refine Mono.delE h ?_;intro _ h)
  | split at h)
theorem esS_mono (h:esS x y z st=some (v,st')):Mono st st':=by
 unfold esS at h
 repeat' (first
  |(cases h;done)
  | exact Mono.fin h
  |(refine Mono.rd h ?_;intro _ _ _ _ hsh hg h)
  |(refine Mono.rdM h ?_;intro _ _ _ hsh hg h)
  |(refine Mono.wt h (by rw [hsh,hg];simp) (fun _ e=>by cases e) ?_;intro _ h)
  |(refine Mono.new h ?_;intro _ _ h)
  |(refine Mono.src h ?_;intro _ _ _ h)
  |(rw [natK_eq] at h)
  |(rw [appK_eq] at h)
  |(refine Mono.bif h ?_ ?_ <;> intro h)
  |(refine Mono.sub h ?_;intro _ h)
  |(refine Mono.wr h ?_;intro _ h)
  |(refine Mono.putE h ?_;intro _ h)
  |(refine Mono.delE h ?_;intro _ h)
  | split at h)
theorem deS_mono (h:deS P T x y st=some (v,st')):Mono st st':=by
 unfold deS at h
 repeat' (first
  |(cases h;done)
  | exact Mono.fin h
  |(refine Mono.rd h ?_;intro _ _ _ _ hsh hg h)
  |(refine Mono.rdM h ?_;intro _ _ _ hsh hg h)
  |(refine Mono.wt h (by rw [hsh,hg];simp) (fun _ e=>by cases e) ?_;intro _ h)
  |(refine Mono.new h ?_;intro _ _ h)
  |(refine Mono.src h ?_;intro _ _ _ h)
  |(rw [natK_eq] at h)
  |(rw [appK_eq] at h)
  |(refine Mono.bif h ?_ ?_ <;> intro h)
  |(refine Mono.sub h ?_;intro _ h)
  |(refine Mono.wr h ?_;intro _ h)
  |(refine Mono.putE h ?_;intro _ h)
  |(refine Mono.delE h ?_;intro _ h)
  | split at h)
theorem clS_mono (h:clS P T x st=some (v,st')):Mono st st':=by
 unfold clS at h
 repeat' (first
  |(cases h;done)
  | exact Mono.fin h
  |(refine Mono.rd h ?_;intro _ _ _ _ hsh hg h)
  |(refine Mono.rdM h ?_;intro _ _ _ hsh hg h)
  |(refine Mono.wt h (by rw [hsh,hg];simp) (fun _ e=>by cases e) ?_;intro _ h)
  |(refine Mono.new h ?_;intro _ _ h)
  |(refine Mono.src h ?_;intro _ _ _ h)
  |(rw [natK_eq] at h)
  |(rw [appK_eq] at h)
  |(refine Mono.bif h ?_ ?_ <;> intro h)
  |(refine Mono.sub h ?_;intro _ h)
  |(refine Mono.wr h ?_;intro _ h)
  |(refine Mono.putE h ?_;intro _ h)
  |(refine Mono.delE h ?_;intro _ h)
  | split at h)
theorem cpS_mono (h:cpS P T x y st=some (v,st')):Mono st st':=by
 unfold cpS at h
 repeat' (first
  |(cases h;done)
  | exact Mono.fin h
  |(refine Mono.rd h ?_;intro _ _ _ _ hsh hg h)
  |(refine Mono.rdM h ?_;intro _ _ _ hsh hg h)
  |(refine Mono.wt h (by rw [hsh,hg];simp) (fun _ e=>by cases e) ?_;intro _ h)
  |(refine Mono.new h ?_;intro _ _ h)
  |(refine Mono.src h ?_;intro _ _ _ h)
  |(rw [natK_eq] at h)
  |(rw [appK_eq] at h)
  |(refine Mono.bif h ?_ ?_ <;> intro h)
  |(refine Mono.sub h ?_;intro _ h)
  |(refine Mono.wr h ?_;intro _ h)
  |(refine Mono.putE h ?_;intro _ h)
  |(refine Mono.delE h ?_;intro _ h)
  | split at h)
theorem rgS_mono (h:rgS P T x st=some (v,st')):Mono st st':=by
 unfold rgS at h
 repeat' (first
  |(cases h;done)
  | exact Mono.fin h
  |(refine Mono.rd h ?_;intro _ _ _ _ hsh hg h)
  |(refine Mono.rdM h ?_;intro _ _ _ hsh hg h)
  |(refine Mono.wt h (by rw [hsh,hg];simp) (fun _ e=>by cases e) ?_;intro _ h)
  |(refine Mono.new h ?_;intro _ _ h)
  |(refine Mono.src h ?_;intro _ _ _ h)
  |(rw [natK_eq] at h)
  |(rw [appK_eq] at h)
  |(refine Mono.bif h ?_ ?_ <;> intro h)
  |(refine Mono.sub h ?_;intro _ h)
  |(refine Mono.wr h ?_;intro _ h)
  |(refine Mono.putE h ?_;intro _ h)
  |(refine Mono.delE h ?_;intro _ h)
  | split at h)
theorem enS_mono (h:enS x st=some (v,st')):Mono st st':=by
 unfold enS at h
 split at h
 ·split at h
  ·refine Mono.rdM h ?_
   intro _ _ s hsh hg h
   refine Mono.bif h ?_ ?_ <;> intro h
   ·split at h
    ·rw [insK_eq] at h
     simp only [Option.some.injEq,Prod.mk.injEq] at h
     rw [← h.2]
     exact ⟨Nat.le_refl _,rfl,ins_sub _ _ _,fun _ _=>KeepL.refl _⟩
    ·cases h
   ·cases h
  ·refine Mono.rdM h ?_
   intro _ _ s hsh hg h
   refine Mono.bif h ?_ ?_ <;> intro h
   ·split at h
    ·rw [insK_eq] at h
     simp only [Option.some.injEq,Prod.mk.injEq] at h
     rw [← h.2]
     exact ⟨Nat.le_refl _,rfl,ins_sub _ _ _,fun _ _=>KeepL.refl _⟩
    ·cases h
   ·cases h
  ·cases h
 ·cases h
theorem outsS_mono {q m since clk:Nat} {seen:List Nat} (hq:st.h.get q≠none):∀ {l:List SEnt} {L:List (SV × St)},outsS q m since clk seen st l=some L→∀ p∈L,Mono st p.2
 | [],L,h,p,hp=>by simp only [outsS,Option.some.injEq] at h;subst h;cases hp
 | a::l,L,h,p,hp=>by
  simp only [outsS,wtK_eq] at h
  split at h
  ·rename_i L' hL
   simp only [Option.some.injEq] at h
   subst h
   rcases List.mem_cons.1 hp with rfl | hp
   ·exact ⟨Nat.le_refl _,rfl,ins_sub _ _ _,fun y _=>KeepL.set hq (fun _ e=>by cases e) y⟩
   ·exact outsS_mono hq hL p hp
  ·cases h
theorem nxS_mono {L:List (SV × St)} (h:nxS x st=some L):∀ p∈L,Mono st p.2:=by
 unfold nxS at h
 split at h
 ·split at h
  ·rw [insK_eq] at h
   simp only [Option.some.injEq] at h
   subst h
   intro p hp
   rw [List.mem_singleton] at hp
   subst hp
   exact ⟨Nat.le_refl _,rfl,ins_sub _ _ _,fun _ _=>KeepL.refl _⟩
  ·rename_i m since seen last hg
   replace h:=(bif_of h).2
   obtain ⟨es,c,_,h⟩:=rdMK_some h
   replace h:=(bif_of h).2
   intro p hp
   refine (fun (h2:Mono (⟨st.h,st.nx,st.base,ins st.base m st.R,st.W⟩:St) p.2)=>(⟨h2.nx,h2.base,fun y hy=>h2.R y (ins_sub _ _ _ y hy),h2.lp⟩:Mono st p.2)) ?_
   split at h
   ·rw [insK_eq] at h
    simp only [Option.some.injEq] at h
    subst h
    rw [List.mem_singleton] at hp
    subst hp
    exact ⟨Nat.le_refl _,rfl,ins_sub _ _ _,fun _ _=>KeepL.refl _⟩
   ·exact outsS_mono (by show st.h.get _≠none;rw [hg];simp) h p hp
  ·cases h
 ·cases h
theorem biS_mono {b:Builtin} {ats:List TypeId} {ty:TypeId} {xs:List SV} (h:biS P b ats ty xs st=some (v,st')):Mono st st':=by
 unfold biS at h
 split at h
 ·split at h
  ·split at h
   ·exact lnS_mono h
   ·cases h
  ·cases h
 ·split at h
  ·split at h
   ·exact apS_mono h
   ·cases h
  ·cases h
 ·split at h
  ·split at h
   ·exact cpS_mono h
   ·cases h
  ·cases h
 ·exact withS_mono h
 ·exact withS_mono h
 ·split at h
  ·split at h
   ·exact deS_mono h
   ·cases h
  ·cases h
 ·split at h
  ·split at h
   ·exact clS_mono h
   ·cases h
  ·cases h
 ·cases h
theorem opS_mono {env:Tr SV} {op:Op} (h:opS P env op st=some (v,st')):Mono st st':=by
 cases op <;> simp only [opS] at h <;> first
  |(cases h;done)
  | exact Mono.fin h
  | exact withS_mono h
  | exact alS_mono h
  | exact bxS_mono h
  | exact bsS_mono h
  | exact ldS_mono h
  | exact stS_mono h
  | exact mkS_mono h
  | exact slS_mono h
  | exact lkS_mono h
  | exact muS_mono h
  | exact meS_mono h
  | exact esS_mono h
  | exact rgS_mono h
  | exact enS_mono h
  |(split at h <;> first | exact Mono.fin h | exact mmS_mono h | cases h)
end
end Go.TX
namespace Go.TX
open Go Go.TH
noncomputable section
variable {P:Program} {sm:Sums} {rec:Rec} {st st' st1:St} {v:SV}
def RecMono (rec:Rec):Prop:=∀ ro N c env ds st L,rec ro N c env ds st=some L→∀ o∈L,Mono st o.2.2.2
def SumMono (sm:Sums):Prop:=∀ f s args st v st',sm f=some s→s args st=some (v,st')→Mono st st'
theorem mapB_mem {α β:Type} {f:α→Option (List β)}:∀ {l:List α} {L:List β},mapB f l=some L→(∀ x∈l,∃ lx,f x=some lx∧∀ y∈lx,y∈L)∧∀ y∈L,∃ x∈l,∃ lx,f x=some lx∧y∈lx
 | [],L,h=>by unfold mapB at h;simp only [Option.some.injEq] at h;subst h;exact ⟨fun x hx=>(by cases hx),fun y hy=>(by cases hy)⟩
 | x::r,L,h=>by
  unfold mapB at h
  split at h
  case h_2=>cases h
  rename_i l hl
  split at h
  ·simp only [Option.some.injEq] at h
   subst h
   refine ⟨fun y hy=>?_,fun y hy=>⟨x,by simp,l,hl,hy⟩⟩
   rw [List.mem_singleton] at hy
   subst hy
   exact ⟨l,hl,fun _ h=>h⟩
  ·rename_i y r' 
   split at h
   case h_2=>cases h
   rename_i l' hl'
   simp only [Option.some.injEq] at h
   subst h
   obtain ⟨h1,h2⟩:=mapB_mem hl'
   refine ⟨fun z hz=>?_,fun z hz=>?_⟩
   ·rcases List.mem_cons.1 hz with rfl | hz
    ·exact ⟨l,hl,fun y hy=>by simp [hy]⟩
    ·obtain ⟨lz,e1,e2⟩:=h1 z hz
     exact ⟨lz,e1,fun y hy=>by simp [e2 y hy]⟩
   ·rcases List.mem_append.1 hz with hz | hz
    ·exact ⟨x,by simp,l,hl,hz⟩
    ·obtain ⟨a,ha,la,e1,e2⟩:=h2 z hz
     exact ⟨a,List.mem_cons_of_mem _ ha,la,e1,e2⟩
theorem oneL_some {α:Type} {r:Option α} {L:List α} (h:oneL r=some L):∃ p,r=some p∧L=[p]:=by
 unfold oneL at h
 split at h
 ·rename_i p
  simp only [Option.some.injEq] at h
  exact ⟨p,rfl,h.symm⟩
 ·cases h
theorem Mono.shut {β:Type} {r:β}:∀ {ds:List Nat} {st:St} {k:St→Option β},shutK ds st k=some r→(∀ s,k s=some r→Mono s st')→Mono st st'
 | [],st,k,h,hk=>hk st h
 | d::ds,st,k,h,hk=>by
  simp only [shutK] at h
  split at h
  ·rename_i hg
   refine Mono.wt h (by rw [hg];simp) (fun _ e=>by cases e) ?_
   intro s h
   exact Mono.shut h hk
  ·cases h
theorem rvK_mono {env:Tr SV} {r:ResultVar} (h:rvK P env r st=some (v,st')):Mono st st':=by
 cases r with
 | tmp t=>simp only [rvK] at h;exact Mono.fin h
 | cell a T=>simp only [rvK] at h;exact ldS_mono h
theorem Mono.res {env:Tr SV} {r:SV × St}:∀ {rs:List ResultVar} {st:St} {k:List SV→St→Option (SV × St)},resK P env rs st k=some r→(∀ l s,k l s=some r→Mono s st')→Mono st st'
 | [],st,k,h,hk=>hk _ st h
 | x::rs,st,k,h,hk=>by
  simp only [resK] at h
  split at h
  ·rename_i v1 st1 h1
   exact (rvK_mono h1).trans (Mono.res h fun l s hs=>hk _ s hs)
  ·cases h
theorem finS_mono {fn:Func} {e:Ex} {env:Tr SV} {ds:List Nat} (h:finS P fn (e,env,ds,st)=some (v,st')):Mono st st':=by
 unfold finS at h
 simp only at h
 cases e <;> simp only at h
 ·refine Mono.shut h ?_
  intro s h
  refine Mono.res h ?_
  intro l s h
  exact Mono.fin h
 ·cases h
 ·cases h
 ·refine Mono.shut h ?_
  intro s h
  refine Mono.res h ?_
  intro l s h
  exact Mono.fin h
theorem envK_some {β:Type} {r:β}:∀ {l:List SV} {i:Nat} {env:Tr SV} {k:Tr SV→Option β},envK l i env k=some r→∃ env',k env'=some r
 | [],_,env,k,h=>⟨env,h⟩
 | x::l,i,env,k,h=>by
  simp only [envK,Tr.setK_eq] at h
  exact envK_some h
theorem eqC_eq {a b:Cap} (h:eqC a b=true):a=b:=by
 cases a <;> cases b <;> simp only [eqC] at h <;> first | (cases h;done) | rw [Nat.eq_of_beq_eq_true h]
theorem eqW_eq {a b:Value} (h:eqW a b=true):a=b:=by
 unfold eqW at h
 split at h
 ·rfl
 ·rw [Bool.and_eq_true] at h
  rw [Nat.eq_of_beq_eq_true h.1,Nat.eq_of_beq_eq_true h.2]
 ·rfl
 ·rfl
 ·rfl
 ·rfl
 ·exact veq_eq h
mutual
theorem eqV_eq:∀ {a b:SV},eqV a b=true→a=b
 | .raw v,b,h=>by cases b <;> simp only [eqV] at h <;> first | (cases h;done) | rw [eqW_eq h]
 | .ptr x o,b,h=>by
  cases b <;> simp only [eqV] at h <;> try (cases h;done)
  rw [Bool.and_eq_true] at h
  rw [Nat.eq_of_beq_eq_true h.1,Nat.eq_of_beq_eq_true h.2]
 | .sl x o n c,b,h=>by
  cases b <;> simp only [eqV] at h <;> try (cases h;done)
  simp only [Bool.and_eq_true] at h
  rw [Nat.eq_of_beq_eq_true h.1.1.1,Nat.eq_of_beq_eq_true h.1.1.2,Nat.eq_of_beq_eq_true h.1.2,eqC_eq h.2]
 | .sl0,b,h=>by cases b <;> simp only [eqV] at h <;> first | (cases h;done) | rfl
 | .map x,b,h=>by cases b <;> simp only [eqV] at h <;> first | (cases h;done) | rw [Nat.eq_of_beq_eq_true h]
 | .fn f l m,b,h=>by
  cases b <;> simp only [eqV] at h <;> try (cases h;done)
  simp only [Bool.and_eq_true] at h
  rw [Nat.eq_of_beq_eq_true h.1.1,eqVs_eq h.1.2,eqVs_eq h.2]
 | .yield x,b,h=>by cases b <;> simp only [eqV] at h <;> first | (cases h;done) | rw [Nat.eq_of_beq_eq_true h]
 | .agg l,b,h=>by cases b <;> simp only [eqV] at h <;> first | (cases h;done) | rw [eqVs_eq h]
 | .tup l,b,h=>by cases b <;> simp only [eqV] at h <;> first | (cases h;done) | rw [eqVs_eq h]
theorem eqVs_eq:∀ {a b:List SV},eqVs a b=true→a=b
 | [],b,h=>by cases b <;> simp only [eqVs] at h <;> first | (cases h;done) | rfl
 | x::l,b,h=>by
  cases b with
  | nil=>simp only [eqVs] at h;cases h
  | cons y r =>
   simp only [eqVs] at h
   cases hx:eqV x y with
   | false=>rw [hx] at h;cases h
   | true=>rw [hx,cond_true] at h;rw [eqV_eq hx,eqVs_eq h]
end
theorem eqL_eq {α:Type} {f:α→α→Bool} (hf:∀ a b,f a b=true→a=b):∀ {l r:List α},eqL f l r=true→l=r
 | [],r,h=>by cases r <;> simp only [eqL] at h <;> first | (cases h;done) | rfl
 | x::l,r,h=>by
  cases r with
  | nil=>simp only [eqL] at h;cases h
  | cons y r =>
   simp only [eqL] at h
   cases hx:f x y with
   | false=>rw [hx] at h;cases h
   | true=>rw [hx,cond_true] at h;rw [hf _ _ hx,eqL_eq hf h]
theorem eqE_eq {a b:SEnt} (h:eqE a b=true):a=b:=by
 obtain ⟨k,v,n⟩:=a
 obtain ⟨k',v',n'⟩:=b
 simp only [eqE,Bool.and_eq_true] at h
 rw [eqV_eq h.1.1,eqV_eq h.1.2,Nat.eq_of_beq_eq_true h.2]
theorem eqB_eq {a b:Bool} (h:eqB a b=true):a=b:=by cases a <;> cases b <;> first | rfl | cases h
theorem eqO_eq {a b:SO} (h:eqO a b=true):a=b:=by
 have hn:∀ {x y:Nat},Nat.beq x y=true→x=y:=fun h=>Nat.eq_of_beq_eq_true h
 unfold eqO at h
 split at h
 ·simp only [Bool.and_eq_true] at h
  rw [eqVs_eq h.1.1,hn h.1.2,eqB_eq h.2]
 ·simp only [Bool.and_eq_true] at h
  rw [eqL_eq (fun _ _=>eqE_eq) h.1,hn h.2]
 ·rw [eqB_eq h]
 ·simp only [Bool.and_eq_true] at h
  rw [hn h.1.1.1,hn h.1.1.2,eqL_eq (fun _ _=>hn) h.1.2,hn h.2]
 ·simp only [Bool.and_eq_true] at h
  rw [hn h.1.1,eqL_eq (fun _ _=>hn) h.1.2,hn h.2]
 ·cases h
theorem eqS_eq {a b:LoopState} (h:eqS a b=true):a=b:=by cases a <;> cases b <;> first | rfl | cases h
theorem eqJ_eq {a b:Option Code} (h:eqJ a b=true):a=b:=by
 unfold eqJ at h
 split at h
 ·rfl
 ·rw [Nat.eq_of_beq_eq_true h]
 ·rw [Nat.eq_of_beq_eq_true h]
 ·rfl
 ·cases h
theorem eqLp_eq {a b:SO} (h:eqLp a b=true) (hi:∀ r r',a=.loop r→b=.loop r'→Imm r r'):a=b:=by
 cases a <;> cases b <;> simp only [eqLp] at h <;> try (cases h;done)
 rename_i r r'
 have i:=hi r r' rfl rfl
 rw [Bool.and_eq_true] at h
 have e1:=eqS_eq h.1
 have e2:=eqJ_eq h.2
 obtain ⟨s,p,N,tm,ps,as9,bd,df⟩:=r
 obtain ⟨s',p',N',tm',ps',as9',bd',df'⟩:=r'
 obtain ⟨i1,i2,i3,i4,i5,i6⟩:=i
 simp only at e1 e2 i1 i2 i3 i4 i5 i6
 rw [e1,e2,i1,i2,i3,i4,i5,i6]
theorem meetK_some {β:Type} {n0:Nat} {h1 h2:Tr SO} (hI:∀ x,x<n0→∀ r r',h1.get x=some (.loop r)→h2.get x=some (.loop r')→Imm r r'):∀ {n:Nat} {h:Tr SO} {k:Tr SO→Option β} {r:β},(∀ x,x<n→h.get x=none)→meetK n0 h1 h2 n h k=some r→∃ h',k h'=some r∧(∀ x,x<n→(h'.get x=h1.get x∧h'.get x=h2.get x)∨(n0≤x∧h'.get x=none))∧∀ x,n≤x→h'.get x=h.get x
 | 0,h,k,r,_,hh=>⟨h,hh,fun x hx=>absurd hx (Nat.not_lt_zero _),fun _ _=>rfl⟩
 | n+1,h,k,r,hl,hh=>by
  simp only [meetK] at hh
  have skip:(n0≤n∨(h1.get n=none∧h2.get n=none))→meetK n0 h1 h2 n h k=some r→∃ h',k h'=some r∧(∀ x,x<n+1→(h'.get x=h1.get x∧h'.get x=h2.get x)∨(n0≤x∧h'.get x=none))∧∀ x,n+1≤x→h'.get x=h.get x:=by
   intro hb hh
   obtain ⟨h',e1,e2,e3⟩:=meetK_some hI (fun x hx=>hl x (by omega)) hh
   refine ⟨h',e1,fun x hx=>?_,fun x hx=>e3 x (by omega)⟩
   by_cases e:x=n
   ·subst e
    have hn:h'.get x=none:=by rw [e3 x (Nat.le_refl _)];exact hl x (by omega)
    rcases hb with hb | ⟨hb1,hb2⟩
    ·exact .inr ⟨hb,hn⟩
    ·left;rw [hn,hb1,hb2];exact ⟨rfl,rfl⟩
   ·exact e2 x (by omega)
  split at hh
  ·rename_i o1 ho1
   split at hh
   ·rename_i o2 ho2
    cases hq:(eqO o1 o2||(Nat.blt n n0&&eqLp o1 o2)) with
    | true =>
     have heq:o1=o2:=by
      rw [Bool.or_eq_true,Bool.and_eq_true] at hq
      rcases hq with q | ⟨q1,q2⟩
      ·exact eqO_eq q
      ·exact eqLp_eq q2 fun r r' e1 e2=>hI n (Nat.blt_eq.mp q1) r r' (by rw [ho1,e1]) (by rw [ho2,e2])
     rw [hq,cond_true,Tr.setK_eq] at hh
     obtain ⟨h',e1,e2,e3⟩:=meetK_some hI (fun x hx=>by rw [Tr.get_set,if_neg (by omega)];exact hl x (by omega)) hh
     refine ⟨h',e1,fun x hx=>?_,fun x hx=>?_⟩
     ·by_cases e:x=n
      ·subst e
       have:h'.get x=some o1:=by rw [e3 x (Nat.le_refl _),Tr.get_set,if_pos rfl]
       left;rw [this,ho1,ho2,heq];exact ⟨rfl,rfl⟩
      ·exact e2 x (by omega)
     ·rw [e3 x (by omega),Tr.get_set,if_neg (by omega)]
    | false=>rw [hq,cond_false] at hh;exact skip (.inl (Nat.ble_eq.mp (bif_of hh).1)) (bif_of hh).2
   ·exact skip (.inl (Nat.ble_eq.mp (bif_of hh).1)) (bif_of hh).2
  ·rename_i ho1
   split at hh
   ·exact skip (.inl (Nat.ble_eq.mp (bif_of hh).1)) (bif_of hh).2
   ·rename_i ho2
    exact skip (.inr ⟨ho1,ho2⟩) hh
structure Sub2 (n0:Nat) (J p:SV × St):Prop where
 v:J.1=p.1
 nx:J.2.nx=p.2.nx
 base:J.2.base=p.2.base
 R:∀ x,x∈p.2.R→x∈J.2.R
 W:∀ x,x∈p.2.W→x∈J.2.W
 h:∀ x,x<J.2.nx→J.2.h.get x=p.2.h.get x∨(n0≤x∧J.2.h.get x=none)
theorem Sub2.refl (n0:Nat) (p:SV × St):Sub2 n0 p p:=⟨rfl,rfl,rfl,fun _ h=>h,fun _ h=>h,fun _ _=>.inl rfl⟩
theorem Sub2.trans {n0:Nat} {a b c:SV × St} (h:Sub2 n0 a b) (h':Sub2 n0 b c):Sub2 n0 a c :=
 ⟨h.v.trans h'.v,h.nx.trans h'.nx,h.base.trans h'.base,fun x hx=>h.R x (h'.R x hx),fun x hx=>h.W x (h'.W x hx),fun x hx=>by
  rcases h.h x hx with q | q
  ·rcases h'.h x (by rw [← h.nx];exact hx) with r | r
   ·exact .inl (q.trans r)
   ·exact .inr ⟨r.1,q.trans r.2⟩
  ·exact .inr q⟩
theorem Imm.of {r r1 r2:SLoop} (h1:Imm r r1) (h2:Imm r r2):Imm r1 r2 :=
 ⟨h2.N.trans h1.N.symm,h2.tmps.trans h1.tmps.symm,h2.params.trans h1.params.symm,h2.assign.trans h1.assign.symm,h2.body.trans h1.body.symm,h2.defers.trans h1.defers.symm⟩
theorem Mono.sub2 {p J:SV × St} (hp:Mono st p.2) (s:Sub2 st.nx J p):Mono st J.2:=by
 refine ⟨by rw [s.nx];exact hp.nx,s.base.trans hp.base,fun x hx=>s.R x (hp.R x hx),fun x hx=>?_⟩
 rcases s.h x (by rw [s.nx];exact Nat.lt_of_lt_of_le hx hp.nx) with q | q
 ·rw [q];exact hp.lp x hx
 ·omega
theorem join2_some {p q J:SV × St} (hp:Mono st p.2) (hq:Mono st q.2) (h:join2 st.nx p q=some J):Sub2 st.nx J p∧Sub2 st.nx J q∧∀ x,J.2.nx≤x→J.2.h.get x=none:=by
 obtain ⟨v,h1,nx,b,R,W⟩:=p
 obtain ⟨v',h2,nx',b',R',W'⟩:=q
 simp only [join2] at h
 have e1:=eqV_eq (bif_of h).1
 replace h:=(bif_of h).2
 have e2:=Nat.eq_of_beq_eq_true (bif_of h).1
 replace h:=(bif_of h).2
 have e3:=Nat.eq_of_beq_eq_true (bif_of h).1
 replace h:=(bif_of h).2
 obtain ⟨h',e4,e5,e6⟩:=meetK_some (fun x hx r r' g1 g2=>by
  obtain ⟨r0,k1,i1⟩:=(hp.lp x hx).1 r g1
  obtain ⟨r0',k2,i2⟩:=(hq.lp x hx).1 r' g2
  rw [k1] at k2
  simp only [Option.some.injEq,SO.loop.injEq] at k2
  subst k2
  exact i1.of i2) (fun x _=>Tr.get_lf x) h
 rw [appK_eq,appK_eq] at e4
 simp only [Option.some.injEq] at e4
 subst e4;subst e1;subst e2;subst e3
 refine ⟨⟨rfl,rfl,rfl,fun x hx=>List.mem_append_left _ hx,fun x hx=>List.mem_append_left _ hx,fun x hx=>?_⟩,⟨rfl,rfl,rfl,fun x hx=>List.mem_append_right _ hx,fun x hx=>List.mem_append_right _ hx,fun x hx=>?_⟩,fun x hx=>by show h'.get x=none;rw [e6 x hx];exact Tr.get_lf x⟩
 ·rcases e5 x hx with q | q
  ·exact .inl q.1
  ·exact .inr q
 ·rcases e5 x hx with q | q
  ·exact .inl q.2
  ·exact .inr q
theorem joinA_some:∀ {l:List (SV × St)} {p J:SV × St},Mono st p.2→(∀ q∈l,Mono st q.2)→(∀ x,p.2.nx≤x→p.2.h.get x=none)→joinA st.nx p l=some J→(∀ q,q∈p::l→Sub2 st.nx J q)∧∀ x,J.2.nx≤x→J.2.h.get x=none
 | [],p,J,_,_,hp,h=>by
  simp only [joinA,Option.some.injEq] at h
  subst h
  exact ⟨fun q hq=>by rw [List.mem_singleton] at hq;subst hq;exact Sub2.refl _ _,hp⟩
 | q::r,p,J,mp,ml,hp,h=>by
  simp only [joinA] at h
  split at h
  case h_2=>cases h
  rename_i p' hj
  obtain ⟨g1,g2,g3⟩:=join2_some mp (ml q (by simp)) hj
  obtain ⟨k1,k2⟩:=joinA_some (mp.sub2 g1) (fun z hz=>ml z (by simp [hz])) g3 h
  have hJ:=k1 p' List.mem_cons_self
  refine ⟨fun z hz=>?_,k2⟩
  rcases List.mem_cons.1 hz with rfl | hz
  ·exact hJ.trans g1
  ·rcases List.mem_cons.1 hz with rfl | hz
   ·exact hJ.trans g2
   ·exact k1 z (List.mem_cons_of_mem _ hz)
theorem joinL_ok {l:List (SV × St)} (hm:∀ p∈l,Mono st p.2):(∀ p∈l,∃ J∈joinL st.nx l,J=p∨(Sub2 st.nx J p∧∀ x,J.2.nx≤x→J.2.h.get x=none))∧∀ J∈joinL st.nx l,∃ p∈l,J=p∨Sub2 st.nx J p:=by
 match l,hm with
 | [],_=>exact ⟨fun p hp=>(by cases hp),fun p hp=>(by cases hp)⟩
 | [p],_=>exact ⟨fun q hq=>⟨q,hq,.inl rfl⟩,fun q hq=>⟨q,hq,.inl rfl⟩⟩
 | p::q::r,hm =>
  simp only [joinL]
  split
  ·rename_i J hJ
   simp only [joinA] at hJ
   split at hJ
   case h_2=>cases hJ
   rename_i p' hj
   obtain ⟨g1,g2,g3⟩:=join2_some (hm p (by simp)) (hm q (by simp)) hj
   obtain ⟨k1,k2⟩:=joinA_some ((hm p (by simp)).sub2 g1) (fun z hz=>hm z (by simp [hz])) g3 hJ
   have hJ':=k1 p' List.mem_cons_self
   refine ⟨fun z hz=>⟨J,by simp,.inr ⟨?_,k2⟩⟩,fun z hz=>?_⟩
   ·rcases List.mem_cons.1 hz with rfl | hz
    ·exact hJ'.trans g1
    ·rcases List.mem_cons.1 hz with rfl | hz
     ·exact hJ'.trans g2
     ·exact k1 z (List.mem_cons_of_mem _ hz)
   ·rw [List.mem_singleton] at hz
    subst hz
    exact ⟨p,by simp,.inr (hJ'.trans g1)⟩
  ·exact ⟨fun z hz=>⟨z,hz,.inl rfl⟩,fun z hz=>⟨z,hz,.inl rfl⟩⟩
theorem joinL_ne {n0:Nat} {l:List (SV × St)} (h:l≠[]):joinL n0 l≠[]:=by
 match l,h with
 | [p],_=>simp [joinL]
 | p::q::r,_ =>
  simp only [joinL]
  split <;> simp
theorem exF_mono (hr:RecMono rec) (hsm:SumMono sm) {f:FuncId} {args:List SV} {L:List (SV × St)} (h:exF P sm rec f args st=some L):∀ p∈L,Mono st p.2:=by
 unfold exF at h
 split at h
 ·rename_i s hs
  obtain ⟨p,hp,rfl⟩:=oneL_some h
  intro q hq
  rw [List.mem_singleton] at hq
  subst hq
  exact hsm f s args st _ _ hs hp
 ·split at h
  ·split at h
   ·refine Mono.bif h ?_ ?_ <;> intro h
    ·obtain ⟨env,h⟩:=envK_some h
     split at h
     ·rename_i L0 hL0
      split at h
      ·rename_i R hR
       simp only [Option.some.injEq] at h
       subst h
       intro J hJ
       have hmR:∀ p∈R,Mono st p.2:=by
        intro p hp
        obtain ⟨o,ho,lx,e1,e2⟩:=(mapB_mem hR).2 p hp
        obtain ⟨p',hp',rfl⟩:=oneL_some e1
        rw [List.mem_singleton] at e2
        subst e2
        obtain ⟨e,env',ds',st2⟩:=o
        exact (hr _ _ _ _ _ _ _ hL0 _ ho).trans (finS_mono hp')
       obtain ⟨p,hp,hj⟩:=(joinL_ok hmR).2 J hJ
       rcases hj with rfl | hj
       ·exact hmR _ hp
       ·exact (hmR p hp).sub2 hj
      ·cases h
     ·cases h
    ·cases h
   ·cases h
  ·cases h
theorem putsK_some {β:Type} {N:Nat} {r:β}:∀ {ts:List Tmp} {xs:List SV} {env:Tr SV} {k:Tr SV→Option β},putsK ts xs N env k=some r→∃ env',k env'=some r
 | [],[],env,k,h=>⟨env,h⟩
 | [],_::_,env,k,h=>by simp [putsK] at h
 | _::_,[],env,k,h=>by simp [putsK] at h
 | t::ts,x::xs,env,k,h=>by
  simp only [putsK] at h
  replace h:=(bif_of h).2
  rw [Tr.setK_eq] at h
  exact putsK_some h
theorem yEnd_some {l:Nat} {o:Out} (h:yEnd l o=some (v,st')):∃ r3 jump,o.2.2.2.h.get l=some (.loop r3)∧jmpOf o.1=jump∧v=.raw (.bool jump.isNone) ∧
 st'=⟨o.2.2.2.h.set l (some (.loop { r3 with state:=if jump.isNone then .ready else .done,pending:=jump })),o.2.2.2.nx,o.2.2.2.base,ins o.2.2.2.base l o.2.2.2.R,ins o.2.2.2.base l o.2.2.2.W⟩:=by
 obtain ⟨e3,env3,ds3,st3⟩:=o
 simp only [yEnd] at h
 split at h
 case h_2=>cases h
 rename_i r3 hg3
 split at h
 ·rename_i hj
  rw [wtK_eq] at h
  simp only [Option.some.injEq,Prod.mk.injEq] at h
  exact ⟨r3,none,hg3,hj,h.1.symm,h.2.symm⟩
 ·rename_i c hj
  rw [wtK_eq] at h
  simp only [Option.some.injEq,Prod.mk.injEq] at h
  exact ⟨r3,some c,hg3,hj,h.1.symm,h.2.symm⟩
theorem exYb_some {l:Nat} {r:SLoop} {env:Tr SV} {L:List (SV × St)} (hx:exYb rec l r env st=some L):∃ env1 ds1 st1 r1 L3,rec (some l) r.N r.assign env [] st=some [(.nrm,env1,ds1,st1)]∧st1.h.get l=some (.loop r1)∧r1.state=.ready ∧
 rec (some l) r.N r.body env1 ds1 ⟨st1.h.set l (some (.loop { r1 with state:=.busy })),st1.nx,st1.base,ins st1.base l st1.R,ins st1.base l st1.W⟩=some L3∧mapB (fun o=>oneL (yEnd l o)) L3=some L:=by
 unfold exYb at hx
 split at hx
 case h_2=>cases hx
 rename_i e env1 ds1 st1 h1
 cases e <;> simp only at hx <;> try (cases hx;done)
 split at hx
 case h_2=>cases hx
 rename_i r1 hg1
 split at hx
 case h_2=>cases hx
 rename_i hready
 rw [wtK_eq] at hx
 split at hx
 case h_2=>cases hx
 rename_i L3 h3
 exact ⟨env1,ds1,st1,r1,L3,h1,hg1,hready,h3,hx⟩
theorem exYb_mono (hr:RecMono rec) {l:Nat} {r:SLoop} {env:Tr SV} {L:List (SV × St)} (h:exYb rec l r env st=some L):∀ p∈L,Mono st p.2∧(l∈p.2.R∨st.base≤l):=by
 obtain ⟨env1,ds1,st1,r1,L3,h1,hg1,hready,h3,h4⟩:=exYb_some h
 intro p hp
 obtain ⟨o,ho,lx,e1,e2⟩:=(mapB_mem h4).2 p hp
 obtain ⟨p',hp',rfl⟩:=oneL_some e1
 rw [List.mem_singleton] at e2
 subst e2
 obtain ⟨v,s⟩:=p
 obtain ⟨r3,jump,hg3,hj,hv,rfl⟩:=yEnd_some hp'
 have m1:=hr _ _ _ _ _ _ _ h1 _ List.mem_cons_self
 have m3:=hr _ _ _ _ _ _ _ h3 _ ho
 have mset:∀ {s:St} {r r':SLoop},s.h.get l=some (.loop r)→Imm r r'→Mono s ⟨s.h.set l (some (.loop r')),s.nx,s.base,ins s.base l s.R,ins s.base l s.W⟩:=fun hg i=>⟨Nat.le_refl _,rfl,ins_sub _ _ _,fun y _=>KeepL.set (by rw [hg];simp) (fun q e=>by
  simp only [SO.loop.injEq] at e
  subst e
  exact ⟨_,hg,i⟩) y⟩
 have m13:Mono st o.2.2.2:=m1.trans ((mset (r':={ r1 with state:=.busy }) hg1 ⟨rfl,rfl,rfl,rfl,rfl,rfl⟩).trans m3)
 refine ⟨m13.trans (mset hg3 ⟨rfl,rfl,rfl,rfl,rfl,rfl⟩),?_⟩
 rcases ins_has o.2.2.2.base l o.2.2.2.R with q | q
 ·exact .inl q
 ·exact .inr (m13.base▸q)
theorem exY_mono (hr:RecMono rec) {l:Nat} {args:List SV} {L:List (SV × St)} (h:exY rec l args st=some L):∀ p∈L,Mono st p.2:=by
 unfold exY at h
 split at h
 ·obtain ⟨env,h⟩:=putsK_some h
  exact fun p hp=>(exYb_mono hr h p hp).1
 ·cases h
theorem oneL_mono {r:Option (SV × St)} {L:List (SV × St)} (h:oneL r=some L) (hm:∀ v s,r=some (v,s)→Mono st s):∀ p∈L,Mono st p.2:=by
 obtain ⟨p,hp,rfl⟩:=oneL_some h
 intro q hq
 rw [List.mem_singleton] at hq
 subst hq
 exact hm _ _ hp
theorem exO_mono (hr:RecMono rec) (hsm:SumMono sm) {env:Tr SV} {o:Oper} {L:List (SV × St)} (h:exO P sm rec env o st=some L):∀ p∈L,Mono st p.2:=by
 unfold exO at h
 split at h
 ·split at h
  ·exact oneL_mono h fun _ _=>biS_mono
  ·split at h
   ·exact exF_mono hr hsm h
   ·exact exY_mono hr h
   ·cases h
  ·cases h
 ·split at h
  ·exact nxS_mono h
  ·cases h
 ·exact oneL_mono h fun _ _=>opS_mono
theorem exL_mono (hr:RecMono rec) (hsm:SumMono sm) {N:Nat} {ops:List Oper}:∀ {l:List Oper} {env:Tr SV} {st:St} {L:List (Tr SV × St)},exL P sm rec N ops l env st=some L→∀ p∈L,Mono st p.2
 | [],env,st,L,h=>by
  simp only [exL,Option.some.injEq] at h
  subst h
  intro p hp
  rw [List.mem_singleton] at hp
  subst hp
  exact Mono.refl _
 | o::l,env,st,L,h=>by
  simp only [exL] at h
  split at h
  ·split at h
   ·rename_i L1 h1
    intro p hp
    obtain ⟨q,hq,lx,e1,e2⟩:=(mapB_mem h).2 p hp
    obtain ⟨env1,_,e1⟩:=putK_some e1
    exact (exO_mono hr hsm h1 q hq).trans (exL_mono hr hsm e1 p e2)
   ·cases h
  ·obtain ⟨env1,_,h⟩:=putK_some h
   exact exL_mono hr hsm h
  ·cases h
theorem exD_mono (hr:RecMono rec) (hsm:SumMono sm) {N:Nat} {ops:Array Oper} {env env':Tr SV} (h:exD P sm rec N ops env st=some (env',st')):Mono st st':=by
 obtain ⟨h0,nx0,bs,R0,W0⟩:=st
 simp only [exD] at h
 replace h:=(bif_of h).2
 split at h
 case h_2=>cases h
 rename_i envE hE nxE ts hR
 replace h:=(bif_of h).2
 obtain ⟨Rf,Wf,ht,hRf0,hWf0,htold⟩:=tellK_eq (b:=bs) (ts:=ts) (R:=R0) (W:=W0) (k:=fun R' W'=>some (envE,(⟨hE,nxE,bs,R',W'⟩:St)))
 rw [ht] at h
 simp only [Option.some.injEq,Prod.mk.injEq] at h
 obtain ⟨rfl,rfl⟩:=h
 obtain ⟨E,H,X,T,hE0,hH0,hX0,hEn,hHn,hXn,hts,hst⟩:=exR_seq hR
 have hXs:∀ i,i<ops.toList.length→X i≤X (i+1):=fun i hi=>(hst i ops.toList[i] (by simp)).le
 have:=mono_nat hXs (i:=0) (j:=ops.toList.length) (by omega) (Nat.le_refl _)
 rw [hX0,hXn] at this
 refine ⟨this,rfl,hRf0,fun x hx=>?_⟩
 have key:∀ i,i≤ops.toList.length→KeepL ((H 0).get x) ((H i).get x):=by
  intro i
  induction i with
  | zero=>exact fun _=>KeepL.refl _
  | succ i ih =>
   intro hi
   refine (ih (by omega)).trans ?_
   have s:=hst i ops.toList[i] (by simp)
   have hxi:x<X i:=by
    have:=mono_nat hXs (i:=0) (j:=i) (by omega) (by omega)
    rw [hX0] at this
    exact Nat.lt_of_lt_of_le hx this
   by_cases ht:x∈(T i).W∨(X i≤x∧x<X (i+1))
   ·rcases s.is with ⟨_,q1,q2,_⟩ | ⟨_,v,hq,b,hx',q1,_⟩
    ·rcases ht with r | r
     ·rw [q1] at r;cases r
     ·omega
    ·rw [q1 x ht]
     exact (exO_mono hr hsm hx' _ List.mem_cons_self).lp x hxi
   ·rw [s.out x ht];exact KeepL.refl _
 have:=key ops.toList.length (Nat.le_refl _)
 rw [hH0,hHn] at this
 exact this
theorem rfE_some {ro:Option Nat} {N:Nat} {env:Tr SV} {ds0:List Nat} {l:Nat} {L:List Out} (h:rfE rec ro N env ds0 l st=some L):∃ r,st.h.get l=some (.loop r)∧r.state≠.busy ∧
 (match r.pending with
   | none=>some [(.nrm,env,ds0,⟨st.h.set l (some (.loop { r with state:=.exhausted })),st.nx,st.base,ins st.base l st.R,ins st.base l st.W⟩)]
   | some c=>rec ro N c env ds0 ⟨st.h.set l (some (.loop { r with state:=.exhausted })),st.nx,st.base,ins st.base l st.R,ins st.base l st.W⟩)=some L:=by
 unfold rfE at h
 split at h
 case h_2=>cases h
 rename_i r hg
 refine ⟨r,hg,?_,?_⟩
 ·intro q;rw [q] at h;cases h
 ·split at h
  ·cases h
  ·rw [wtK_eq] at h;exact h
theorem rfE_mono (hr:RecMono rec) {ro:Option Nat} {N:Nat} {env:Tr SV} {ds0:List Nat} {l:Nat} {L:List Out} (h:rfE rec ro N env ds0 l st=some L):∀ o∈L,Mono st o.2.2.2∧(l∈o.2.2.2.R∨st.base≤l):=by
 obtain ⟨r,h1,h2,h3⟩:=rfE_some h
 intro o ho
 have m:Mono (⟨st.h.set l (some (.loop { r with state:=.exhausted })),st.nx,st.base,ins st.base l st.R,ins st.base l st.W⟩:St) o.2.2.2:=by
  split at h3
  ·simp only [Option.some.injEq] at h3
   subst h3
   rw [List.mem_singleton] at ho
   subst ho
   exact Mono.refl _
  ·exact hr _ _ _ _ _ _ _ h3 o ho
 have ms:Mono st ⟨st.h.set l (some (.loop { r with state:=.exhausted })),st.nx,st.base,ins st.base l st.R,ins st.base l st.W⟩:=⟨Nat.le_refl _,rfl,ins_sub _ _ _,fun y _=>KeepL.set (by rw [h1];simp) (fun q e=>by
  simp only [SO.loop.injEq] at e
  subst e
  exact ⟨_,h1,rfl,rfl,rfl,rfl,rfl,rfl⟩) y⟩
 refine ⟨ms.trans m,?_⟩
 rcases ins_has st.base l st.R with q | q
 ·exact .inl (m.R l q)
 ·exact .inr q
theorem rfB_some {ro:Option Nat} {N:Nat} {g:Operand} {env:Tr SV} {ds0:List Nat} {l:Nat} {L:List Out} (h:rfB P sm rec ro N g env ds0 l st=some L):∃ f first cap L3,svOp env g=.fn f first cap∧exF P sm rec f (appS first (.yield l::cap)) st=some L3∧mapB (fun p=>rfE rec ro N env ds0 l p.2) L3=some L:=by
 unfold rfB at h
 split at h
 case h_2=>cases h
 rename_i f first cap hsv
 split at h
 case h_2=>cases h
 rename_i L3 h3
 exact ⟨f,first,cap,L3,hsv,h3,h⟩
theorem rfB_mono (hr:RecMono rec) (hsm:SumMono sm) {ro:Option Nat} {N:Nat} {g:Operand} {env:Tr SV} {ds0:List Nat} {l:Nat} {L:List Out} (h:rfB P sm rec ro N g env ds0 l st=some L):∀ o∈L,Mono st o.2.2.2∧(l∈o.2.2.2.R∨st.base≤l):=by
 obtain ⟨f,first,cap,L3,h1,h2,h3⟩:=rfB_some h
 intro o ho
 obtain ⟨p,hp,lx,e1,e2⟩:=(mapB_mem h3).2 o ho
 have m:=exF_mono hr hsm h2 p hp
 obtain ⟨g1,g2⟩:=rfE_mono hr e1 o e2
 exact ⟨m.trans g1,by rw [← m.base];exact g2⟩
theorem rfS_mono (hr:RecMono rec) (hsm:SumMono sm) {ro:Option Nat} {N:Nat} {g:Operand} {ps:Array Tmp} {assign body:Code} {env:Tr SV} {ds:List Nat} {L:List Out} (h:rfS P sm rec ro N g ps assign body env ds st=some L):∀ o∈L,Mono st o.2.2.2:=by
 intro o ho
 unfold rfS at h
 split at h
 ·refine Mono.new h ?_
  intro d st1 h
  refine Mono.new h ?_
  intro l st2 h
  exact (rfB_mono hr hsm h o ho).1
 ·rename_i l0
  split at h
  ·rename_i r0 hg
   rw [insK_eq,newK_eq] at h
   have:=(rfB_mono hr hsm h o ho).1
   exact ⟨Nat.le_trans (Nat.le_succ _) this.nx,this.base,fun x hx=>this.R x (ins_sub _ _ _ x hx),fun x hx=>(KeepL.new hx).trans (this.lp x (Nat.lt_succ_of_lt hx))⟩
  ·cases h
theorem outs1 {o o':Out} {L:List Out} (h:some [o']=some L) (ho:o∈L):o=o':=by
 simp only [Option.some.injEq] at h
 subst h
 rwa [List.mem_singleton] at ho
theorem thnS_mono (hr:RecMono rec) {ro:Option Nat} {N:Nat} {y:Code} {o:Out} {L:List Out} (h:thnS rec ro N y o=some L):∀ o'∈L,Mono o.2.2.2 o'.2.2.2:=by
 obtain ⟨e,env',ds',st1⟩:=o
 intro o' ho'
 cases e <;> simp only [thnS] at h
 ·exact hr _ _ _ _ _ _ _ h o' ho'
 all_goals (rw [outs1 h ho'];exact Mono.refl _)
theorem stepC_mono (hr:RecMono rec) (hsm:SumMono sm):RecMono (stepC P sm rec):=by
 intro ro N c env ds st L h o ho
 cases c <;> simp only [stepC] at h
 case skip=>rw [outs1 h ho];exact Mono.refl _
 case region id ops draw =>
  split at h
  ·split at h
   ·rename_i L1 h1
    obtain ⟨p,hp,lx,e1,e2⟩:=(mapB_mem h).2 o ho
    rw [outs1 e1 e2]
    exact exL_mono hr hsm h1 p hp
   ·cases h
  ·split at h
   ·rename_i p h1
    rw [outs1 h ho]
    exact exD_mono hr hsm h1
   ·cases h
 case seq x y =>
  split at h
  ·rename_i L1 h1
   obtain ⟨p,hp,lx,e1,e2⟩:=(mapB_mem h).2 o ho
   exact (hr _ _ _ _ _ _ _ h1 p hp).trans (thnS_mono hr e1 o e2)
  ·cases h
 case cond c x y =>
  split at h
  ·exact hr _ _ _ _ _ _ _ h o ho
  ·exact hr _ _ _ _ _ _ _ h o ho
  ·cases h
 case block id b =>
  split at h
  ·rename_i L1 h1
   obtain ⟨p,hp,lx,e1,e2⟩:=(mapB_mem h).2 o ho
   refine (hr _ _ _ _ _ _ _ h1 p hp).trans ?_
   obtain ⟨e,env',ds',st1⟩:=p
   cases e <;> simp only [blkS] at e1
   case ext i =>
    refine Mono.bif e1 ?_ ?_ <;> intro h <;> (rw [outs1 h e2];exact Mono.refl _)
   all_goals (rw [outs1 e1 e2];exact Mono.refl _)
  ·cases h
 case loop b =>
  split at h
  ·rename_i L1 h1
   obtain ⟨p,hp,lx,e1,e2⟩:=(mapB_mem h).2 o ho
   exact (hr _ _ _ _ _ _ _ h1 p hp).trans (thnS_mono hr e1 o e2)
  ·cases h
 case rangeFunc g ps assign body=>exact rfS_mono hr hsm h o ho
 case exit id=>rw [outs1 h ho];exact Mono.refl _
 case scope b =>
  split at h
  ·rename_i L1 h1
   obtain ⟨p,hp,lx,e1,e2⟩:=(mapB_mem h).2 o ho
   refine (hr _ _ _ _ _ _ _ h1 p hp).trans ?_
   obtain ⟨e,env',ds',st1⟩:=p
   cases e <;> simp only [scoS] at e1 <;> first
    |(cases e1;done)
    |(rw [outs1 e1 e2];exact Mono.refl _)
  ·cases h
 case label l=>rw [outs1 h ho];exact Mono.refl _
 case goto l=>rw [outs1 h ho];exact Mono.refl _
 case ret=>rw [outs1 h ho];exact Mono.refl _
 case refuse=>cases h
def RecNE (rec:Rec):Prop:=∀ ro N c env ds st L,rec ro N c env ds st=some L→L≠[]
theorem mapB_ne {α β:Type} {f:α→Option (List β)} {l:List α} {L:List β} (h:mapB f l=some L) (hl:l≠[]) (hf:∀ x lx,f x=some lx→lx≠[]):L≠[]:=by
 obtain ⟨x,r,rfl⟩:=List.exists_cons_of_ne_nil hl
 obtain ⟨lx,e1,e2⟩:=(mapB_mem h).1 x (by simp)
 obtain ⟨y,ry,rfl⟩:=List.exists_cons_of_ne_nil (hf x lx e1)
 exact List.ne_nil_of_mem (e2 y (by simp))
theorem oneL_ne {α:Type} {r:Option α} {L:List α} (h:oneL r=some L):L≠[]:=by
 obtain ⟨p,_,rfl⟩:=oneL_some h
 simp
theorem nxS_ne {x:SV} {L:List (SV × St)} (h:nxS x st=some L):L≠[]:=by
 unfold nxS at h
 split at h
 ·split at h
  ·rw [insK_eq] at h
   simp only [Option.some.injEq] at h
   subst h;simp
  ·replace h:=(bif_of h).2
   obtain ⟨es,c,_,h⟩:=rdMK_some h
   replace h:=(bif_of h).2
   split at h
   ·rw [insK_eq] at h
    simp only [Option.some.injEq] at h
    subst h;simp
   ·exact List.ne_nil_of_mem (outsS_at h _ List.mem_cons_self)
  ·cases h
 ·cases h
theorem exF_ne (hr:RecNE rec) {f:FuncId} {args:List SV} {L:List (SV × St)} (h:exF P sm rec f args st=some L):L≠[]:=by
 unfold exF at h
 split at h
 ·exact oneL_ne h
 ·split at h
  ·split at h
   ·refine Mono.bif h ?_ ?_ <;> intro h
    ·obtain ⟨env,h⟩:=envK_some h
     split at h
     ·rename_i L0 hL0
      split at h
      ·rename_i R hR
       simp only [Option.some.injEq] at h
       subst h
       exact joinL_ne (mapB_ne hR (hr _ _ _ _ _ _ _ hL0) fun _ _=>oneL_ne)
      ·cases h
     ·cases h
    ·cases h
   ·cases h
  ·cases h
theorem exYb_ne (hr:RecNE rec) {l:Nat} {r:SLoop} {env:Tr SV} {L:List (SV × St)} (h:exYb rec l r env st=some L):L≠[]:=by
 obtain ⟨env1,ds1,st1,r1,L3,h1,hg1,hready,h3,h4⟩:=exYb_some h
 exact mapB_ne h4 (hr _ _ _ _ _ _ _ h3) fun _ _=>oneL_ne
theorem exO_ne (hr:RecNE rec) {env:Tr SV} {o:Oper} {L:List (SV × St)} (h:exO P sm rec env o st=some L):L≠[]:=by
 unfold exO at h
 split at h
 ·split at h
  ·exact oneL_ne h
  ·split at h
   ·exact exF_ne hr h
   ·unfold exY at h
    split at h
    ·obtain ⟨env,h⟩:=putsK_some h
     exact exYb_ne hr h
    ·cases h
   ·cases h
  ·cases h
 ·split at h
  ·exact nxS_ne h
  ·cases h
 ·exact oneL_ne h
theorem exL_ne (hr:RecNE rec) {N:Nat} {ops:List Oper}:∀ {l:List Oper} {env:Tr SV} {st:St} {L:List (Tr SV × St)},exL P sm rec N ops l env st=some L→L≠[]
 | [],env,st,L,h=>by
  simp only [exL,Option.some.injEq] at h
  subst h;simp
 | o::l,env,st,L,h=>by
  simp only [exL] at h
  split at h
  ·split at h
   ·rename_i L1 h1
    refine mapB_ne h (exO_ne hr h1) ?_
    intro p lx e1
    obtain ⟨env1,_,e1⟩:=putK_some e1
    exact exL_ne hr e1
   ·cases h
  ·obtain ⟨env1,_,h⟩:=putK_some h
   exact exL_ne hr h
  ·cases h
theorem rfE_ne (hr:RecNE rec) {ro:Option Nat} {N:Nat} {env:Tr SV} {ds0:List Nat} {l:Nat} {L:List Out} (h:rfE rec ro N env ds0 l st=some L):L≠[]:=by
 obtain ⟨r,h1,h2,h3⟩:=rfE_some h
 split at h3
 ·simp only [Option.some.injEq] at h3
  subst h3;simp
 ·exact hr _ _ _ _ _ _ _ h3
theorem rfB_ne (hr:RecNE rec) {ro:Option Nat} {N:Nat} {g:Operand} {env:Tr SV} {ds0:List Nat} {l:Nat} {L:List Out} (h:rfB P sm rec ro N g env ds0 l st=some L):L≠[]:=by
 obtain ⟨f,first,cap,L3,h1,h2,h3⟩:=rfB_some h
 exact mapB_ne h3 (exF_ne hr h2) fun _ _=>rfE_ne hr
theorem one_ne {α:Type} {p:α} {L:List α} (h:some [p]=some L):L≠[]:=by
 simp only [Option.some.injEq] at h
 subst h;simp
theorem thnS_ne (hr:RecNE rec) {ro:Option Nat} {N:Nat} {y:Code} {o:Out} {L:List Out} (h:thnS rec ro N y o=some L):L≠[]:=by
 obtain ⟨e,env',ds',st1⟩:=o
 cases e <;> simp only [thnS] at h
 ·exact hr _ _ _ _ _ _ _ h
 all_goals exact one_ne h
theorem blkS_ne {id:Nat} {o:Out} {L:List Out} (h:blkS id o=some L):L≠[]:=by
 obtain ⟨e,env',ds',st1⟩:=o
 cases e <;> simp only [blkS] at h
 case ext i=>refine Mono.bif h ?_ ?_ <;> intro h <;> exact one_ne h
 all_goals exact one_ne h
theorem scoS_ne {o:Out} {L:List Out} (h:scoS o=some L):L≠[]:=by
 obtain ⟨e,env',ds',st1⟩:=o
 cases e <;> simp only [scoS] at h <;> first
  |(cases h;done)
  | exact one_ne h
theorem stepC_ne (hr:RecNE rec):RecNE (stepC P sm rec):=by
 intro ro N c env ds st L h
 cases c <;> simp only [stepC] at h
 case skip=>exact one_ne h
 case region id ops draw =>
  split at h
  ·split at h
   ·rename_i L1 h1
    exact mapB_ne h (exL_ne hr h1) fun _ _=>one_ne
   ·cases h
  ·split at h
   ·exact one_ne h
   ·cases h
 case seq x y =>
  split at h
  ·rename_i L1 h1
   exact mapB_ne h (hr _ _ _ _ _ _ _ h1) fun _ _=>thnS_ne hr
  ·cases h
 case cond c x y =>
  split at h
  ·exact hr _ _ _ _ _ _ _ h
  ·exact hr _ _ _ _ _ _ _ h
  ·cases h
 case block id b =>
  split at h
  ·rename_i L1 h1
   exact mapB_ne h (hr _ _ _ _ _ _ _ h1) fun _ _=>blkS_ne
  ·cases h
 case loop b =>
  split at h
  ·rename_i L1 h1
   exact mapB_ne h (hr _ _ _ _ _ _ _ h1) fun _ _=>thnS_ne hr
  ·cases h
 case rangeFunc g ps assign body =>
  unfold rfS at h
  split at h
  ·simp only [newK_eq] at h
   exact rfB_ne hr h
  ·split at h
   ·rw [insK_eq,newK_eq] at h
    exact rfB_ne hr h
   ·cases h
 case exit id=>exact one_ne h
 case scope b =>
  split at h
  ·rename_i L1 h1
   exact mapB_ne h (hr _ _ _ _ _ _ _ h1) fun _ _=>scoS_ne
  ·cases h
 case label l=>exact one_ne h
 case goto l=>exact one_ne h
 case ret=>exact one_ne h
 case refuse=>cases h
end
end Go.TX
namespace Go.TX
open Go Go.TH
noncomputable section
variable {P:Program} {sm:Sums} {rec:Rec} {D:Nat→Prop} {ρ ρ' ρ1:Ren} {st st' st1 st2:St} {w w' w1:World}
def DsR (ρ:Ren):List Nat→List Deferred→Prop
 | [],l=>l=[]
 | d::ds,l=>∃ x s r,l=TH.mark x::r∧ρ d=some (x,s)∧DsR ρ ds r
theorem DsR.mono (h:ρ.Le ρ'):∀ {ds:List Nat} {l:List Deferred},DsR ρ ds l→DsR ρ' ds l
 | [],_,hd=>hd
 | _::_,_,⟨x,s,r,e1,e2,e3⟩=>⟨x,s,r,e1,h _ _ e2,e3.mono h⟩
def RoR (ρ:Ren):Option Nat→Option Nat→Prop
 | none,rb=>rb=none
 | some l,rb=>∃ b s,ρ l=some (b,s)∧rb=some b
theorem RoR.mono (h:ρ.Le ρ'):∀ {ro rb:Option Nat},RoR ρ ro rb→RoR ρ' ro rb
 | none,_,hr=>hr
 | some _,_,⟨b,s,e1,e2⟩=>⟨b,s,h _ _ e1,e2⟩
def fwd (r:Option Nat):Fence:={ Fence.wide with round:=r }
def exOf:Ex→Exit
 | .nrm=>.normal
 | .ext id=>.exit id
 | .gto l=>.goto l
 | .ret=>.ret
def PostC (ρ:Ren) (D:Nat→Prop) (N:Nat) (st:St) (w:World) (o:Out) (e':Exit) (a':Act) (w':World):Prop :=
 e'=exOf o.1∧∃ ρ',EnvR ρ' N o.2.1 a'.tmps∧DsR ρ' o.2.2.1 a'.defers∧Step ρ ρ' D st o.2.2.2 w w'
def CodeOK (P:Program) (rec:Rec):Prop:=∀ ro N c env ds st L,rec ro N c env ds st=some L →
 ∀ (ρ:Ren) (D:Nat→Prop) (w:World) (a:Act) (rb:Option Nat),EnvR ρ N env a.tmps→DsR ρ ds a.defers→RoR ρ ro rb→Sim ρ D st w→(∀ o∈L,∀ x,x∈o.2.2.2.R∨st.base≤x→D x)→(∀ o∈L,Free ρ st.nx o.2.2.2.nx) →
  c.wpIn (fwd rb) 0 P (fun e' a' w'=>∃ o∈L,PostC ρ D N st w o e' a' w') a w
def FunOK (P:Program) (f:FuncId) (args:List SV) (st:St) (L:List (SV × St)):Prop :=
 ∀ (ρ:Ren) (D:Nat→Prop) (w:World) (us:List Value),RelL ρ args us→Sim ρ D st w→(∀ p∈L,∀ x,x∈p.2.R∨st.base≤x→D x)→(∀ p∈L,Free ρ st.nx p.2.nx) →
  CallsIn Fence.wide 0 P f us.toArray w (fun e w'=>∃ p∈L,∃ u ρ',e=.returned u∧Rel ρ' p.1 u∧Step ρ ρ' D st p.2 w w')
def HasBody (P:Program) (f:FuncId):Prop:=∃ fn c,P.funcs[f]?=some fn∧fn.body=some c
def SumOK (P:Program) (sm:Sums):Prop:=SumMono sm∧∀ f s args st v st',sm f=some s→s args st=some (v,st')→FunOK P f args st [(v,st')]∧HasBody P f
def Enters (P:Program):Prop:=∀ f,HasBody P f→∀ (args:Array Value) (w:World),(callFunc f args).run P w=.ok (.enter f args) w
theorem Step.fst (m:Mono st1 st2) (hD:∀ x,x∈st2.R∨st.base≤x→D x) (hf:Free ρ st.nx st2.nx):(∀ x,x∈st1.R∨st.base≤x→D x)∧Free ρ st.nx st1.nx :=
 ⟨fun x hx=>hD x (by rcases hx with q | q;exact .inl (m.R x q);exact .inr q),fun x h1 h2=>hf x h1 (Nat.lt_of_lt_of_le h2 m.nx)⟩
theorem Step.snd (h:Step ρ ρ1 D st st1 w w1) (hD:∀ x,x∈st2.R∨st.base≤x→D x) (hf:Free ρ st.nx st2.nx):(∀ x,x∈st2.R∨st1.base≤x→(D x∨st.nx≤x))∧Free ρ1 st1.nx st2.nx :=
 ⟨fun x hx=>.inl (hD x (by rw [h.base] at hx;exact hx)),h.free hf⟩
theorem mapB_fst {α β:Type} {f:α→Option (List β)} {s:α→St} {t:β→St} {l:List α} {L:List β} (h:mapB f l=some L) (hne:∀ a lx,f a=some lx→lx≠[]) (hm:∀ a lx,f a=some lx→∀ b∈lx,Mono (s a) (t b)) (hD:∀ b∈L,∀ x,x∈(t b).R∨st.base≤x→D x) (hf:∀ b∈L,Free ρ st.nx (t b).nx) :
 (∀ a∈l,∀ x,x∈(s a).R∨st.base≤x→D x)∧∀ a∈l,Free ρ st.nx (s a).nx:=by
 have key:∀ a∈l,∃ b∈L,Mono (s a) (t b):=by
  intro a ha
  obtain ⟨lx,e1,e2⟩:=(mapB_mem h).1 a ha
  obtain ⟨b,r,rfl⟩:=List.exists_cons_of_ne_nil (hne a lx e1)
  exact ⟨b,e2 b (by simp),hm a _ e1 b (by simp)⟩
 constructor
 ·intro a ha
  obtain ⟨b,hb,m⟩:=key a ha
  exact (Step.fst m (hD b hb) (hf b hb)).1
 ·intro a ha
  obtain ⟨b,hb,m⟩:=key a ha
  exact (Step.fst m (hD b hb) (hf b hb)).2
theorem Step.weaken {p J:SV × St} (h:Step ρ ρ' D st p.2 w w') (s:Sub2 st.nx J p) (hz:∀ x,J.2.nx≤x→J.2.h.get x=none):Step ρ ρ' D st J.2 w w':=by
 have hnx:=s.nx
 have hold:∀ x,x<st.nx→J.2.h.get x=p.2.h.get x:=fun x hx=>by
  rcases s.h x (by have:=h.nx;omega) with q | q
  ·exact q
  ·omega
 have hsome:∀ x,J.2.h.get x≠none→J.2.h.get x=p.2.h.get x:=fun x hx=>by
  by_cases hl:x<J.2.nx
  ·rcases s.h x hl with q | q
   ·exact q
   ·exact absurd q.2 hx
  ·exact absurd (hz x (by omega)) hx
 refine ⟨h.os,h.tape,h.output,h.size,by rw [hnx];exact h.nx,s.base.trans h.base,fun x hx=>s.R x (h.sR x hx),fun x hx=>s.W x (h.sW x hx),fun x hx=>h.ext x (by rw [← hnx];exact hx),?_,?_,?_,?_,?_⟩
 ·intro b hb
  rcases h.keep b hb with q | ⟨x,z,q1,q2,q3,q4⟩
  ·exact .inl q
  ·exact .inr ⟨x,z,q1,q2,q3,by rcases q4 with q | q;exact .inl (s.W x q);exact .inr q⟩
 ·intro x hx hn
  rw [hold x hx];exact h.dead x hx hn
 ·intro x hx
  rw [hold x hx]
  rcases h.same x hx with q | q
  ·exact .inl (by rcases q with q | q;exact .inl (s.W x q);exact .inr q)
  ·exact .inr q
 ·intro x b z hx hg hr
  rw [hsome x hg] at hg
  rcases h.fresh x b z hx hg hr with q | ⟨y,z',q1,q2,q3,q4,q5,q6⟩
  ·exact .inl q
  ·exact .inr ⟨y,z',q1,q2,q3,q4,by rw [hold y q1];exact q5,by rcases q6 with q | q;exact .inl (s.W y q);exact .inr q⟩
 ·refine ⟨fun x o d g=>?_,fun x y b z z' d d' g g'=>?_,fun x g=>?_⟩
  ·have hs:=hsome x (by rw [g];simp)
   exact h.sim.live x o d (by rw [← hs];exact g)
  ·rw [hsome x g] at g
   rw [hsome y g'] at g'
   exact h.sim.inj x y b z z' d d' g g'
  ·rw [hsome x g] at g
   rw [hnx];exact h.sim.lt x g
theorem envK_get {β:Type} {r:β}:∀ {l:List SV} {i:Nat} {env:Tr SV} {k:Tr SV→Option β},envK l i env k=some r→∃ env',k env'=some r∧∀ t,env'.get t=if i≤t∧t<i+l.length then l[t-i]? else env.get t
 | [],i,env,k,h=>⟨env,h,fun t=>by rw [if_neg (by simp)]⟩
 | x::l,i,env,k,h=>by
  simp only [envK,Tr.setK_eq] at h
  obtain ⟨env',h1,h2⟩:=envK_get h
  refine ⟨env',h1,fun t=>?_⟩
  rw [h2 t,Tr.get_set]
  by_cases e:t=i
  ·subst e
   rw [if_neg (by omega),if_pos rfl,if_pos (by simp)]
   simp
  ·by_cases hr:i+1≤t∧t<i+1+l.length
   ·rw [if_pos (by simp;omega),if_pos (by simp;omega)]
    have:t-i=(t-(i+1))+1:=by omega
    rw [this,List.getElem?_cons_succ]
   ·rw [if_neg (by simp;omega),if_neg e,if_neg (by simp;omega)]
theorem envR_args {args:List SV} {us:List Value} {n:Nat} {env':Tr SV} (h:RelL ρ args us) (hn:args.length≤n) (he:∀ t,env'.get t=if 0≤t∧t<0+args.length then args[t-0]? else (Tr.lf:Tr SV).get t):EnvR ρ n env' (us.toArray++Array.replicate (n-us.toArray.size) undef):=by
 have hl:=h.len
 refine ⟨by simp;omega,fun t=>?_⟩
 rw [he t]
 by_cases ht:t<args.length
 ·rw [if_pos (by omega)]
  have hlt:t<us.length:=by omega
  have e1:(us.toArray++Array.replicate (n-us.toArray.size) undef).getD t undef=us[t]:=by
   rw [Array.getD_eq_getD_getElem?,Array.getElem?_append_left (by simpa using hlt)]
   simp [hlt]
  rw [e1,Nat.sub_zero,List.getElem?_eq_getElem ht]
  exact (RelL.iff.1 h).2 t _ _ (by simp [ht]) (by simp [hlt])
 ·rw [if_neg (by omega),Tr.get_lf]
  have e1:(us.toArray++Array.replicate (n-us.toArray.size) undef).getD t undef=undef:=by
   rw [Array.getD_eq_getD_getElem?,Array.getElem?_append_right (by simp;omega)]
   rw [Array.getElem?_replicate]
   split <;> rfl
  rw [e1]
  show Rel ρ (.raw undef) undef
  rw [Rel]
theorem ldS_ptr {T:TypeId} {p v:SV} (h:ldS P T p st=some (v,st')):∃ x o,p=.ptr x o:=by
 cases p <;> simp only [ldS] at h <;> first | (cases h;done) | exact ⟨_,_,rfl⟩
theorem rvK_ok {N:Nat} {env:Tr SV} {r:ResultVar} {v:SV} {tmps:Array Value} (he:EnvR ρ N env tmps) (h:rvK P env r st=some (v,st')) (hs:Sim ρ D st w) (hD:∀ x,x∈st'.R∨st.base≤x→D x):∃ u,(rvS tmps r).run P w=.ok u w∧Rel ρ v u∧Step ρ ρ D st st' w w:=by
 have hsv:∀ t,Rel ρ (svOp env (.tmp t)) (tmps.getD t undef):=fun t=>svOp_rel (a:=⟨tmps,[]⟩) he (.tmp t)
 cases r with
 | tmp t =>
  simp only [rvK,Option.some.injEq,Prod.mk.injEq] at h
  obtain ⟨rfl,rfl⟩:=h
  exact ⟨_,rfl,hsv t,Step.refl hs⟩
 | cell b T =>
  simp only [rvK] at h
  obtain ⟨x,o,hx⟩:=ldS_ptr h
  have hr:=hsv b
  have hd:=ldS_ok1 hr h hs hD
  rw [hx,Rel] at hr
  obtain ⟨B,s,_,hu⟩:=hr
  obtain ⟨u,h1,h2,h3⟩:=hd
  refine ⟨u,?_,h2,h3⟩
  rw [hu] at h1
  simp only [rvS,hu]
  simpa [Instr.loadAt,Instr.sureAddr,asAddr] using h1
theorem resK_ok {N:Nat} {env:Tr SV} {r:SV × St} {tmps:Array Value}:∀ {rs:List ResultVar} {D:Nat→Prop} {st:St} {k:List SV→St→Option (SV × St)},(∀ l s,k l s=some r→s=r.2)→resK P env rs st k=some r→EnvR ρ N env tmps→Sim ρ D st w→(∀ x,x∈r.2.R∨st.base≤x→D x)→Free ρ st.nx r.2.nx →
 ∃ l us,k l r.2=some r∧(rs.mapM (rvS tmps)).run P w=.ok us w∧RelL ρ l us∧Step ρ ρ D st r.2 w w
 | [],D,st,k,hk,h,he,hs,hD,hf=>by
  simp only [resK] at h
  have:=hk _ _ h
  subst this
  exact ⟨[],[],h,by simp,RelL.nil,Step.refl hs⟩
 | x::rs,D,st,k,hk,h,he,hs,hD,hf=>by
  simp only [resK] at h
  split at h
  case h_2=>cases h
  rename_i v1 st1 h1
  have hm:Mono st1 r.2:=Mono.res h fun l s hs=>by have:=hk _ _ hs;rw [this];exact Mono.refl _
  obtain ⟨d1,f1⟩:=Step.fst (D:=D) (ρ:=ρ) (st:=st) hm hD hf
  obtain ⟨u,e1,e2,e3⟩:=rvK_ok he h1 hs d1
  obtain ⟨d2,f2⟩:=e3.snd hD hf
  obtain ⟨l,us,g1,g2,g3,g4⟩:=resK_ok (D:=fun x=>D x∨st.nx≤x) (k:=fun vs st2=>k (v1::vs) st2) (fun l s hs=>hk _ _ hs) h he e3.sim d2 f2
  refine ⟨v1::l,u::us,g1,?_,RelL.cons e2 g3,e3.trans g4⟩
  rw [List.mapM_cons]
  simp [e1,g2]
theorem shut_ok {N:Nat} {env:Tr SV} {fn:Func} {tmps:Array Value} {r:SV × St} {R:Ending→World→Prop} {D:Nat→Prop} {k:St→Option (SV × St)} (hkm:∀ s,k s=some r→Mono s r.2):∀ {ds:List Nat} {dl:List Deferred} {st:St} {w:World},shutK ds st k=some r→DsR ρ ds dl→EnvR ρ N env tmps→Sim ρ D st w→(∀ x,x∈r.2.R∨st.base≤x→D x)→Free ρ st.nx r.2.nx →
 (∀ st3 w3,k st3=some r→Step ρ ρ D st st3 w w3→∃ u,(results fn tmps).run P w3=.ok u w3∧R (.returned u) w3)→LeavesInM Fence.wide 0 P fn tmps R dl .returning w
 | [],dl,st,w,h,hd,he,hs,hD,hf,hfin=>by
  simp only [DsR] at hd
  subst hd
  exact hfin st w h (Step.refl hs)
 | d::ds,dl,st,w,h,hd,he,hs,hD,hf,hfin=>by
  obtain ⟨x,s,rl,rfl,e2,e3⟩:=hd
  simp only [shutK] at h
  split at h
  case h_2=>cases h
  rename_i hg
  rw [wtK_eq] at h
  have hm:=Mono.shut h hkm
  have hdd:D d:=hD d (by
   rcases ins_has st.base d st.R with q | q
   ·exact .inl (hm.R d q)
   ·exact .inr q)
  obtain ⟨b,s',ob,q1,q2,q3⟩:=hs.live d _ hdd hg
  rw [e2] at q1;cases q1
  simp only [ORel,cond_false] at q3
  subst q3
  have hlt:x<w.heap.size:=(Array.getElem?_eq_some_iff.1 q2).1
  have hstep:Step ρ ρ D st ⟨st.h.set d (some (.dfr true)),st.nx,st.base,ins st.base d st.R,ins st.base d st.W⟩ w { w with heap:=w.heap.setIfInBounds x (.deferred none) } :=
   Step.upd hs hdd (by rw [hg];simp) e2 (o:=.dfr true) (ob:=.deferred none) rfl (ins_sub _ _ _) (ins_sub _ _ _) (ins_has _ _ _) rfl rfl rfl (by simp) (by simp [hlt]) (fun k hk=>by simp [Ne.symm hk])
  refine ⟨by simp,.inl ⟨x,{ w with heap:=w.heap.setIfInBounds x (.deferred none) },rfl,?_,?_⟩⟩
  ·simp only [Instr.takeDeferred,Sem.run_bind]
   simp [getObj,setObj,Sem.run,q2,Result.andThen]
  ·have hs2:Sim ρ D ⟨st.h.set d (some (.dfr true)),st.nx,st.base,ins st.base d st.R,ins st.base d st.W⟩ { w with heap:=w.heap.setIfInBounds x (.deferred none) }:=hstep.sim.sub fun x d=>.inl d
   refine shut_ok hkm h e3 he hs2 hD hf ?_
   intro st3 w3 hk3 h3
   refine hfin st3 w3 hk3 (hstep.trans ⟨h3.os,h3.tape,h3.output,h3.size,h3.nx,h3.base,h3.sR,h3.sW,h3.ext,fun b hb=>?_,h3.dead,h3.same,fun x b s hx hg hr=>?_,?_⟩)
   ·rcases h3.keep b hb with q | ⟨y,s,q1,q2,q3,q4⟩
    ·exact .inl q
    ·exact .inr ⟨y,s,q1,.inl q2,q3,q4⟩
   ·rcases h3.fresh x b s hx hg hr with q | ⟨z,s',q1,q2,q3,q4,q5,q6⟩
    ·exact .inl q
    ·exact .inr ⟨z,s',q1,q2,.inl q3,q4,q5,q6⟩
   ·exact h3.sim.sub fun x d=>by
     rcases d with (d | d) | d
     ·exact .inl d
     ·exact .inr (Nat.le_trans (Nat.le_refl _) d)
     ·exact .inr d
theorem oneOf_rel {l:List SV} {us:List Value} (h:RelL ρ l us):Rel ρ (oneOf l) (if h:us.toArray.size=1 then us.toArray[0] else .tuple us.toArray):=by
 have hl:=h.len
 match l,us,h with
 | [s],[u],h =>
  rw [RelL] at h
  obtain ⟨v,r,e,h1,h2⟩:=h
  cases e
  exact h1
 | [],[],h=>simp only [oneOf,Rel];exact ⟨[],RelL.nil,rfl⟩
 | a::b::l,us,h =>
  have:¬ us.toArray.size=1:=by simp at hl ⊢;omega
  rw [dif_neg this]
  simp only [oneOf,Rel]
  exact ⟨us,h,rfl⟩
 | [],_::_,h=>simp at hl
 | [_],[],h=>simp at hl
 | [_],_::_::_,h=>simp at hl
theorem results_ok {N:Nat} {env:Tr SV} {fn:Func} {tmps:Array Value} {v:SV} (h:(resK P env fn.results.toList st fun vs st3=>some (oneOf vs,st3))=some (v,st')) (he:EnvR ρ N env tmps) (hs:Sim ρ D st w) (hD:∀ x,x∈st'.R∨st.base≤x→D x) (hf:Free ρ st.nx st'.nx) :
 ∃ u,(results fn tmps).run P w=.ok u w∧Rel ρ v u∧Step ρ ρ D st st' w w:=by
 obtain ⟨l,us,g1,g2,g3,g4⟩:=resK_ok (D:=D) (tmps:=tmps) (fun l s hs=>by simp only [Option.some.injEq] at hs;rw [← hs]) h he hs hD hf
 simp only [Option.some.injEq,Prod.mk.injEq] at g1
 refine ⟨_,?_,by rw [← g1.1];exact oneOf_rel g3,g4⟩
 rw [results_rvS]
 have e:fn.results=fn.results.toList.toArray:=rfl
 rw [e,List.mapM_toArray]
 simp [g2]
theorem finS_ok {N:Nat} {fn:Func} {o:Out} {v:SV} {a':Act} {w0:World} {st0:St} {ρ0:Ren} (h:finS P fn o=some (v,st')) (he:EnvR ρ N o.2.1 a'.tmps) (hds:DsR ρ o.2.2.1 a'.defers) (hst:Step ρ0 ρ D st0 o.2.2.2 w0 w) (hD:∀ x,x∈st'.R∨st0.base≤x→D x) (hf:Free ρ0 st0.nx st'.nx)
 {R:Ending→World→Prop} (hR:∀ u w',Rel ρ v u→Step ρ0 ρ D st0 st' w0 w'→R (.returned u) w'):(o.1=.nrm∨o.1=.ret)∧LeavesInM Fence.wide 0 P fn a'.tmps R a'.defers .returning w:=by
 obtain ⟨e,env',ds',st1⟩:=o
 obtain ⟨d2,f2⟩:=hst.snd hD hf
 have tail:∀ {k:St→Option (SV × St)},k=(fun st2=>resK P env' fn.results.toList st2 fun vs st3=>some (oneOf vs,st3))→shutK ds' st1 k=some (v,st')→LeavesInM Fence.wide 0 P fn a'.tmps R a'.defers .returning w:=by
  intro k hk h
  subst hk
  refine shut_ok (r:=(v,st')) (fun s hs=>Mono.res hs fun l s hs=>Mono.fin hs) h hds he hst.sim d2 f2 ?_
  intro st3 w3 h3 hst3
  obtain ⟨d4,f4⟩:=(hst.trans hst3).snd hD hf
  obtain ⟨u,g1,g2,g3⟩:=results_ok h3 he (hst.trans hst3).sim d4 f4
  exact ⟨u,g1,hR u w3 g2 ((hst.trans hst3).trans g3)⟩
 unfold finS at h
 simp only at h
 cases e <;> simp only at h
 ·exact ⟨.inl rfl,tail rfl h⟩
 ·cases h
 ·cases h
 ·exact ⟨.inr rfl,tail rfl h⟩
theorem exF_ok (hrm:RecMono rec) (hrn:RecNE rec) (hr:CodeOK P rec) (hsm:SumOK P sm) {f:FuncId} {args:List SV} {L:List (SV × St)} (h:exF P sm rec f args st=some L):FunOK P f args st L∧HasBody P f:=by
 unfold exF at h
 split at h
 ·rename_i s hs
  obtain ⟨p,hp,rfl⟩:=oneL_some h
  exact hsm.2 f s args st p.1 p.2 hs hp
 ·split at h
  case h_2=>cases h
  rename_i fn hfn
  split at h
  case h_2=>cases h
  rename_i c hb
  refine ⟨?_,fn,c,hfn,hb⟩
  have hlen:=Nat.ble_eq.mp (bif_of h).1
  replace h:=(bif_of h).2
  rw [llen_eq] at hlen
  obtain ⟨env,h,henv⟩:=envK_get h
  split at h
  case h_2=>cases h
  rename_i L0 hL0
  split at h
  case h_2=>cases h
  rename_i R hR
  simp only [Option.some.injEq] at h
  subst h
  intro ρ D w us hrel hs hD hf
  have hmR:∀ p∈R,Mono st p.2:=by
   intro p hp
   obtain ⟨o,ho,lx,e1,e2⟩:=(mapB_mem hR).2 p hp
   obtain ⟨p',hp',rfl⟩:=oneL_some e1
   rw [List.mem_singleton] at e2
   subst e2
   obtain ⟨e,env',ds',st2⟩:=o
   exact (hrm _ _ _ _ _ _ _ hL0 _ ho).trans (finS_mono hp')
  have hRD:(∀ p∈R,∀ x,x∈p.2.R∨st.base≤x→D x)∧∀ p∈R,Free ρ st.nx p.2.nx:=by
   constructor
   ·intro p hp x hx
    obtain ⟨J,hJ,q⟩:=(joinL_ok hmR).1 p hp
    rcases q with rfl | ⟨q,_⟩
    ·exact hD _ hJ x hx
    ·exact hD J hJ x (by rcases hx with hx | hx;exact .inl (q.R x hx);exact .inr hx)
   ·intro p hp
    obtain ⟨J,hJ,q⟩:=(joinL_ok hmR).1 p hp
    rcases q with rfl | ⟨q,_⟩
    ·exact hf _ hJ
    ·rw [← q.nx];exact hf J hJ
  obtain ⟨d1,f1⟩:=mapB_fst (s:=fun o:Out=>o.2.2.2) (t:=fun p:SV × St=>p.2) hR (fun _ _=>oneL_ne) (fun o lx e1 b hb=>by
   obtain ⟨p',hp',rfl⟩:=oneL_some e1
   rw [List.mem_singleton] at hb
   subst hb
   obtain ⟨e,env',ds',st2⟩:=o
   exact finS_mono hp') hRD.1 hRD.2
  have hE:=envR_args (n:=fn.ntmps) hrel hlen henv
  refine callsIn_of_wp_marks hfn hb trivial ?_
  have hc:=hr none fn.ntmps c env [] st L0 hL0 ρ D w { tmps:=us.toArray++Array.replicate (fn.ntmps-us.toArray.size) undef,defers:=[] } none hE rfl rfl hs d1 f1
  refine wpIn_mono hc ?_
  rintro e' a' w' ⟨o,ho,he',ρ1,he1,hd1,hst1⟩
  obtain ⟨lx,e1,e2⟩:=(mapB_mem hR).1 o ho
  obtain ⟨p,hp,rfl⟩:=oneL_some e1
  have hpR:p∈R:=e2 p (by simp)
  obtain ⟨hx,hl⟩:=finS_ok (a':=a') (w:=w') (D:=D) (R:=fun e w'=>∃ p∈joinL st.nx R,∃ u ρ',e=.returned u∧Rel ρ' p.1 u∧Step ρ ρ' D st p.2 w w') hp he1 hd1 hst1 (hRD.1 p hpR) (hRD.2 p hpR) (by
   intro u w3 hu hst3
   obtain ⟨J,hJ,q⟩:=(joinL_ok hmR).1 p hpR
   rcases q with rfl | ⟨q,hz⟩
   ·exact ⟨_,hJ,u,ρ1,rfl,hu,hst3⟩
   ·exact ⟨J,hJ,u,ρ1,rfl,by rw [q.v];exact hu,hst3.weaken q hz⟩)
  rcases hx with hx | hx <;> rw [hx] at he' <;> subst he' <;> exact hl
end
end Go.TX
namespace Go.TX
open Go Go.TH
noncomputable section
variable {P:Program} {sm:Sums} {rec:Rec} {D:Nat→Prop} {ρ ρ' ρ1:Ren} {st st' st1 st2:St} {w w' w1:World} {N:Nat}
theorem OpOK.of_did {F:Fence} (hF:∀ f,F.fn f) {o:Oper} {env:Tr SV} {L:List (SV × St)} (hd:∀ c,o.op≠.defer c) (h:∀ (ρ:Ren) (D:Nat→Prop) (w:World) (a:Act),EnvR ρ N env a.tmps→Sim ρ D st w→(∀ p∈L,∀ x,x∈p.2.R∨st.base≤x→D x)→(∀ p∈L,Free ρ st.nx p.2.nx)→∃ p∈L,OpDid P ρ D st p.2 w p.1 (execOp a.eval o)):OpOK P F N o env st L:=by
 intro ρ D w a K Q he hs hD hf hK
 refine ⟨fun f _=>hF f,?_⟩
 rw [Oper.semAt_eq _ _ _ hd]
 obtain ⟨p,hp,u,w',ρ',h1,h2,h3⟩:=h ρ D w a he hs hD hf
 rcases h1 with h1 | ⟨h1,rfl⟩
 ·rw [h1];exact hK p hp u w' ρ' h2 h3
 ·rw [h1];exact hK p hp undef w' ρ' h2 h3
theorem OpOK.of_one {F:Fence} (hF:∀ f,F.fn f) {o:Oper} {env:Tr SV} {r:Option (SV × St)} {L:List (SV × St)} (hd:∀ c,o.op≠.defer c) (hL:oneL r=some L) (h:∀ (v:SV) (st':St) (ρ:Ren) (D:Nat→Prop) (w:World) (a:Act),r=some (v,st')→EnvR ρ N env a.tmps→Sim ρ D st w→(∀ x,x∈st'.R∨st.base≤x→D x)→Free ρ st.nx st'.nx→OpDid P ρ D st st' w v (execOp a.eval o)):OpOK P F N o env st L:=by
 obtain ⟨p,hp,rfl⟩:=oneL_some hL
 exact OpOK.of_did hF hd fun ρ D w a he hs hD hf=>⟨p,by simp,h p.1 p.2 ρ D w a hp he hs (hD p (by simp)) (hf p (by simp))⟩
theorem appS_eq:∀ (l r:List SV),appS l r=l++r
 | [],_=>rfl
 | x::l,r=>by simp [appS,appS_eq l r]
theorem upon_enter {ro:Option Nat} {o:Oper} {a:Act} {K:Act→World→Prop} {Q:Exit→Act→World→Prop} {f:FuncId} {args:Array Value} {w:World} {R:Ending→World→Prop} (h:CallsIn Fence.wide 0 P f args w R) (hR:∀ e w',R e w'→∃ v,e=.returned v∧K (a.put o.dst v) w'):o.uponIn (fwd ro) 0 P a K Q (.ok (.enter f args) w):=by
 refine ⟨fun h=>by simp [fwd,Fence.wide] at h,?_⟩
 refine CallsIn.mono (callsIn_round (ro:=ro) h) ?_
 intro e w' hr
 obtain ⟨v,rfl,hk⟩:=hR e w' hr
 exact hk
theorem Step.loop (hs:Sim ρ D st w) {l b:Nat} {s:Nat × Nat} {r r':SLoop} {q q':Loop} {R W:List Nat} (hd:D l) (hg:st.h.get l=some (.loop r)) (hx:ρ l=some (b,s)) (hb:w.heap[b]?=some (.loop q)) (ho:ORel ρ s (.loop r') (.loop q')) (hR:∀ x,x∈st.R→x∈R) (hW:∀ x,x∈st.W→x∈W) (hxW:l∈W∨st.base≤l) :
 Step ρ ρ D st ⟨st.h.set l (some (.loop r')),st.nx,st.base,R,W⟩ w (w.putObj b (.loop q')):=by
 have hlt:b<w.heap.size:=(Array.getElem?_eq_some_iff.1 hb).1
 exact Step.upd hs hd (by rw [hg];simp) hx ho hR hW hxW rfl rfl rfl (by simp) (World.putObj_heap_same hlt) (fun k hk=>World.putObj_heap_other hk)
theorem putsK_get {β:Type} {r:β}:∀ {ts:List Tmp} {xs:List SV} {us:List Value} {env:Tr SV} {tmps:Array Value} {k:Tr SV→Option β},putsK ts xs N env k=some r→RelL ρ xs us→EnvR ρ N env tmps→∃ env',k env'=some r∧xs.length=ts.length∧EnvR ρ N env' ((ts.zip us).foldl (fun tmps (t,a)=>tmps.setIfInBounds t a) tmps)
 | [],[],us,env,tmps,k,h,hr,he=>by
  rw [RelL] at hr;subst hr
  exact ⟨env,h,rfl,he⟩
 | [],_::_,_,env,tmps,k,h,_,_=>by simp [putsK] at h
 | _::_,[],_,env,tmps,k,h,_,_=>by simp [putsK] at h
 | t::ts,x::xs,us,env,tmps,k,h,hr,he=>by
  rw [RelL] at hr
  obtain ⟨u,us',rfl,h1,h2⟩:=hr
  simp only [putsK] at h
  have ht:=Nat.blt_eq.mp (bif_of h).1
  replace h:=(bif_of h).2
  rw [Tr.setK_eq] at h
  have he':=EnvR.put (a:=⟨tmps,[]⟩) he ht h1
  simp only [Act.put] at he'
  obtain ⟨env',g1,g2,g3⟩:=putsK_get h h2 he'
  exact ⟨env',g1,by simp [g2],by simpa using g3⟩
theorem exY_ok (hrm:RecMono rec) (hrn:RecNE rec) (hr:CodeOK P rec) {l:Nat} {args:List SV} {L:List (SV × St)} (h:exY rec l args st=some L) {us:List Value} {lb:Nat} {s:Nat × Nat} (hl:ρ l=some (lb,s)) (hrel:RelL ρ args us) (hs:Sim ρ D st w) (hD:∀ p∈L,∀ x,x∈p.2.R∨st.base≤x→D x) (hf:∀ p∈L,Free ρ st.nx p.2.nx) :
 ∃ f tmps assign body,(Instr.yield lb us.toArray).run P w=.ok (.round lb f tmps assign body) w∧RoundIn Fence.wide 0 P lb f tmps assign body w (fun e w'=>∃ p∈L,∃ u ρ',e=.returned u∧Rel ρ' p.1 u∧Step ρ ρ' D st p.2 w w'):=by
 unfold exY at h
 split at h
 case h_2=>cases h
 rename_i r hg
 obtain ⟨envx,hx⟩:=putsK_some h
 obtain ⟨p0,rp,hL0⟩:=List.exists_cons_of_ne_nil (exYb_ne hrn hx)
 have hp0:p0∈L:=by rw [hL0];simp
 have hDl:D l:=hD p0 hp0 l (exYb_mono hrm hx p0 hp0).2
 obtain ⟨b0,s0,ob,q1,q2,q3⟩:=hs.live l _ hDl hg
 rw [hl] at q1;cases q1
 obtain ⟨fn,tmps,dx,sx,rfl,qe,qd⟩:=q3
 obtain ⟨env0,hk,hlen,hE⟩:=putsK_get h hrel qe
 obtain ⟨env1,ds1,st1,r1,L3,h1,hg1,hready,h3,h4⟩:=exYb_some hk
 have m1:=hrm _ _ _ _ _ _ _ h1 _ List.mem_cons_self
 obtain ⟨stb,hstb⟩:∃ stb:St,stb=⟨st1.h.set l (some (.loop { r1 with state:=.busy })),st1.nx,st1.base,ins st1.base l st1.R,ins st1.base l st1.W⟩:=⟨_,rfl⟩
 rw [← hstb] at h3
 have mset:∀ {s:St} {r r':SLoop},s.h.get l=some (.loop r)→Imm r r'→Mono s ⟨s.h.set l (some (.loop r')),s.nx,s.base,ins s.base l s.R,ins s.base l s.W⟩:=fun hg i=>⟨Nat.le_refl _,rfl,ins_sub _ _ _,fun y _=>KeepL.set (by rw [hg];simp) (fun q e=>by
  simp only [SO.loop.injEq] at e
  subst e
  exact ⟨_,hg,i⟩) y⟩
 have m2:Mono st1 stb:=by rw [hstb];exact mset (r':={ r1 with state:=.busy }) hg1 ⟨rfl,rfl,rfl,rfl,rfl,rfl⟩
 have hend:∀ (o:Out) (lx:List (SV × St)),oneL (yEnd l o)=some lx→∀ p∈lx,Mono o.2.2.2 p.2:=by
  intro o lx e1 p hp
  obtain ⟨p',hp',rfl⟩:=oneL_some e1
  rw [List.mem_singleton] at hp
  subst hp
  obtain ⟨v,s'⟩:=p
  obtain ⟨r3,jump,hg3,hj,hv,rfl⟩:=yEnd_some hp'
  exact mset hg3 ⟨rfl,rfl,rfl,rfl,rfl,rfl⟩
 obtain ⟨d3,f3⟩:=mapB_fst (s:=fun o:Out=>o.2.2.2) (t:=fun p:SV × St=>p.2) h4 (fun _ _=>oneL_ne) hend hD hf
 obtain ⟨o0,ro,hL3⟩:=List.exists_cons_of_ne_nil (hrn _ _ _ _ _ _ _ h3)
 have ho0:o0∈L3:=by rw [hL3];simp
 have mb:Mono st1 o0.2.2.2:=m2.trans (hrm _ _ _ _ _ _ _ h3 o0 ho0)
 obtain ⟨d1,f1⟩:=Step.fst (D:=D) (ρ:=ρ) (st:=st) mb (d3 o0 ho0) (f3 o0 ho0)
 have hul:=hrel.len
 refine ⟨_,_,_,_,run_yield q2 (by simp only [List.size_toArray];rw [← Array.length_toList];omega),roundIn_of_wpIn trivial ?_⟩
 have hz:(r.params.zip us.toArray).foldl (fun tmps (t,a)=>tmps.setIfInBounds t a) tmps=(r.params.toList.zip us).foldl (fun tmps (t,a)=>tmps.setIfInBounds t a) tmps:=by
  rw [← Array.foldl_toList,Array.toList_zip]
 rw [hz]
 refine wpIn_mono (hr (some l) r.N r.assign env0 [] st _ h1 ρ D w ⟨_,[]⟩ (some lb) hE rfl ⟨lb,s,hl,rfl⟩ hs (fun o ho=>by rw [List.mem_singleton] at ho;subst ho;exact d1) (fun o ho=>by rw [List.mem_singleton] at ho;subst ho;exact f1)) ?_
 rintro e' a1 w1 ⟨o1,ho1,he',ρ1,he1,hd1,hst1⟩
 rw [List.mem_singleton] at ho1
 subst ho1
 subst he'
 show ∃ w₂,_∧_
 have hle1:=hst1.le f1
 obtain ⟨b1,s1,ob1,q4,q5,q6⟩:=hst1.sim.live l _ (.inl hDl) hg1
 rw [hle1 _ _ hl] at q4;cases q4
 obtain ⟨fn1,tmps1,dx1,sx1,rfl,qe1,qd1⟩:=q6
 obtain ⟨wb,hwb⟩:∃ wb,wb=w1.putObj lb (.loop { (⟨r1.state,r1.pending,fn1,tmps1,r1.params,r1.assign,r1.body,dx1⟩:Loop) with state:=.busy }):=⟨_,rfl⟩
 refine ⟨wb,by rw [hwb];exact run_beginRound q5 hready,?_⟩
 have hs2:Step ρ1 ρ1 (fun x=>D x∨st.nx≤x) st1 stb w1 wb:=by
  rw [hstb,hwb]
  exact Step.loop hst1.sim (.inl hDl) hg1 (hle1 _ _ hl) q5 (r':={ r1 with state:=.busy }) ⟨fn1,tmps1,dx1,sx1,rfl,qe1,qd1⟩ (ins_sub _ _ _) (ins_sub _ _ _) (ins_has _ _ _)
 have hst2:=hst1.trans hs2
 refine wpIn_mono (hr (some l) r.N r.body env1 ds1 stb L3 h3 ρ1 _ _ a1 (some lb) he1 hd1 ⟨lb,s,hle1 _ _ hl,rfl⟩ hst2.sim (fun o ho=>(hst2.snd (d3 o ho) (f3 o ho)).1) (fun o ho=>(hst2.snd (d3 o ho) (f3 o ho)).2)) ?_
 rintro e' a3 w3 ⟨o3,ho3,rfl,ρ3,he3,hd3,hst3⟩
 have hle3:=hst3.le (hst2.snd (d3 o3 ho3) (f3 o3 ho3)).2
 have hst23:=hst2.trans hst3
 obtain ⟨lx,e1,e2⟩:=(mapB_mem h4).1 o3 ho3
 obtain ⟨p,hp,rfl⟩:=oneL_some e1
 have hpL:p∈L:=e2 p (by simp)
 obtain ⟨v,stp⟩:=p
 obtain ⟨r3,jump,hg3,hj,rfl,hst'⟩:=yEnd_some hp
 obtain ⟨b3,s3,ob3,q7,q8,q9⟩:=hst23.sim.live l _ (.inl hDl) hg3
 rw [hle3 _ _ (hle1 _ _ hl)] at q7;cases q7
 obtain ⟨fn3,tmps3,dx3,sx3,rfl,qe3,qd3⟩:=q9
 have hend:∃ v w',(Instr.endRound lb jump).run P w3=.ok v w'∧∃ p∈L,∃ u ρ',Ending.returned v=.returned u∧Rel ρ' p.1 u∧Step ρ ρ' D st p.2 w w':=by
  refine ⟨_,_,run_endRound jump q8,_,hpL,_,ρ3,rfl,by rw [Rel],?_⟩
  refine hst23.trans ?_
  show Step ρ3 ρ3 _ _ stp _ _
  rw [hst']
  exact Step.loop hst23.sim (.inl hDl) hg3 (hle3 _ _ (hle1 _ _ hl)) q8 (r':={ r3 with state:=if jump.isNone then .ready else .done,pending:=jump }) ⟨fn3,tmps3,dx3,sx3,rfl,qe3,qd3⟩ (ins_sub _ _ _) (ins_sub _ _ _) (ins_has _ _ _)
 obtain ⟨e3,env3,ds3,st3⟩:=o3
 cases e3 <;> simp only [jmpOf] at hj <;> subst hj <;> exact hend
theorem exO_ok (hen:Enters P) (hrm:RecMono rec) (hrn:RecNE rec) (hr:CodeOK P rec) (hsm:SumOK P sm) {ro:Option Nat} {o:Oper} {env:Tr SV} {L:List (SV × St)} (h:exO P sm rec env o st=some L):OpOK P (fwd ro) N o env st L:=by
 obtain ⟨dst,op,ty,pos,af,g⟩:=o
 cases op with
 | call c =>
  obtain ⟨callee,args,ats⟩:=c
  cases callee with
  | builtin b =>
   simp only [exO] at h
   refine OpOK.of_one (fun _=>trivial) (by simp) h fun v st' ρ D w a h he hs hD hf=>?_
   have:=biS_ok (cs:=(args.map fun | .const _=>true | _=>false)) (svOps_rel he args.toList) h hs hD hf
   have hmap:args.map a.eval=(args.toList.map a.eval).toArray:=by apply Array.ext';simp
   rw [← hmap] at this
   exact this
  | invoke r n=>simp [exO] at h
  | value x =>
   simp only [exO] at h
   intro ρ D w a K Q he hs hD hf hK
   have hx:=svOp_rel he x
   have hargs:=svOps_rel he args.toList
   have hmap:args.map a.eval=(args.toList.map a.eval).toArray:=by apply Array.ext';simp
   refine ⟨fun _ _=>trivial,?_⟩
   rw [Oper.semAt_eq _ _ _ (by simp)]
   split at h
   ·rename_i f first cap hsv
    rw [hsv,Rel] at hx
    obtain ⟨us,vs,h1,h2,h3⟩:=hx
    rw [appS_eq,appS_eq] at h
    obtain ⟨hfun,hbody⟩:=exF_ok hrm hrn hr hsm h
    have hev:(execOp a.eval ⟨dst,.call ⟨.value x,args,ats⟩,ty,pos,af,g⟩).run P w=.ok (.enter f (us++(args.toList.map a.eval++vs)).toArray) w:=by
     have:=hen f hbody (us++(args.toList.map a.eval++vs)).toArray w
     simp [execOp,resolve,h3,Deferred.ofValue,invoke,hmap]
     simpa [Array.append_assoc] using this
    rw [hev]
    refine upon_enter (hfun ρ D w _ (h1.app (hargs.app h2)) hs hD hf) ?_
    rintro e w' ⟨p,hp,u,ρ',rfl,g1,g2⟩
    exact ⟨u,rfl,hK p hp u w' ρ' g1 g2⟩
   ·rename_i l hsv
    rw [hsv,Rel] at hx
    obtain ⟨lb,s,h1,h3⟩:=hx
    obtain ⟨f,tmps,assign,body,hy,hround⟩:=exY_ok hrm hrn hr h h1 hargs hs hD hf
    have hev:(execOp a.eval ⟨dst,.call ⟨.value x,args,ats⟩,ty,pos,af,g⟩).run P w=.ok (.round lb f tmps assign body) w:=by
     simp only [execOp,resolve,h3,Deferred.ofValue,invoke,hmap]
     simpa using hy
    rw [hev]
    refine uponIn_round_of (r:=ro) rfl rfl hround ?_
    rintro e w' ⟨p,hp,u,ρ',rfl,g1,g2⟩
    exact ⟨u,rfl,hK p hp u w' ρ' g1 g2⟩
   ·cases h
 | defer c=>simp [exO,opS,oneL] at h
 | next x s =>
  cases s with
  | true=>simp [exO] at h
  | false =>
   simp only [exO] at h
   refine OpOK.of_did (fun _=>trivial) (by simp) fun ρ D w a he hs hD hf=>?_
   obtain ⟨p,hp,hd⟩:=nxS_ok (P:=P) (ty:=ty) (svOp_rel he x) h hs hD
   exact ⟨p,hp,OpDid.of hd⟩
 | _ =>
  simp only [exO] at h
  exact OpOK.of_one (fun _=>trivial) (by simp) h fun v st' ρ D w a h he hs hD hf=>opS_ok he h hs hD hf
end
end Go.TX
namespace Go.TX
open Go Go.TH
noncomputable section
variable {P:Program} {sm:Sums} {rec:Rec} {D:Nat→Prop} {ρ ρ' ρ1:Ren} {st st' st1 st2:St} {w w' w1:World} {N:Nat}
theorem exL_ok (hen:Enters P) (hrm:RecMono rec) (hrn:RecNE rec) (hr:CodeOK P rec) (hsm:SumOK P sm) {ro:Option Nat} {ops:List Oper}:∀ {l:List Oper} {env:Tr SV} {L:List (Tr SV × St)} {st:St} {ρ:Ren} {D:Nat→Prop} {w:World} {a:Act} {Q:Exit→Act→World→Prop},
 exL P sm rec N ops l env st=some L→EnvR ρ N env a.tmps→Sim ρ D st w→(∀ p∈L,∀ x,x∈p.2.R∨st.base≤x→D x)→(∀ p∈L,Free ρ st.nx p.2.nx) →
 (∀ p∈L,∀ a' w' ρ',a'.defers=a.defers→EnvR ρ' N p.1 a'.tmps→Step ρ ρ' D st p.2 w w'→Q .normal a' w')→wpListIn (fwd ro) 0 P ops.toArray Q l a w
 | [],env,L,st,ρ,D,w,a,Q,h,he,hs,hD,hf,hQ=>by
  simp only [exL,Option.some.injEq] at h
  subst h
  exact hQ _ List.mem_cons_self a w ρ rfl he (Step.refl hs)
 | o::l,env,L,st,ρ,D,w,a,Q,h,he,hs,hD,hf,hQ=>by
  have hdf:∀ u,(a.put o.dst u).defers=a.defers:=fun u=>by cases o.dst <;> rfl
  simp only [exL] at h
  simp only [wpListIn]
  split at h
  ·rename_i hw
   rw [if_pos (by rw [wantS_ok he hw])]
   split at h
   case h_2=>cases h
   rename_i L1 h1
   obtain ⟨d1,f1⟩:=mapB_fst (s:=fun p:SV × St=>p.2) (t:=fun p:Tr SV × St=>p.2) h (fun p lx e1=>by
    obtain ⟨env1,_,e1⟩:=putK_some e1
    exact exL_ne hrn e1) (fun p lx e1 b hb=>by
    obtain ⟨env1,_,e1⟩:=putK_some e1
    exact exL_mono hrm hsm.1 e1 b hb) hD hf
   refine exO_ok hen hrm hrn hr hsm h1 ρ D w a _ _ he hs d1 f1 ?_
   intro p hp u w1 ρ1 hv hst1
   obtain ⟨lx,e1,e2⟩:=(mapB_mem h).1 p hp
   obtain ⟨env1,p1,e1⟩:=putK_some e1
   refine exL_ok hen hrm hrn hr hsm e1 (p1.envR (he.mono (hst1.le (f1 p hp))) hv) hst1.sim (fun b hb=>(hst1.snd (hD b (e2 b hb)) (hf b (e2 b hb))).1) (fun b hb=>(hst1.snd (hD b (e2 b hb)) (hf b (e2 b hb))).2) ?_
   intro b hb a' w' ρ' hd' he' hst'
   exact hQ b (e2 b hb) a' w' ρ' (hd'.trans (hdf u)) he' (hst1.trans hst')
  ·rename_i hw
   rw [if_neg (by rw [wantS_ok he hw];simp)]
   obtain ⟨env1,p1,h⟩:=putK_some h
   refine ⟨fun _ _=>trivial,exL_ok hen hrm hrn hr hsm h (p1.envR he (by rw [Rel])) hs hD hf ?_⟩
   intro b hb a' w' ρ' hd' he' hst'
   exact hQ b hb a' w' ρ' (hd'.trans (hdf undef)) he' hst'
  ·cases h
theorem run_enter_in {l0:Nat} {r0:Loop} (h:w.heap[l0]?=some (.loop r0)) (fn:FuncId) (tmps:Array Value) (ps:Array Tmp) (assign body:Code) :
 (Instr.enterLoop fn tmps ps assign body (some l0)).run P w=.ok (w.heap.size,[]) (w.alloc (.loop { state:=.ready,pending:=none,fn,tmps,params:=ps,assign,body,defers:=r0.defers })):=by
 unfold Instr.enterLoop
 simp only [Sem.run_bind,run_getLoop h,run_newObj_alloc,Result.andThen,Sem.run_pure]
theorem rfB_ok (hen:Enters P) (hrm:RecMono rec) (hrn:RecNE rec) (hr:CodeOK P rec) (hsm:SumOK P sm) {ro rb:Option Nat} {g:Operand} {env:Tr SV} {ds0:List Nat} {l lb:Nat} {s:Nat × Nat} {L:List Out} {a:Act} {Q:Exit→Act→World→Prop} {tmps:Array Value}
 (h:rfB P sm rec ro N g env ds0 l st=some L) (he:EnvR ρ N env tmps) (hl:ρ l=some (lb,s)) (hs:Sim ρ D st w) (hD:∀ o∈L,∀ x,x∈o.2.2.2.R∨st.base≤x→D x) (hf:∀ o∈L,Free ρ st.nx o.2.2.2.nx) (hro:RoR ρ ro rb) (ht:a.tmps=tmps) (hds:DsR ρ ds0 a.defers)
 (hQ:∀ o∈L,∀ e' a' w',PostC ρ D N st w o e' a' w'→Q e' a' w') :
 ∃ (d:Deferred) (f:FuncId) (args:Array Value),(∀ a0:Act,a0.tmps=tmps→(resolve a0.eval (rangeCall g lb) 0).run P w=.ok d w)∧(invoke d.target d.args).run P w=.ok (.enter f args) w∧CallsIn Fence.wide 0 P f args w (rangePost (fwd rb) 0 P lb Q a):=by
 obtain ⟨o0,ro0,hL0⟩:=List.exists_cons_of_ne_nil (rfB_ne hrn h)
 have ho0:o0∈L:=by rw [hL0];simp
 have hDl:D l:=hD o0 ho0 l (rfB_mono hrm hsm.1 h o0 ho0).2
 obtain ⟨f,first,cap,L3,h1,h2,h3⟩:=rfB_some h
 rw [appS_eq] at h2
 obtain ⟨hfun,hbody⟩:=exF_ok hrm hrn hr hsm h2
 have hx:=svOp_rel (a:=⟨tmps,[]⟩) he g
 rw [h1,Rel] at hx
 obtain ⟨us,vs,g1,g2,g3⟩:=hx
 have hy:Rel ρ (.yield l) (.func (.yield lb) #[] #[]):=by rw [Rel];exact ⟨lb,s,hl,rfl⟩
 refine ⟨{ target:=.fn (.func f) vs.toArray,args:=us.toArray++#[.func (.yield lb) #[] #[]] },f,(us++(.func (.yield lb) #[] #[]::vs)).toArray,?_,?_,?_⟩
 ·intro a0 ha0
  have e0:a0.eval g=.func (.func f) us.toArray vs.toArray:=by
   rw [← g3]
   cases g <;> simp only [Act.eval,ha0]
  simp only [resolve,rangeCall,e0]
  simp [go_sem,Deferred.ofValue,Act.eval]
 ·have:=hen f hbody (us++(.func (.yield lb) #[] #[]::vs)).toArray w
  simp only [invoke]
  simpa [Array.append_assoc] using this
 ·obtain ⟨d1,f1⟩:=mapB_fst (s:=fun p:SV × St=>p.2) (t:=fun o:Out=>o.2.2.2) h3 (fun _ _=>rfE_ne hrn) (fun p lx e1 b hb=>(rfE_mono hrm e1 b hb).1) hD hf
  refine CallsIn.mono (hfun ρ D w _ (g1.app (RelL.cons hy g2)) hs d1 f1) ?_
  rintro e3 w3 ⟨p,hp,u,ρ3,rfl,_,hst3⟩
  have hle:=hst3.le (f1 p hp)
  obtain ⟨lx,e1,e2⟩:=(mapB_mem h3).1 p hp
  obtain ⟨r,k1,k2,k3⟩:=rfE_some e1
  obtain ⟨b3,s3,ob3,q7,q8,q9⟩:=hst3.sim.live l _ (.inl hDl) k1
  rw [hle _ _ hl] at q7;cases q7
  obtain ⟨fn3,tmps3,dx3,sx3,rfl,qe3,qd3⟩:=q9
  obtain ⟨w4,hw4⟩:∃ w4,w4=w3.putObj lb (.loop { (⟨r.state,r.pending,fn3,tmps3,r.params,r.assign,r.body,dx3⟩:Loop) with state:=.exhausted }):=⟨_,rfl⟩
  have hst4:Step ρ3 ρ3 (fun x=>D x∨st.nx≤x) p.2 ⟨p.2.h.set l (some (.loop { r with state:=.exhausted })),p.2.nx,p.2.base,ins p.2.base l p.2.R,ins p.2.base l p.2.W⟩ w3 w4:=by
   rw [hw4]
   exact Step.loop hst3.sim (.inl hDl) k1 (hle _ _ hl) q8 (r':={ r with state:=.exhausted }) (q':={ (⟨r.state,r.pending,fn3,tmps3,r.params,r.assign,r.body,dx3⟩:Loop) with state:=.exhausted }) ⟨fn3,tmps3,dx3,sx3,rfl,qe3,qd3⟩ (ins_sub _ _ _) (ins_sub _ _ _) (ins_has _ _ _)
  have hst:=hst3.trans hst4
  refine ⟨r.pending,w4,by rw [hw4];exact run_endLoop q8 k2,?_⟩
  have he3:EnvR ρ3 N env a.tmps:=by rw [ht];exact he.mono hle
  have hd3:=hds.mono hle
  split at k3
  ·rename_i hpe
   simp only [Option.some.injEq] at k3
   subst k3
   rw [hpe]
   exact hQ _ (e2 _ List.mem_cons_self) _ _ _ ⟨rfl,ρ3,he3,hd3,hst⟩
  ·rename_i c hpe
   rw [hpe]
   refine wpIn_mono (hr _ _ _ _ _ _ _ k3 ρ3 _ _ a rb he3 hd3 (hro.mono hle) hst.sim (fun o ho=>(hst.snd (hD o (e2 o ho)) (hf o (e2 o ho))).1) (fun o ho=>(hst.snd (hD o (e2 o ho)) (hf o (e2 o ho))).2)) ?_
   rintro e' a' w' ⟨o,ho,he',ρ',p1,p2,p3⟩
   exact hQ o (e2 o ho) _ _ _ ⟨he',ρ',p1,p2,hst.trans p3⟩
end
end Go.TX
