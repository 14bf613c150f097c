/-
  What is proved here: plain facts on temporaries that are kept, tables of rounds, and folds whose steps change places. Conditions: none; each lemma states its own.
-/
import Derived.Test.YtncjabmlkgacdaaGreatM8
import Derived.Test.YtncjabmlkgacdaaGreatM1
import Derived.Test.YtncjabmlkgacdaaGreatM6
import Derived.Test.YtncjabmlkgacdaaGreatM2
import Derived.Test.YtncjabmlkgacdaaGreatM4
set_option linter.unusedVariables false
set_option linter.unusedSimpArgs false
namespace Go.TX
open Go Go.TH
noncomputable section
variable {ρ ρ' ρ3:Ren}
mutual
theorem Rel.back (h:∀ x,ρ x≠none→ρ3 x=ρ x):∀ {s:SV} {u0 u:Value},Rel ρ s u0→Rel ρ3 s u→Rel ρ s u
  | .raw v,u0,u,_,hr=>by rw [Rel] at hr ⊢;exact hr
  | .ptr b o,u0,u,h0,hr=>by
    rw [Rel] at h0 hr ⊢
    obtain ⟨x,s,h1,_⟩:=h0
    obtain ⟨x',s',h2,h3⟩:=hr
    rw [h b (by rw [h1];simp)] at h2
    exact ⟨x',s',h2,h3⟩
  | .sl b o n c,u0,u,h0,hr=>by
    rw [Rel] at h0 hr ⊢
    obtain ⟨x,s,k,h1,_⟩:=h0
    obtain ⟨x',s',k',h2,h3⟩:=hr
    rw [h b (by rw [h1];simp)] at h2
    exact ⟨x',s',k',h2,h3⟩
  | .sl0,u0,u,_,hr=>by rw [Rel] at hr ⊢;exact hr
  | .map b,u0,u,h0,hr=>by
    rw [Rel] at h0 hr ⊢
    obtain ⟨x,s,h1,_⟩:=h0
    obtain ⟨x',s',h2,h3⟩:=hr
    rw [h b (by rw [h1];simp)] at h2
    exact ⟨x',s',h2,h3⟩
  | .fn f l m,u0,u,h0,hr=>by
    rw [Rel] at h0 hr ⊢
    obtain ⟨us0,vs0,a1,a2,_⟩:=h0
    obtain ⟨us,vs,b1,b2,b3⟩:=hr
    exact ⟨us,vs,RelL.back h a1 b1,RelL.back h a2 b2,b3⟩
  | .yield b,u0,u,h0,hr=>by
    rw [Rel] at h0 hr ⊢
    obtain ⟨x,s,h1,_⟩:=h0
    obtain ⟨x',s',h2,h3⟩:=hr
    rw [h b (by rw [h1];simp)] at h2
    exact ⟨x',s',h2,h3⟩
  | .agg l,u0,u,h0,hr=>by
    rw [Rel] at h0 hr ⊢
    obtain ⟨us0,a1,_⟩:=h0
    obtain ⟨us,b1,b3⟩:=hr
    exact ⟨us,RelL.back h a1 b1,b3⟩
  | .tup l,u0,u,h0,hr=>by
    rw [Rel] at h0 hr ⊢
    obtain ⟨us0,a1,_⟩:=h0
    obtain ⟨us,b1,b3⟩:=hr
    exact ⟨us,RelL.back h a1 b1,b3⟩
  | .any,_,_,_,_=>by rw [Rel];exact True.intro
theorem RelL.back (h:∀ x,ρ x≠none→ρ3 x=ρ x):∀ {l:List SV} {us0 us:List Value},RelL ρ l us0→RelL ρ3 l us→RelL ρ l us
  | [],_,us,_,hr=>by rw [RelL] at hr ⊢;exact hr
  | s::l,_,us,h0,hr=>by
    rw [RelL] at h0 hr ⊢
    obtain ⟨v0,r0,_,a1,a2⟩:=h0
    obtain ⟨v,r,b1,b2,b3⟩:=hr
    exact ⟨v,r,b1,Rel.back h a1 b2,RelL.back h a2 b3⟩
end
theorem DsR.back (h:∀ x,ρ x≠none→ρ3 x=ρ x):∀ {ds:List Nat} {l0 l:List Deferred},DsR ρ ds l0→DsR ρ3 ds l→DsR ρ ds l
  | [],_,_,_,hd=>hd
  | d::ds,_,_,⟨x0,s0,r0,_,a2,a3⟩,⟨x,s,r,b1,b2,b3⟩=>⟨x,s,r,b1,by rw [h d (by rw [a2];simp)] at b2;exact b2,a3.back h b3⟩

/-! ### Temporaries -/
theorem anyT_get (env:Tr SV):∀ (A:List Nat) (t:Nat),(anyT env A).get t=if env.get t=none∧t∈A then some .any else env.get t
  | [],t=>by simp [anyT]
  | a::r,t=>by
    have ih:=anyT_get env r
    simp only [anyT]
    have ha:=ih a
    cases hg:(anyT env r).get a with
    | some v =>
      rw [hg] at ha
      simp only
      rw [ih t]
      by_cases e:t=a
      · rw [e]
        by_cases hn:env.get a=none
        · by_cases hm:a∈r
          · rw [if_pos ⟨hn,hm⟩,if_pos ⟨hn,by simp⟩]
          · rw [if_neg (fun q=>hm q.2),hn] at ha;cases ha
        · rw [if_neg (fun q=>hn q.1),if_neg (fun q=>hn q.1)]
      · simp [e]
    | none =>
      rw [hg] at ha
      simp only
      rw [Tr.get_set]
      have hn:env.get a=none:=by
        by_cases hn:env.get a=none
        · exact hn
        · rw [if_neg (fun q=>hn q.1)] at ha;exact absurd ha.symm hn
      by_cases e:t=a
      · subst e
        rw [if_pos rfl,if_pos ⟨hn,by simp⟩]
      · rw [if_neg e,ih t]
        simp [e]
theorem putT_out (env:Tr SV):∀ (car:List Nat) (q:CV) (t:Nat),t ∉ car→(putT env car q).get t=env.get t
  | [],q,t,_=>by simp [putT]
  | c::r,[],t,_=>by simp [putT]
  | c::r,v::vs,t,h=>by
    simp only [putT]
    rw [Tr.get_set,if_neg (fun e=>h (by simp [e]))]
    exact putT_out env r vs t (fun e=>h (by simp [e]))
theorem getT_put (env env3:Tr SV):∀ (car:List Nat) (q:CV),getT env3 car=some q→∀ t,t∈car→(putT env car q).get t=env3.get t
  | [],q,_,t,h=>by cases h
  | c::r,q,h,t,ht=>by
    simp only [getT] at h
    split at h
    case h_2=>cases h
    rename_i v hv
    split at h
    case h_2=>cases h
    rename_i l hl
    simp only [Option.some.injEq] at h
    subst h
    simp only [putT]
    rw [Tr.get_set]
    by_cases e:t=c
    · subst e;rw [if_pos rfl,hv]
    · rw [if_neg e]
      exact getT_put env env3 r l hl t (by rcases List.mem_cons.1 ht with q | q;exact absurd q e;exact q)
theorem carL_ok (env:Tr SV):∀ (A acc car:List Nat),carL env A acc=some car→(∀ t,t∈A→env.get t=none∨t∈car)∧(∀ t,t∈car→t∈A∨t∈acc)∧∀ t,t∈acc→t∈car
  | [],acc,car,h=>by
    simp only [carL,Option.some.injEq] at h
    subst h
    exact ⟨(fun t h=>by cases h),(fun t h=>.inr h),fun t h=>h⟩
  | a::r,acc,car,h=>by
    simp only [carL] at h
    split at h
    · rename_i hn
      obtain ⟨h1,h2,h3⟩:=carL_ok env r acc car h
      refine ⟨fun t ht=>?_,fun t ht=>?_,h3⟩
      · rcases List.mem_cons.1 ht with rfl | ht
        · exact .inl hn
        · exact h1 t ht
      · rcases h2 t ht with q | q
        · exact .inl (List.mem_cons_of_mem _ q)
        · exact .inr q
    · cases hm:memb a acc with
      | true =>
        rw [hm,cond_true] at h
        obtain ⟨h1,h2,h3⟩:=carL_ok env r acc car h
        refine ⟨fun t ht=>?_,fun t ht=>?_,h3⟩
        · rcases List.mem_cons.1 ht with rfl | ht
          · exact .inr (h3 _ (memb_mem hm))
          · exact h1 t ht
        · rcases h2 t ht with q | q
          · exact .inl (List.mem_cons_of_mem _ q)
          · exact .inr q
      | false =>
        rw [hm,cond_false] at h
        obtain ⟨h1,h2,h3⟩:=carL_ok env r (a::acc) car h
        refine ⟨fun t ht=>?_,fun t ht=>?_,fun t ht=>h3 t (List.mem_cons_of_mem _ ht)⟩
        · rcases List.mem_cons.1 ht with rfl | ht
          · exact .inr (h3 _ (by simp))
          · exact h1 t ht
        · rcases h2 t ht with q | q
          · exact .inl (List.mem_cons_of_mem _ q)
          · rcases List.mem_cons.1 q with q | q
            · exact .inl (by simp [q])
            · exact .inr q
    · cases h
theorem keptL_ok (A:List Nat):∀ (n t:Nat),t<n→t ∉ A→t∈keptL A n
  | 0,t,h,_=>by omega
  | n+1,t,h,ha=>by
    simp only [keptL]
    cases hm:memb n A with
    | true =>
      rw [cond_true]
      refine keptL_ok A n t ?_ ha
      have:t≠n:=fun e=>ha (by rw [e];exact memb_mem hm)
      omega
    | false =>
      rw [cond_false]
      by_cases e:t=n
      · simp [e]
      · exact List.mem_cons_of_mem _ (keptL_ok A n t (by omega) ha)
theorem sameO_eq {a b:Option SV} (h:sameO a b=true):a=b:=by
  cases a <;> cases b <;> simp only [sameO] at h
  · rfl
  · cases h
  · cases h
  · rw [eqV_eq h]
theorem keptB_ok {env env':Tr SV}:∀ {l:List Nat},keptB env env' l=true→∀ t,t∈l→env.get t=env'.get t
  | [],_,t,h=>by cases h
  | a::r,h,t,ht=>by
    simp only [keptB] at h
    cases hs:sameO (env.get a) (env'.get a) with
    | false=>rw [hs] at h;cases h
    | true =>
      rw [hs,cond_true] at h
      rcases List.mem_cons.1 ht with rfl | ht
      · exact sameO_eq hs
      · exact keptB_ok h t ht

/-! ### Tables -/
theorem lookT_mem:∀ {T:List (CV × List CV)} {p:CV} {row:List CV},lookT T p=some row→(p,row)∈T
  | [],p,row,h=>by cases h
  | (q,r)::T,p,row,h=>by
    simp only [lookT] at h
    cases he:eqVs q p with
    | true =>
      rw [he,cond_true,Option.some.injEq] at h
      rw [eqVs_eq he,h];simp
    | false =>
      rw [he,cond_false] at h
      exact List.mem_cons_of_mem _ (lookT_mem h)
theorem mapO_ok {α β:Type} {f:α→Option β}:∀ {l:List α} {r:List β},mapO f l=some r→r.length=l.length∧∀ (k:Nat) (x:α),l[k]?=some x→∃ y,f x=some y∧r[k]?=some y
  | [],r,h=>by
    simp only [mapO,Option.some.injEq] at h
    subst h
    exact ⟨rfl,fun k x hx=>by simp at hx⟩
  | a::l,r,h=>by
    simp only [mapO] at h
    split at h
    case h_2=>cases h
    rename_i y hy
    split at h
    case h_2=>cases h
    rename_i l' hl
    simp only [Option.some.injEq] at h
    subst h
    obtain ⟨h1,h2⟩:=mapO_ok hl
    refine ⟨by simp [h1],fun k x hx=>?_⟩
    cases k with
    | zero=>simp at hx;subst hx;exact ⟨y,hy,by simp⟩
    | succ k=>simp at hx ⊢;exact h2 k x hx
theorem symR_ok {M:List (List CV)}:∀ {rs:List (List CV)} {i:Nat},symR M rs i=true→∀ (k:Nat) (r:List CV),rs[k]?=some r→mapO (fun x=>nth x (i+k)) M=some r
  | [],i,_,k,r,h=>by simp at h
  | r0::rs,i,h,k,r,hk=>by
    simp only [symR] at h
    split at h
    case h_2=>cases h
    rename_i c hc
    cases he:eqL eqVs r0 c with
    | false=>rw [he] at h;cases h
    | true =>
      rw [he,cond_true] at h
      have e:r0=c:=eqL_eq (fun a b=>eqVs_eq) he
      cases k with
      | zero=>simp at hk;subst hk;rw [e];exact hc
      | succ k =>
        simp at hk
        have:=symR_ok h k r hk
        rw [show i+(k+1)=i+1+k by omega];exact this
/-- rows of rounds -/
def RowsT (T:List (CV × List CV)) (n:Nat) (δ:CV→Nat→CV):Prop:=∀ q row,(q,row)∈T→row.length=n∧(∀ k,k<n→row[k]?=some (δ q k))∧∀ q',q'∈row→∃ r',lookT T q'=some r'
theorem comB_mem {T:List (CV × List CV)}:∀ {S:List (CV × List CV)},comB T S=true→∀ q row,(q,row)∈S→∃ M,mapO (lookT T) row=some M∧symR M M 0=true
  | [],_,q,row,h=>by cases h
  | (q0,r0)::S,h,q,row,hm=>by
    simp only [comB] at h
    split at h
    case h_2=>cases h
    rename_i M hM
    cases hs:symR M M 0 with
    | false=>rw [hs] at h;cases h
    | true =>
      rw [hs,cond_true] at h
      rcases List.mem_cons.1 hm with e | hm
      · cases e;exact ⟨M,hM,hs⟩
      · exact comB_mem h q row hm
theorem com_ok {T:List (CV × List CV)} {n:Nat} {δ:CV→Nat→CV} (hT:RowsT T n δ) (hc:comB T T=true) {q:CV} {row:List CV} (hq:(q,row)∈T) {i j:Nat} (hi:i<n) (hj:j<n):δ (δ q i) j=δ (δ q j) i:=by
  obtain ⟨hl,hrow,_⟩:=hT q row hq
  obtain ⟨M,hM,hs⟩:=comB_mem hc q row hq
  obtain ⟨m1,m2⟩:=mapO_ok hM
  obtain ⟨ri,e1,e2⟩:=m2 i _ (hrow i hi)
  obtain ⟨rj,f1,f2⟩:=m2 j _ (hrow j hj)
  have hri:=(hT _ _ (lookT_mem e1)).2.1 j hj
  have hrj:=(hT _ _ (lookT_mem f1)).2.1 i hi
  have hsy:=symR_ok hs i ri e2
  obtain ⟨s1,s2⟩:=mapO_ok hsy
  obtain ⟨y,y1,y2⟩:=s2 j rj f2
  rw [nth_eq,Nat.zero_add,hrj] at y1
  rw [hri] at y2
  exact Option.some.inj (y2.trans y1.symm)
theorem runT_ok {T:List (CV × List CV)} {n:Nat} {δ:CV→Nat→CV} (hT:RowsT T n δ):∀ {k i:Nat} {q q':CV},i+k≤n→runT T k i q=some q'→q'=(List.range' i k).foldl δ q
  | 0,i,q,q',_,h=>by simp only [runT,Option.some.injEq] at h;simp [h]
  | k+1,i,q,q',hk,h=>by
    simp only [runT] at h
    split at h
    case h_2=>cases h
    rename_i row hr
    split at h
    case h_2=>cases h
    rename_i q1 hq1
    have:=(hT q row (lookT_mem hr)).2.1 i (by omega)
    rw [nth_eq,this] at hq1
    cases hq1
    have ih:=runT_ok hT (by omega) h
    rw [ih]
    rfl
/-- steps that change places -/
theorem foldl_perm {n:Nat} {δ:CV→Nat→CV} {S:CV→Prop} (hS:∀ q i,S q→i<n→S (δ q i)) (hc:∀ q i j,S q→i<n→j<n→δ (δ q i) j=δ (δ q j) i) {l l':List Nat} (hp:l.Perm l'):(∀ i∈l,i<n)→∀ q,S q→l.foldl δ q=l'.foldl δ q:=by
  induction hp with
  | nil=>intro _ q _;rfl
  | cons x _ ih =>
    intro hl q hq
    exact ih (fun i hi=>hl i (by simp [hi])) _ (hS q x hq (hl x (by simp)))
  | swap x y l =>
    intro hl q hq
    show l.foldl δ (δ (δ q y) x)=l.foldl δ (δ (δ q x) y)
    rw [hc q y x hq (hl y (by simp)) (hl x (by simp))]
  | trans h1 h2 i1 i2 =>
    intro hl q hq
    rw [i1 hl q hq]
    exact i2 (fun i hi=>hl i (h1.mem_iff.2 hi)) q hq
end
end Go.TX
namespace Go.TX
open Go Go.TH
noncomputable section
variable {P:Program} {sm:Sums} {rec:Rec} {ro:Option Nat} {N:Nat} {ops os:List Oper} {C:Code} {d:Nat} {car kept:List Nat} {ds:List Nat} {i m since clk:Nat} {envN:Tr SV} {h:Tr SO} {nx:Nat}
theorem insAll_ok (b:Nat):∀ (l R:List Nat),(∀ x,x∈R→x∈insAllK b l R fun R2=>R2)∧∀ x,x∈l→x∈(insAllK b l R fun R2=>R2)∨b≤x
 | [],R=>⟨fun x hx=>hx,fun x hx=>by cases hx⟩
 | y::r,R=>by
  simp only [insAllK,insK_eq]
  obtain ⟨h1,h2⟩:=insAll_ok b r (ins b y R)
  refine ⟨fun x hx=>h1 x (ins_sub _ _ _ _ hx),fun x hx=>?_⟩
  rcases List.mem_cons.1 hx with rfl | hx
  ·rcases ins_has b x R with q | q
   ·exact .inl (h1 _ q)
   ·exact .inr q
  ·exact h2 x hx
def RowG (G:CV→SEnt→Option (CV × List Nat × Nat)) (b:Nat) (q:CV) (es:List SEnt) (row:List CV) (R:List Nat) (n:Nat):Prop:=row.length=es.length∧∀ (k:Nat) (e:SEnt),es[k]?=some e→∃ q' Rr nr,G q e=some (q',Rr,nr)∧row[k]?=some q'∧(∀ x,x∈Rr→x∈R∨b≤x)∧nr≤n
theorem RowG.mono {G:CV→SEnt→Option (CV × List Nat × Nat)} {b:Nat} {q:CV} {es:List SEnt} {row:List CV} {R R':List Nat} {n n':Nat} (g:RowG G b q es row R n) (hR:∀ x,x∈R→x∈R') (hn:n≤n'):RowG G b q es row R' n':=by
 refine ⟨g.1,fun k e he=>?_⟩
 obtain ⟨q',Rr,nr,h1,h2,h3,h4⟩:=g.2 k e he
 exact ⟨q',Rr,nr,h1,h2,fun x hx=>(h3 x hx).imp (hR x) id,Nat.le_trans h4 hn⟩
theorem rowS_ok {b:Nat} {q:CV}:∀ {l:List SEnt} {R:List Nat} {n:Nat} {row:List CV} {R':List Nat} {n':Nat},rowS P sm rec ro N ops os C d car kept ds i m since clk envN h nx b q l R n=some (row,R',n')→RowG (rndS P sm rec ro N ops os C d car kept ds i m since clk envN h nx) b q l row R' n'∧(∀ x,x∈R→x∈R')∧n≤n'
 | [],R,n,row,R',n',hh=>by
  simp only [rowS,Option.some.injEq,Prod.mk.injEq] at hh
  obtain ⟨rfl,rfl,rfl⟩:=hh
  exact ⟨⟨rfl,fun k e he=>by simp at he⟩,fun x hx=>hx,Nat.le_refl _⟩
 | e::r,R,n,row,R',n',hh=>by
  simp only [rowS] at hh
  split at hh
  case h_2=>cases hh
  rename_i q1 R1 n1 h1
  split at hh
  case h_2=>cases hh
  rename_i l R2 n2 h2
  simp only [Option.some.injEq,Prod.mk.injEq] at hh
  obtain ⟨rfl,rfl,rfl⟩:=hh
  obtain ⟨g,gR,gn⟩:=rowS_ok h2
  obtain ⟨a1,a2⟩:=insAll_ok b R1 R
  have hn:n≤n2∧n1≤n2:=by
   cases hb:Nat.ble n n1 with
   | true=>rw [hb,cond_true] at gn;have:=Nat.ble_eq.mp hb;omega
   | false =>
    rw [hb,cond_false] at gn
    have:¬ n≤n1:=fun q=>by rw [Nat.ble_eq.mpr q] at hb;cases hb
    omega
  refine ⟨⟨by simp [g.1],fun k e' he=>?_⟩,fun x hx=>gR x (a1 x hx),hn.1⟩
  cases k with
  | zero =>
   simp at he;subst he
   exact ⟨q1,R1,n1,h1,by simp,fun x hx=>(a2 x hx).imp (gR x) id,hn.2⟩
  | succ k=>simp at he ⊢;exact g.2 k e' he
theorem expS_ok {b:Nat} {es:List SEnt}:∀ {f:Nat} {ps:List CV} {T:List (CV × List CV)} {R:List Nat} {n:Nat} {T':List (CV × List CV)} {R':List Nat} {n':Nat},expS P sm rec ro N ops os C d car kept ds i m since clk envN h nx b es f ps T R n=some (T',R',n')→(∀ q row,(q,row)∈T→RowG (rndS P sm rec ro N ops os C d car kept ds i m since clk envN h nx) b q es row R n)→(∀ q row,(q,row)∈T'→RowG (rndS P sm rec ro N ops os C d car kept ds i m since clk envN h nx) b q es row R' n')∧(∀ x,x∈R→x∈R')∧n≤n'
 | f,[],T,R,n,T',R',n',hh,hT=>by
  have hh:some (T,R,n)=some (T',R',n'):=by cases f <;> simpa [expS] using hh
  simp only [Option.some.injEq,Prod.mk.injEq] at hh
  obtain ⟨rfl,rfl,rfl⟩:=hh
  exact ⟨hT,fun x hx=>hx,Nat.le_refl _⟩
 | 0,q::ps,T,R,n,T',R',n',hh,hT=>by simp [expS] at hh
 | f+1,q::ps,T,R,n,T',R',n',hh,hT=>by
  simp only [expS] at hh
  split at hh
  ·exact expS_ok hh hT
  ·split at hh
   case h_2=>cases hh
   rename_i row R1 n1 h1
   obtain ⟨g,gR,gn⟩:=rowS_ok h1
   obtain ⟨k1,k2,k3⟩:=expS_ok hh (fun q' row' hm=>by
    rcases List.mem_cons.1 hm with e | hm
    ·cases e;exact g
    ·exact (hT q' row' hm).mono gR gn)
   exact ⟨k1,fun x hx=>k2 x (gR x hx),Nat.le_trans gn k3⟩
variable {ρ ρ':Ren} {D:Nat→Prop} {st st':St} {w w':World}
theorem Sim.world (hs:Sim ρ D st w) (hk:∀ b,b<w.heap.size→w'.heap[b]?=w.heap[b]?):Sim ρ D st w':=by
 refine ⟨fun x o hd hg=>?_,hs.inj,hs.lt⟩
 obtain ⟨b,s,ob,h1,h2,h3⟩:=hs.live x o hd hg
 have hb:b<w.heap.size:=(Array.getElem?_eq_some_iff.1 h2).1
 exact ⟨b,s,ob,h1,by rw [hk b hb];exact h2,h3⟩
theorem Sim.congr (hs:Sim ρ D st w) (hh:∀ x,st'.h.get x=st.h.get x) (hn:st'.nx=st.nx):Sim ρ D st' w :=
 ⟨fun x o hd hg=>hs.live x o hd (by rw [← hh x];exact hg),fun x y b s s' d d' gx gy=>hs.inj x y b s s' d d' (by rw [← hh x];exact gx) (by rw [← hh y];exact gy),fun x gx=>by rw [hn];exact hs.lt x (by rw [← hh x];exact gx)⟩
theorem Sim.told (hs:Sim ρ D st w) {x:Nat} {o:SO} (hx:st.h.get x≠none) (ho:D x→∀ b s ob,ρ x=some (b,s)→w.heap[b]?=some ob→(∀ o',st.h.get x=some o'→ORel ρ s o' ob)→ORel ρ s o ob) {n b:Nat} {R W:List Nat} (hn:st.nx≤n):Sim ρ D ⟨st.h.set x (some o),n,b,R,W⟩ w:=by
 refine ⟨fun y o' hd hg=>?_,fun y z bb s s' d d' gy gz=>?_,fun y gy=>?_⟩
 ·simp only [Tr.get_set] at hg
  by_cases e:y=x
  ·rw [if_pos e] at hg
   cases hg
   rw [e] at hd ⊢
   cases hg:st.h.get x with
   | none=>exact absurd hg hx
   | some o' =>
    obtain ⟨bb,s,ob,h1,h2,h3⟩:=hs.live x o' hd hg
    exact ⟨bb,s,ob,h1,h2,ho hd bb s ob h1 h2 (fun o2 h2=>by rw [hg] at h2;cases h2;exact h3)⟩
  ·rw [if_neg e] at hg
   exact hs.live y o' hd hg
 ·have k:∀ y,(st.h.set x (some o)).get y≠none→st.h.get y≠none:=fun y gy=>by
   rw [Tr.get_set] at gy
   by_cases e:y=x
   ·rw [e];exact hx
   ·rw [if_neg e] at gy;exact gy
  exact hs.inj y z bb s s' d d' (k y gy) (k z gz)
 ·simp only [Tr.get_set] at gy
  by_cases e:y=x
  ·rw [e];exact Nat.lt_of_lt_of_le (hs.lt x hx) hn
  ·rw [if_neg e] at gy;exact Nat.lt_of_lt_of_le (hs.lt y gy) hn
theorem Sim.untold (hs:Sim ρ D st w) {x:Nat} {n b:Nat} {R W:List Nat} (hn:st.nx≤n):Sim ρ D ⟨st.h.set x none,n,b,R,W⟩ w:=by
 have k:∀ y,(st.h.set x none).get y≠none→(st.h.set x none).get y=st.h.get y:=fun y gy=>by
  rw [Tr.get_set] at gy ⊢
  by_cases e:y=x
  ·rw [if_pos e] at gy;exact absurd rfl gy
  ·rw [if_neg e]
 refine ⟨fun y o' hd hg=>hs.live y o' hd (by rw [← k y (by rw [hg];simp)];exact hg),fun y z bb s s' d d' gy gz=>hs.inj y z bb s s' d d' (by rw [← k y gy];exact gy) (by rw [← k z gz];exact gz),fun y gy=>Nat.lt_of_lt_of_le (hs.lt y (by rw [← k y gy];exact gy)) hn⟩
theorem outsS_some {q m since clk:Nat} {seen:List Nat}:∀ (l:List SEnt),∃ L,outsS q m since clk seen st l=some L∧∀ p∈L,∃ e∈l,p=((.tup [.raw (.bool true),e.key,e.val]:SV),(⟨st.h.set q (some (.iter (some m) since (e.born::seen) clk)),st.nx,st.base,ins st.base q st.R,ins st.base q st.W⟩:St))
 | []=>⟨[],rfl,fun p hp=>by cases hp⟩
 | e::r=>by
  obtain ⟨L,h1,h2⟩:=outsS_some (q:=q) (m:=m) (since:=since) (clk:=clk) (seen:=seen) r
  refine ⟨((.tup [.raw (.bool true),e.key,e.val]:SV),(⟨st.h.set q (some (.iter (some m) since (e.born::seen) clk)),st.nx,st.base,ins st.base q st.R,ins st.base q st.W⟩:St))::L,by simp only [outsS,wtK_eq,h1],fun p hp=>?_⟩
  rcases List.mem_cons.1 hp with rfl | hp
  ·exact ⟨e,by simp,rfl⟩
  ·obtain ⟨e',he,hp⟩:=h2 p hp
   exact ⟨e',by simp [he],hp⟩
theorem leftS_mem {V:List Nat}:∀ {es:List SEnt} {e:SEnt},e∈leftS V es↔e∈es∧e.born ∉ V
 | [],e=>by simp [leftS]
 | a::r,e=>by
  simp only [leftS]
  cases hm:memb a.born V with
  | true =>
   rw [cond_true,leftS_mem (es:=r)]
   have:=memb_mem hm
   constructor
   ·rintro ⟨h1,h2⟩;exact ⟨List.mem_cons_of_mem _ h1,h2⟩
   ·rintro ⟨h1,h2⟩
    rcases List.mem_cons.1 h1 with rfl | h1
    ·exact absurd this h2
    ·exact ⟨h1,h2⟩
  | false =>
   have hn:a.born ∉ V:=fun q=>by rw [memb_iff.2 q] at hm;cases hm
   rw [cond_false,List.mem_cons,leftS_mem (es:=r),List.mem_cons]
   constructor
   ·rintro (rfl | ⟨h1,h2⟩)
    ·exact ⟨.inl rfl,hn⟩
    ·exact ⟨.inr h1,h2⟩
   ·rintro ⟨rfl | h1,h2⟩
    ·exact .inl rfl
    ·exact .inr ⟨h1,h2⟩
theorem leftS_le (V:List Nat) (x:Nat):∀ (es:List SEnt),(leftS (x::V) es).length≤(leftS V es).length
 | []=>Nat.le_refl _
 | a::r=>by
  have ih:=leftS_le V x r
  simp only [leftS]
  cases hm:memb a.born V with
  | true =>
   have:memb a.born (x::V)=true:=memb_iff.2 (List.mem_cons_of_mem _ (memb_mem hm))
   rw [this];exact ih
  | false =>
   cases hm':memb a.born (x::V) with
   | true=>simp only [cond_true,cond_false,List.length_cons];omega
   | false=>simp only [cond_false,List.length_cons];omega
theorem leftS_lt {V:List Nat}:∀ {es:List SEnt} {e:SEnt},e∈leftS V es→(leftS (e.born::V) es).length<(leftS V es).length
 | [],e,h=>by simp [leftS] at h
 | a::r,e,h=>by
  have hle:=leftS_le V e.born r
  have hv:=(leftS_mem.1 h).2
  simp only [leftS] at h ⊢
  cases hm:memb a.born V with
  | true =>
   rw [hm,cond_true] at h
   have:memb a.born (e.born::V)=true:=memb_iff.2 (List.mem_cons_of_mem _ (memb_mem hm))
   rw [this];exact leftS_lt h
  | false =>
   rw [hm,cond_false] at h
   rcases List.mem_cons.1 h with rfl | h
   ·have:memb e.born (e.born::V)=true:=memb_iff.2 (by simp)
    rw [this]
    simp only [cond_true,cond_false,List.length_cons];omega
   ·have ih:=leftS_lt h
    cases hm':memb a.born (e.born::V) with
    | true=>simp only [cond_true,cond_false,List.length_cons];omega
    | false=>simp only [cond_false,List.length_cons];omega
end
end Go.TX
namespace Go.TX
open Go Go.TH
noncomputable section
variable {P:Program} {sm:Sums} {rec:Rec} {ρ ρ':Ren} {D:Nat→Prop} {st st':St} {w w':World} {N:Nat}
def dlt (G:CV→SEnt→Option (CV × List Nat × Nat)) (es:List SEnt) (q:CV) (k:Nat):CV:=match es[k]? with
 | some e=>match G q e with
  | some (q',_,_)=>q'
  | none=>q
 | none=>q
theorem rows_of {G:CV→SEnt→Option (CV × List Nat × Nat)} {b:Nat} {es:List SEnt} {T:List (CV × List CV)} {R:List Nat} {n:Nat} (h:∀ q row,(q,row)∈T→RowG G b q es row R n) (hc:comB T T=true):RowsT T es.length (dlt G es):=by
 intro q row hm
 have g:=h q row hm
 refine ⟨g.1,fun k hk=>?_,fun q' hq'=>?_⟩
 ·obtain ⟨q',Rr,nr,h1,h2,_⟩:=g.2 k es[k] (List.getElem?_eq_getElem hk)
  rw [h2]
  simp only [dlt,List.getElem?_eq_getElem hk,h1]
 ·obtain ⟨M,hM,_⟩:=comB_mem hc q row hm
  obtain ⟨j,hj,e⟩:=List.getElem_of_mem hq'
  obtain ⟨y,hy,_⟩:=(mapO_ok hM).2 j q' (by rw [List.getElem?_eq_getElem hj,e])
  exact ⟨y,hy⟩
theorem nodupB_pl:∀ {es:List SEnt} {l:List Nat},nodupB es l=true→(es.map (·.born)).Nodup∧∀ x∈es.map (·.born),x ∉ l
 | [],l,_=>⟨List.nodup_nil,fun x hx=>by cases hx⟩
 | e::r,l,h=>by
  simp only [nodupB] at h
  cases hm:memb e.born l with
  | true=>rw [hm] at h;cases h
  | false =>
   rw [hm,cond_false] at h
   obtain ⟨h1,h2⟩:=nodupB_pl h
   have hn:e.born ∉ l:=fun q=>by rw [memb_iff.2 q] at hm;cases hm
   refine ⟨?_,fun x hx=>?_⟩
   ·rw [List.map_cons,List.nodup_cons]
    exact ⟨fun q=>h2 _ q (by simp),h1⟩
   ·rw [List.map_cons] at hx
    rcases List.mem_cons.1 hx with rfl | hx
    ·exact hn
    ·exact fun q=>h2 x hx (List.mem_cons_of_mem _ q)
structure Frm (w w':World) (B:Nat):Prop where
 os:w'.os=w.os
 tape:w'.tape=w.tape
 output:w'.output=w.output
 size:w.heap.size≤w'.heap.size
 keep:∀ b,b<w.heap.size→b≠B→w'.heap[b]?=w.heap[b]?
theorem Frm.refl (w:World) (B:Nat):Frm w w B:=⟨rfl,rfl,rfl,Nat.le_refl _,fun _ _ _=>rfl⟩
theorem Frm.trans {w w1 w2:World} {B:Nat} (h:Frm w w1 B) (h':Frm w1 w2 B):Frm w w2 B :=
 ⟨h'.os.trans h.os,h'.tape.trans h.tape,h'.output.trans h.output,Nat.le_trans h.size h'.size,fun b hb hB=>(h'.keep b (Nat.lt_of_lt_of_le hb h.size) hB).trans (h.keep b hb hB)⟩
theorem allB_mem {α:Type} {f:α→Bool}:∀ {l:List α},allB f l=true→∀ x∈l,f x=true
 | [],_,x,h=>by cases h
 | a::r,h,x,hx=>by
  simp only [allB] at h
  cases ha:f a with
  | false=>rw [ha] at h;cases h
  | true =>
   rw [ha,cond_true] at h
   rcases List.mem_cons.1 hx with rfl | hx
   ·exact ha
   ·exact allB_mem h x hx
theorem isNl_eq {l:List Nat} (h:isNl l=true):l=[]:=by cases l;rfl;cases h
theorem isNrm_eq {e:Ex} (h:isNrm e=true):e=.nrm:=by cases e <;> first | rfl | cases h
theorem eqN_eq {l r:List Nat} (h:eqL Nat.beq l r=true):l=r:=eqL_eq (fun _ _=>Nat.eq_of_beq_eq_true) h
structure MlF (P:Program) (sm:Sums) (rec:Rec) (ro:Option Nat) (N:Nat) (ops os:List Oper) (C:Code) (x d:Nat) (A:List Nat) (env:Tr SV) (ds:List Nat) (h0:Tr SO) (nx b:Nat) (R W:List Nat) (L:List Out) (i m since clk:Nat) (es:List SEnt) (car:List Nat) (q0 q:CV) (T:List (CV × List CV)) (R2:List Nat) (n2:Nat):Prop where
 hxA:x ∉ A
 hdA:d∈A
 hdN:d<N
 hx:env.get x=some (.ptr i 0)
 hi:h0.get i=some (.iter (some m) since [] clk)
 hm:h0.get m=some (.map es clk)
 sc:since≤clk
 old:oldB since es=true
 bi:b≤i
 nd:nodupB es []=true
 big:2≤es.length
 hcar:carL env A []=some car
 hq0:getT env car=some q0
 exp:expS P sm rec ro N ops os C d car (keptL A N) ds i m since clk (anyT env A) h0 nx b es (Nat.add (Nat.mul 4 (llen es)) 10) [q0] [] (insK b m R fun R'=>R') nx=some (T,R2,n2)
 com:comB T T=true
 run:runT T es.length 0 q0=some q
 lst:lstS P sm rec ro N ops os C d car ds i (anyT env A) h0 q b R2 W n2=some L
theorem mlGo_some {ro:Option Nat} {ops os:List Oper} {C:Code} {x d:Nat} {A:List Nat} {env:Tr SV} {ds:List Nat} {h0:Tr SO} {nx b:Nat} {R W:List Nat} {L:List Out} (h:mlGo P sm rec ro N ops os C x d A env ds ⟨h0,nx,b,R,W⟩=some L):∃ i m since clk es car q0 q T R2 n2,MlF P sm rec ro N ops os C x d A env ds h0 nx b R W L i m since clk es car q0 q T R2 n2:=by
 simp only [mlGo] at h
 cases hxA:memb x A with
 | true=>rw [hxA] at h;cases h
 | false =>
  rw [hxA,cond_false] at h
  have hdd:=(bif_of h).1
  replace h:=(bif_of h).2
  rw [Bool.and_eq_true] at hdd
  split at h
  case h_2=>cases h
  rename_i i hx
  split at h
  case h_2=>cases h
  rename_i m since clk hi
  split at h
  case h_2=>cases h
  rename_i es clk' hm
  have hc:=(bif_of h).1
  replace h:=(bif_of h).2
  simp only [Bool.and_eq_true] at hc
  obtain ⟨c1,c2,c3,c4,c5,c6⟩:=hc
  have e:=Nat.eq_of_beq_eq_true c1
  subst e
  split at h
  case h_2=>cases h
  rename_i car hcar
  split at h
  case h_2=>cases h
  rename_i q0 hq0
  split at h
  case h_2=>cases h
  rename_i T R2 n2 hexp
  have hcom:=(bif_of h).1
  replace h:=(bif_of h).2
  split at h
  case h_2=>cases h
  rename_i q hrun
  refine ⟨i,m,since,clk,es,car,q0,q,T,R2,n2,⟨fun hh=>(by rw [memb_iff.2 hh] at hxA;cases hxA),memb_mem hdd.1,Nat.blt_eq.mp hdd.2,hx,hi,hm,Nat.ble_eq.mp c2,c3,Nat.ble_eq.mp c4,c5,(by rw [← llen_eq];exact Nat.ble_eq.mp c6),hcar,hq0,hexp,hcom,(by rw [← llen_eq];exact hrun),h⟩⟩
section
variable {ro:Option Nat} {ops os:List Oper} {C:Code} {x d:Nat} {A:List Nat} {env:Tr SV} {ds:List Nat} {h0:Tr SO} {nx b:Nat} {R W:List Nat} {L:List Out} {i m since clk:Nat} {es:List SEnt} {car:List Nat} {q0 q:CV} {T:List (CV × List CV)} {R2:List Nat} {n2:Nat}
theorem MlF.rows (f:MlF P sm rec ro N ops os C x d A env ds h0 nx b R W L i m since clk es car q0 q T R2 n2):(∀ q row,(q,row)∈T→RowG (rndS P sm rec ro N ops os C d car (keptL A N) ds i m since clk (anyT env A) h0 nx) b q es row R2 n2)∧(∀ x,x∈(insK b m R fun R'=>R')→x∈R2)∧nx≤n2:=expS_ok f.exp (fun q row h=>by cases h)
theorem MlF.out (f:MlF P sm rec ro N ops os C x d A env ds h0 nx b R W L i m since clk es car q0 q T R2 n2):∃ L1,exL P sm rec N ops os ((putT (anyT env A) car q).set d (some (.tup [.raw (.bool false)]))) ⟨h0.set i none,n2,b,R2,W⟩=some L1∧mapB (fun p=>rec ro N C p.1 ds p.2) L1=some L∧∀ o∈L,o.1≠.nrm:=by
 have h:=f.lst
 simp only [lstS] at h
 split at h
 case h_2=>cases h
 rename_i L1 h1
 split at h
 case h_2=>cases h
 rename_i L2 h2
 have ha:=(bif_of h).1
 replace h:=(bif_of h).2
 simp only [Option.some.injEq] at h
 subst h
 refine ⟨L1,h1,h2,fun o ho e=>?_⟩
 have:=allB_mem ha o ho
 rw [e] at this
 cases this
theorem MlF.mono (hrm:RecMono rec) (hsm:SumMono sm) (f:MlF P sm rec ro N ops os C x d A env ds h0 nx b R W L i m since clk es car q0 q T R2 n2):∀ o∈L,Mono ⟨h0.set i none,n2,b,R2,W⟩ o.2.2.2:=by
 obtain ⟨L1,h1,h2,_⟩:=f.out
 intro o ho
 obtain ⟨p,hp,lx,e1,e2⟩:=(mapB_mem h2).2 o ho
 exact (exL_mono hrm hsm h1 p hp).trans (hrm _ _ _ _ _ _ _ e1 o e2)
theorem MlF.ne (hrn:RecNE rec) (f:MlF P sm rec ro N ops os C x d A env ds h0 nx b R W L i m since clk es car q0 q T R2 n2):L≠[]:=by
 obtain ⟨L1,h1,h2,_⟩:=f.out
 exact mapB_ne h2 (exL_ne hrn h1) (fun p lx e=>hrn _ _ _ _ _ _ _ e)
theorem MlF.mono0 (hrm:RecMono rec) (hsm:SumMono sm) (f:MlF P sm rec ro N ops os C x d A env ds h0 nx b R W L i m since clk es car q0 q T R2 n2):∀ o∈L,Mono ⟨h0,nx,b,R,W⟩ o.2.2.2:=by
 intro o ho
 refine Mono.trans ?_ (f.mono hrm hsm o ho)
 obtain ⟨_,h2,h3⟩:=f.rows
 refine ⟨h3,rfl,fun y hy=>h2 y (by rw [insK_eq];exact ins_sub _ _ _ _ hy),fun y hy=>?_⟩
 show KeepL (h0.get y) ((h0.set i none).get y)
 rw [Tr.get_set]
 by_cases e:y=i
 ·rw [if_pos e,e,f.hi]
  exact ⟨fun r hr=>(by cases hr),fun hr=>(by cases hr)⟩
 ·rw [if_neg e];exact KeepL.refl _
end
end
end Go.TX
namespace Go.TX
open Go Go.TH
noncomputable section
variable {P:Program} {sm:Sums} {rec:Rec} {ρ ρ':Ren} {D:Nat→Prop} {st st':St} {w w':World} {N:Nat}
theorem ins_mem {b x y:Nat} {l:List Nat} (h:y∈ins b x l):y=x∨y∈l:=by
 unfold ins at h
 cases h1:Nat.blt x b with
 | false=>rw [h1] at h;exact .inr h
 | true =>
  cases h2:memb x l with
  | true=>rw [h1,h2] at h;exact .inr h
  | false=>rw [h1,h2] at h;exact List.mem_cons.1 h
theorem getT_raw (env:Tr SV):∀ (car:List Nat) (q:CV),getT env car=some q→∀ t,t∈car→∃ v,env.get t=some (.raw v)
 | [],_,_,t,h=>by cases h
 | c::r,q,h,t,ht=>by
  simp only [getT] at h
  split at h
  case h_2=>cases h
  rename_i v hv
  split at h
  case h_2=>cases h
  rename_i l hl
  rcases List.mem_cons.1 ht with rfl | ht
  ·exact ⟨v,hv⟩
  ·exact getT_raw env r l hl t ht
theorem dlt_eq {G:CV→SEnt→Option (CV × List Nat × Nat)} {es:List SEnt} {q q':CV} {k n:Nat} {e:SEnt} {Rr:List Nat} (h1:es[k]?=some e) (h2:G q e=some (q',Rr,n)):dlt G es q k=q':=by
 simp only [dlt,h1,h2]
theorem setset (h:Tr SO) (i:Nat) (a b:Option SO) (x:Nat):((h.set i a).set i b).get x=(h.set i b).get x:=by
 rw [Tr.get_set (h.set i a),Tr.get_set h i x b]
 by_cases e:x=i
 ·rw [if_pos e,if_pos e]
 ·rw [if_neg e,if_neg e,Tr.get_set,if_neg e]
section
variable {ro:Option Nat} {os:List Oper} {C:Code} {x d:Nat} {A:List Nat} {env:Tr SV} {ds:List Nat} {h0:Tr SO} {nx b:Nat} {R W:List Nat} {L:List Out} {i m since clk:Nat} {es:List SEnt} {car:List Nat} {q0 q:CV} {T:List (CV × List CV)} {R2:List Nat} {n2:Nat}
theorem nx_val {V:List Nat} (h1:h0.get i=some (.iter (some m) since V clk)) (h2:h0.get m=some (.map es clk)) (sc:since≤clk) (old:oldB since es=true):nxS (.ptr i 0) ⟨h0,nx,nx,[],[]⟩=match leftS V es with
 | []=>some [(.tup [.raw (.bool false)],⟨h0,nx,nx,ins nx i (ins nx m []),[]⟩)]
 | e::r=>outsS i m since clk V ⟨h0,nx,nx,ins nx m [],[]⟩ (e::r):=by
 simp only [nxS,h1,Nat.ble_eq.mpr sc,cond_true,rdMK,h2,insK_eq,old]
 cases leftS V es <;> rfl
theorem MlF.ok (hen:Enters P) (hrm:RecMono rec) (hrn:RecNE rec) (hr:CodeOK P rec) (hsm:SumOK P sm) {o:Oper} {id:Nat} (f:MlF P sm rec ro N (o::os) os C x d A env ds h0 nx b R W L i m since clk es car q0 q T R2 n2) (hop:o.op=.next (.tmp x) false) (hog:o.guard=none) (hod:o.dst=some d) {a:Act} {rb:Option Nat} (he:EnvR ρ N env a.tmps) (hds:DsR ρ ds a.defers) (hro:RoR ρ ro rb) (hs:Sim ρ D ⟨h0,nx,b,R,W⟩ w) (hD:∀ o∈L,∀ x,x∈o.2.2.2.R∨b≤x→D x) (hf:∀ o∈L,Free ρ nx o.2.2.2.nx):LoopIn (fwd rb) P (.seq (.region id (o::os).toArray false) C) (fun e' a' w'=>∃ o∈L,PostC ρ D N ⟨h0,nx,b,R,W⟩ w o e' a' w') a w:=by
 obtain ⟨hrows,hR2,hn2⟩:=f.rows
 obtain ⟨L1,hL1,hL,hne⟩:=f.out
 obtain ⟨o1,r1,hLc⟩:=List.exists_cons_of_ne_nil (f.ne hrn)
 have ho1:o1∈L:=by rw [hLc];simp
 have hmo:=f.mono hrm hsm.1 o1 ho1
 have hDR:∀ y,y∈R2∨b≤y→D y:=fun y hy=>hD o1 ho1 y (hy.imp (hmo.R y) _root_.id)
 have hfn:Free ρ nx n2:=fun y h1 h2=>hf o1 ho1 y h1 (Nat.lt_of_lt_of_le h2 hmo.nx)
 have hDi:D i:=hDR i (.inr f.bi)
 have hDm:D m:=hDR m (by rw [insK_eq] at hR2;exact (ins_has b m R).imp (hR2 m) _root_.id)
 have hbi:=f.bi
 obtain ⟨Bi,si,obi,hρi,hwi,horel⟩:=hs.live i _ hDi f.hi
 have hilt:i<nx:=hs.lt i (by simp only [f.hi];simp)
 have hDn:∀ y,nx≤y→D y:=fun y hy=>hDR y (.inr (by omega))
 have hDD:(fun y=>D y∨nx≤y)=D:=funext fun y=>propext ⟨fun q=>q.elim _root_.id (hDn y),.inl⟩
 obtain ⟨envN,henvN⟩:∃ E,E=anyT env A:=⟨_,rfl⟩
 obtain ⟨G,hG⟩:∃ G,G=rndS P sm rec ro N (o::os) os C d car (keptL A N) ds i m since clk (anyT env A) h0 nx:=⟨_,rfl⟩
 rw [← hG] at hrows
 rw [← henvN] at hL1
 have hT:=rows_of hrows f.com
 have hSd:∀ q k,(∃ row,(q,row)∈T)→k<es.length→∃ row,(dlt G es q k,row)∈T:=by
  rintro q k ⟨row,hq⟩ hk
  obtain ⟨_,g2,g3⟩:=hT q row hq
  obtain ⟨r',hr'⟩:=g3 _ (List.mem_of_getElem? (g2 k hk))
  exact ⟨r',lookT_mem hr'⟩
 have hS0:∃ row,(q0,row)∈T:=by
  have h1:=f.run
  have h2:=f.big
  obtain ⟨n,hn⟩:∃ n,es.length=n+1:=⟨es.length-1,by omega⟩
  rw [hn] at h1
  simp only [runT] at h1
  split at h1
  case h_2=>cases h1
  rename_i row hr
  exact ⟨row,lookT_mem hr⟩
 have hfold:=runT_ok hT (by omega) f.run
 have hSI:∀ Is:List Nat,(∀ k∈Is,k<es.length)→∃ row,(Is.foldr (fun k q=>dlt G es q k) q0,row)∈T:=by
  intro Is
  induction Is with
  | nil=>intro _;exact hS0
  | cons k Is ih=>intro hk;exact hSd _ k (ih fun j hj=>hk j (by simp [hj])) (hk k (by simp))
 have hxc:x ∉ car:=fun hh=>by
  rcases (carL_ok env A [] car f.hcar).2.1 x hh with q | q
  ·exact f.hxA q
  ·cases q
 have hcA:∀ t,t∈car→t∈A:=fun t hh=>by
  rcases (carL_ok env A [] car f.hcar).2.1 t hh with q | q
  ·exact q
  ·cases q
 have hgN:∀ t,t ∉ A→envN.get t=env.get t:=fun t ht=>by rw [henvN,anyT_get,if_neg (fun q=>ht q.2)]
 have hgx:∀ q,svOp (putT envN car q) (.tmp x)=.ptr i 0:=fun q=>by
  simp only [svOp]
  rw [putT_out _ _ _ _ hxc,hgN x f.hxA,f.hx]
 have hmi:m≠i:=fun e=>by
  have h1:=f.hi
  rw [← e,f.hm] at h1
  cases h1
 obtain ⟨bn,hbn⟩:∃ bn:Nat→Nat,∀ k e,es[k]?=some e→bn k=e.born:=⟨fun k=>(es[k]?.map (·.born)).getD 0,fun k e hk=>by simp [hk]⟩
 have hwant:∀ E:Tr SV,wantS (o::os) E o=some true:=fun E=>by unfold wantS;rw [hog]
 have key:∀ (n:Nat) (Is:List Nat) (a1:Act) (w1:World),(leftS (Is.map bn) es).length=n→(∀ k∈Is,k<es.length)→Is.Nodup→EnvR ρ N (putT envN car (Is.foldr (fun k q=>dlt G es q k) q0)) a1.tmps→DsR ρ ds a1.defers→Sim ρ D ⟨h0.set i (some (.iter (some m) since (Is.map bn) clk)),nx,b,R,W⟩ w1→Frm w w1 Bi→LoopIn (fwd rb) P (.seq (.region id (o::os).toArray false) C) (fun e' a' w'=>∃ o∈L,PostC ρ D N ⟨h0,nx,b,R,W⟩ w o e' a' w') a1 w1:=by
  intro n
  induction n using Nat.strongRecOn with
  | _ n ih =>
  intro Is a1 w1 hn hIs hnd he1 hd1 hs1 hfr
  refine LoopIn.of (wpIn_seq (wpIn_region_lit ?_))
  simp only [wpListIn]
  rw [if_pos (by rw [wantS_ok he1 (hwant _)])]
  have gi:(h0.set i (some (.iter (some m) since (Is.map bn) clk))).get i=some (.iter (some m) since (Is.map bn) clk):=by rw [Tr.get_set,if_pos rfl]
  have gm:(h0.set i (some (.iter (some m) since (Is.map bn) clk))).get m=some (.map es clk):=by rw [Tr.get_set,if_neg hmi];exact f.hm
  have hs1':Sim ρ D ⟨h0.set i (some (.iter (some m) since (Is.map bn) clk)),nx,nx,[],[]⟩ w1:=hs1.congr (fun _=>rfl) rfl
  have hnv:=nx_val (nx:=nx) gi gm f.sc f.old
  have hex:exO P sm rec (putT envN car (Is.foldr (fun k q=>dlt G es q k) q0)) o ⟨h0.set i (some (.iter (some m) since (Is.map bn) clk)),nx,nx,[],[]⟩=nxS (.ptr i 0) ⟨h0.set i (some (.iter (some m) since (Is.map bn) clk)),nx,nx,[],[]⟩:=by
   obtain ⟨dst,op,ty,pos,af,g⟩:=o
   simp only at hop
   subst hop
   simp only [exO,hgx]
  rw [hnv] at hex
  have hDt:∀ y,y∈ins nx i (ins nx m [])∨nx≤y→D y:=by
   rintro y (hy | hy)
   ·rcases ins_mem hy with rfl | hy
    ·exact hDi
    ·rcases ins_mem hy with rfl | hy
     ·exact hDm
     ·cases hy
   ·exact hDn y hy
  have hfr0:Free ρ nx nx:=fun y h1 h2=>absurd h1 (by omega)
  cases hl:leftS (Is.map bn) es with
  | cons e0 r0 =>
   rw [hl] at hex
   obtain ⟨Lx,hLx,hLm⟩:=outsS_some (st:=⟨h0.set i (some (.iter (some m) since (Is.map bn) clk)),nx,nx,ins nx m [],[]⟩) (q:=i) (m:=m) (since:=since) (clk:=clk) (seen:=Is.map bn) (e0::r0)
   have h1:=hex.trans hLx
   refine exO_ok hen hrm hrn hr hsm h1 ρ D w1 a1 _ _ he1 hs1' (fun p hp y hy=>?_) (fun p hp=>?_) ?_
   ·obtain ⟨e,_,rfl⟩:=hLm p hp
    exact hDt y hy
   ·obtain ⟨e,_,rfl⟩:=hLm p hp
    exact hfr0
   intro p hp u w2 ρ1 hv hst
   obtain ⟨e,hel,rfl⟩:=hLm p hp
   have hρ1:ρ1=ρ:=funext fun y=>hst.ext y (by show y<nx∨nx≤y;omega)
   rw [hρ1] at hv hst
   have hev:=leftS_mem.1 (show e∈leftS (Is.map bn) es by rw [hl];exact hel)
   obtain ⟨k,hk,hke⟩:=List.getElem_of_mem hev.1
   have hke?:es[k]?=some e:=by rw [List.getElem?_eq_getElem hk,hke]
   have hbk:=hbn k e hke?
   have hfr2:Frm w1 w2 Bi:=by
    refine ⟨hst.os,hst.tape,hst.output,hst.size,fun bb hb hB=>?_⟩
    rcases hst.keep bb hb with q | ⟨y,s,p1,p2,p3,p4⟩
    ·exact q
    ·exfalso
     rcases p4 with p4 | p4
     ·rcases ins_mem p4 with rfl | p4
      ·rw [hρi] at p1;cases p1;exact hB rfl
      ·cases p4
     ·have:=hs1'.lt y p3
      exact absurd this (by show ¬ y<nx;have:nx≤y:=p4;omega)
   obtain ⟨row,hrow⟩:=hSI Is hIs
   obtain ⟨q',Rr,nr,hG1,_,hRr,hnr⟩:=(hrows _ row hrow).2 k e hke?
   have hq':dlt G es (Is.foldr (fun k q=>dlt G es q k) q0) k=q':=dlt_eq hke? hG1
   rw [congrFun (congrFun hG (Is.foldr (fun k q=>dlt G es q k) q0)) e,← henvN] at hG1
   simp only [rndS] at hG1
   split at hG1
   case h_2=>cases hG1
   rename_i env2 st2 hx2
   split at hG1
   case h_2=>cases hG1
   rename_i e3 env3 ds3 st3 hx3
   have hcs:=(bif_of hG1).1
   replace hG1:=(bif_of hG1).2
   simp only [Bool.and_eq_true] at hcs
   obtain ⟨c1,c2,c3,c4,c5⟩:=hcs
   split at hG1
   case h_2=>cases hG1
   rename_i q2 hgt
   simp only [Option.some.injEq,Prod.mk.injEq] at hG1
   obtain ⟨g1,g2,g3⟩:=hG1
   have hn3:=isNrm_eq c1
   have hd3:=eqN_eq c2
   have hW3:=isNl_eq c3
   rw [hn3,hd3] at hx3
   rw [g1] at hgt
   have hstm:Mono st2 st3:=hrm _ _ _ _ _ _ _ hx3 _ List.mem_cons_self
   have hR3:∀ y,y∈st3.R∨nx≤y→D y:=by
    rintro y (hy | hy)
    ·exact hDR y (hRr y (by rw [← g2];exact hy))
    ·exact hDn y hy
   have hN3:Free ρ nx st3.nx:=fun y a1 a2=>hfn y a1 (by rw [← g3] at hnr;omega)
   have hsE:Sim ρ D ⟨h0.set i (some (.itl m since e.born clk)),nx,nx,[],[]⟩ w2:=by
    have h1:=hst.sim.sub (D':=D) fun y hy=>.inl hy
    have h2:=h1.told (x:=i) (o:=.itl m since e.born clk) (n:=nx) (b:=nx) (R:=[]) (W:=[]) (by show ((h0.set i _).set i _).get i≠none;rw [Tr.get_set,if_pos rfl];simp) (fun _ bb s ob q1 q2 q3=>by
     have q4:=q3 _ (show ((h0.set i _).set i _).get i=some _ by rw [Tr.get_set,if_pos rfl])
     obtain ⟨z0,mb,z1,B,zz,z2,z3⟩:=q4
     refine ⟨z0,B,zz,(Is.map bn).reverse,z2,?_⟩
     rw [z1,z3];simp) (Nat.le_refl nx)
    refine h2.congr (fun y=>?_) rfl
    show (h0.set i _).get y=(((h0.set i _).set i _).set i _).get y
    rw [setset,setset]
   have heE:EnvR ρ N ((putT envN car (Is.foldr (fun k q=>dlt G es q k) q0)).set d (some (.tup [.raw (.bool true),e.key,e.val]))) (a1.put o.dst u).tmps:=by
    rw [hod];exact he1.put f.hdN hv
   refine exL_ok hen hrm hrn hr hsm (ro:=rb) hx2 heE hsE (fun p hp y hy=>?_) (fun p hp=>?_) ?_
   ·rw [List.mem_singleton] at hp
    subst hp
    exact hR3 y (hy.imp (hstm.R y) _root_.id)
   ·rw [List.mem_singleton] at hp
    subst hp
    exact fun y a1 a2=>hN3 y a1 (Nat.lt_of_lt_of_le a2 hstm.nx)
   intro p hp a' w3 ρ3 hd3' he3 hst3
   rw [List.mem_singleton] at hp
   subst hp
   have hle3:ρ.Le ρ3:=hst3.le fun y a1 a2=>hN3 y a1 (Nat.lt_of_lt_of_le a2 hstm.nx)
   have hdef:a'.defers=a1.defers:=by rw [hd3',hod];rfl
   show C.wpIn (fwd rb) 0 P _ a' w3
   refine wpIn_mono (hr ro N C env2 ds st2 _ hx3 ρ3 (fun y=>D y∨nx≤y) w3 a' rb he3 (by rw [hdef];exact hd1.mono hle3) (hro.mono hle3) hst3.sim ?_ ?_) ?_
   ·intro o4 ho4 y hy
    rw [List.mem_singleton] at ho4
    subst ho4
    have hb2:st2.base=nx:=hst3.base
    rw [hb2] at hy
    exact .inl (hR3 y hy)
   ·intro o4 ho4
    rw [List.mem_singleton] at ho4
    subst ho4
    exact hst3.free hN3
   rintro e' a4 w4 ⟨o4,ho4,rfl,ρ4,he4,hd4,hst4⟩
   rw [List.mem_singleton] at ho4
   subst ho4
   have hst34:=hst3.trans hst4
   have hle4:ρ.Le ρ4:=hst34.le hN3
   have hback:∀ y,ρ y≠none→ρ4 y=ρ y:=fun y hy=>by
    cases hρ:ρ y with
    | none=>exact absurd hρ hy
    | some v=>exact hle4 y v hρ
   have hk4:∀ bb,bb<w2.heap.size→w4.heap[bb]?=w2.heap[bb]?:=by
    intro bb hb
    rcases hst34.keep bb hb with q | ⟨y,s,p1,p2,p3,p4⟩
    ·exact q
    ·exfalso
     rcases p4 with p4 | p4
     ·have p4:y∈st3.W:=p4
      rw [hW3] at p4;cases p4
     ·have:=hsE.lt y p3
      exact absurd this (by show ¬ y<nx;have:nx≤y:=p4;omega)
   show LoopIn (fwd rb) P _ _ a4 w4
   refine ih _ ?_ (k::Is) a4 w4 rfl ?_ ?_ ?_ ?_ ?_ ?_
   ·rw [List.map_cons,hbk,← hn]
    exact leftS_lt (show e∈leftS (Is.map bn) es by rw [hl];exact hel)
   ·intro j hj
    rcases List.mem_cons.1 hj with rfl | hj
    ·exact hk
    ·exact hIs j hj
   ·rw [List.nodup_cons]
    refine ⟨fun hh=>hev.2 ?_,hnd⟩
    rw [← hbk];exact List.mem_map_of_mem hh
   ·show EnvR ρ N (putT envN car (dlt G es (Is.foldr (fun k q=>dlt G es q k) q0) k)) a4.tmps
    rw [hq']
    refine ⟨he4.1,fun t=>?_⟩
    have h4:=he4.2 t
    have h4:Rel ρ4 ((env3.get t).getD (.raw undef)) (a4.tmps.getD t undef):=h4
    by_cases htc:t∈car
    ·rw [getT_put envN env3 car q' hgt t htc]
     obtain ⟨v,hv3⟩:=getT_raw env3 car q' hgt t htc
     rw [hv3] at h4 ⊢
     rw [Option.getD_some,Rel] at h4 ⊢
     exact h4
    ·rw [putT_out _ _ _ _ htc]
     by_cases htA:t∈A
     ·have hnone:=((carL_ok env A [] car f.hcar).1 t htA).resolve_right htc
      rw [henvN,anyT_get,if_pos ⟨hnone,htA⟩,Option.getD_some,Rel]
      exact True.intro
     ·rw [hgN t htA]
      by_cases htN:t<N
      ·have hkp:=keptB_ok c5 t (keptL_ok A N t htN htA)
       rw [putT_out _ _ _ _ htc,hgN t htA] at hkp
       rw [← hkp] at h4
       exact Rel.back hback (he.2 t) h4
      ·have h5:=he.2 t
       have e1:a.tmps.getD t undef=undef:=by
        have:=he.1
        simp [Array.getD_eq_getD_getElem?,Array.getElem?_eq_none (show a.tmps.size≤t by omega)]
       have e2:a4.tmps.getD t undef=undef:=by
        have:=he4.1
        simp [Array.getD_eq_getD_getElem?,Array.getElem?_eq_none (show a4.tmps.size≤t by omega)]
       rw [e1] at h5
       rw [e2];exact h5
   ·exact hds.back hback hd4
   ·have h1:=(hst.sim.sub (D':=D) fun y hy=>.inl hy).world hk4
    refine h1.congr (fun y=>?_) rfl
    rw [List.map_cons,hbk]
    exact (setset _ _ _ _ _).symm
   ·exact hfr.trans (hfr2.trans ⟨hst34.os,hst34.tape,hst34.output,hst34.size,fun bb hb _=>hk4 bb hb⟩)
  | nil =>
   rw [hl] at hex
   refine exO_ok hen hrm hrn hr hsm hex ρ D w1 a1 _ _ he1 hs1' (fun p hp y hy=>?_) (fun p hp=>?_) ?_
   ·rw [List.mem_singleton] at hp
    subst hp
    exact hDt y hy
   ·rw [List.mem_singleton] at hp
    subst hp
    exact hfr0
   intro p hp u w2 ρ1 hv hst
   rw [List.mem_singleton] at hp
   subst hp
   have hρ1:ρ1=ρ:=funext fun y=>hst.ext y (by show y<nx∨nx≤y;omega)
   rw [hρ1] at hv hst
   have hfr2:Frm w w2 Bi:=by
    refine hfr.trans ⟨hst.os,hst.tape,hst.output,hst.size,fun bb hb hB=>?_⟩
    rcases hst.keep bb hb with q | ⟨y,s,p1,p2,p3,p4⟩
    ·exact q
    ·exfalso
     rcases p4 with p4 | p4
     ·cases p4
     ·have:=hs1'.lt y p3
      exact absurd this (by show ¬ y<nx;have:nx≤y:=p4;omega)
   have hall:Is.reverse.Perm (List.range' 0 es.length):=by
    rw [List.perm_ext_iff_of_nodup (List.pairwise_reverse.2 (List.Pairwise.imp (fun h=>Ne.symm h) hnd)) (List.nodup_range' 1)]
    intro k
    rw [List.mem_reverse,List.mem_range']
    constructor
    ·intro hk;exact ⟨k,hIs k hk,by omega⟩
    ·rintro ⟨k',hk',rfl⟩
     have ek:es[0+1*k']?=some es[k']:=by rw [show 0+1*k'=k' by omega];exact List.getElem?_eq_getElem hk'
     have hin:es[k'].born∈Is.map bn:=by
      by_cases hh:es[k'].born∈Is.map bn
      ·exact hh
      ·have:=leftS_mem.2 ⟨List.getElem_mem hk',hh⟩
       rw [hl] at this;cases this
     obtain ⟨j,hj,hje⟩:=List.mem_map.1 hin
     have hjl:=hIs j hj
     rw [hbn j es[j] (List.getElem?_eq_getElem hjl)] at hje
     have hnb:=(nodupB_pl f.nd).1
     have:j=k':=by
      have e1:(es.map (·.born))[j]'(by simpa using hjl)=(es.map (·.born))[k']'(by simpa using hk'):=by simpa using hje
      exact (List.getElem_inj hnb).1 e1
     rw [show 0+1*k'=k' by omega,← this]
     exact hj
   have hq:Is.foldr (fun k q=>dlt G es q k) q0=q:=by
    rw [hfold,← foldl_perm (S:=fun q=>∃ row,(q,row)∈T) (n:=es.length) (fun q k hq hk=>hSd q k hq hk) (fun q i j ⟨row,hq⟩ hi hj=>com_ok hT f.com hq hi hj) hall (fun k hk=>hIs k (List.mem_reverse.1 hk)) q0 hS0]
    rw [List.foldl_reverse]
   have hsE:Sim ρ D ⟨h0.set i none,n2,b,R2,W⟩ w2:=by
    have h1:=(hst.sim.sub (D':=D) fun y hy=>.inl hy).untold (x:=i) (n:=n2) (b:=b) (R:=R2) (W:=W) hn2
    refine h1.congr (fun y=>?_) rfl
    exact (setset _ _ _ _ _).symm
   have heE:EnvR ρ N ((putT envN car q).set d (some (.tup [.raw (.bool false)]))) (a1.put o.dst u).tmps:=by
    rw [hod,← hq];exact he1.put f.hdN hv
   have hf2:∀ o∈L,Free ρ n2 o.2.2.2.nx:=fun o ho y a1 a2=>hf o ho y (Nat.le_trans hn2 a1) a2
   obtain ⟨d1,f1⟩:=mapB_fst (ρ:=ρ) (D:=D) (st:=⟨h0.set i none,n2,b,R2,W⟩) (s:=fun p:Tr SV × St=>p.2) (t:=fun o:Out=>o.2.2.2) hL (fun p lx e=>hrn _ _ _ _ _ _ _ e) (fun p lx e o ho=>hrm _ _ _ _ _ _ _ e o ho) hD hf2
   refine exL_ok hen hrm hrn hr hsm (ro:=rb) hL1 heE hsE d1 f1 ?_
   intro p hp a' w3 ρ3 hd3 he3 hst3
   obtain ⟨lx,e1,e2⟩:=(mapB_mem hL).1 p hp
   have hle3:ρ.Le ρ3:=hst3.le (f1 p hp)
   have hdef:a'.defers=a1.defers:=by rw [hd3,hod];rfl
   show C.wpIn (fwd rb) 0 P _ a' w3
   refine wpIn_mono (hr ro N C p.1 ds p.2 lx e1 ρ3 _ w3 a' rb he3 (by rw [hdef];exact hd1.mono hle3) (hro.mono hle3) hst3.sim (fun o ho=>(hst3.snd (hD o (e2 o ho)) (hf2 o (e2 o ho))).1) (fun o ho=>(hst3.snd (hD o (e2 o ho)) (hf2 o (e2 o ho))).2)) ?_
   rintro e' a4 w4 ⟨o4,ho4,rfl,ρ4,he4,hd4,hst4⟩
   have hin:=e2 o4 ho4
   have hbase:Step ρ ρ D ⟨h0,nx,b,R,W⟩ ⟨h0.set i none,n2,b,R2,W⟩ w w2:=by
    refine ⟨hfr2.os,hfr2.tape,hfr2.output,hfr2.size,hn2,rfl,fun y hy=>hR2 y (by rw [insK_eq];exact ins_sub _ _ _ _ hy),fun y hy=>hy,fun _ _=>rfl,?_,?_,?_,?_,?_⟩
    ·intro bb hb
     by_cases e:bb=Bi
     ·refine .inr ⟨i,si,by rw [e];exact hρi,hDi,?_,.inr hbi⟩
      show h0.get i≠none
      rw [f.hi];simp
     ·exact .inl (hfr2.keep bb hb e)
    ·intro y _ hy
     show (h0.set i none).get y=none
     rw [Tr.get_set]
     by_cases e:y=i
     ·rw [if_pos e]
     ·rw [if_neg e];exact hy
    ·intro y _
     by_cases e:y=i
     ·exact .inl (.inr (by rw [e];exact hbi))
     ·refine .inr ?_
      show (h0.set i none).get y=h0.get y
      rw [Tr.get_set,if_neg e]
    ·intro y bb s hy hg _
     exfalso
     have hg:(h0.set i none).get y≠none:=hg
     rw [Tr.get_set] at hg
     by_cases e:y=i
     ·rw [if_pos e] at hg;exact hg rfl
     ·rw [if_neg e] at hg
      have:=hs.lt y hg
      exact absurd this (by show ¬ y<nx;have:nx≤y:=hy;omega)
    ·show Sim ρ (fun y=>D y∨nx≤y) _ w2
     rw [hDD];exact hsE
   have hrest:Step ρ ρ4 (fun y=>D y∨nx≤y) ⟨h0.set i none,n2,b,R2,W⟩ o4.2.2.2 w2 w4:=by
    rw [hDD];exact hst3.trans hst4
   have hfin:∃ o∈L,PostC ρ D N ⟨h0,nx,b,R,W⟩ w o (exOf o4.1) a4 w4:=⟨o4,hin,rfl,ρ4,he4,hd4,hbase.trans hrest⟩
   have hnn:=hne o4 hin
   obtain ⟨ex,env4,ds4,st4⟩:=o4
   cases ex with
   | nrm=>exact absurd rfl hnn
   | ext id=>exact hfin
   | gto l=>exact hfin
   | ret=>exact hfin
 refine key _ [] a w rfl (fun k hk=>by cases hk) List.nodup_nil ?_ hds ?_ (Frm.refl w Bi)
 ·
  show EnvR ρ N (putT envN car q0) a.tmps
  refine ⟨he.1,fun t=>?_⟩
  have h5:=he.2 t
  by_cases htc:t∈car
  ·rw [getT_put envN env car q0 f.hq0 t htc];exact h5
  ·rw [putT_out _ _ _ _ htc]
   by_cases htA:t∈A
   ·have hnone:=((carL_ok env A [] car f.hcar).1 t htA).resolve_right htc
    rw [henvN,anyT_get,if_pos ⟨hnone,htA⟩,Option.getD_some,Rel]
    exact True.intro
   ·rw [hgN t htA];exact h5
 ·refine hs.congr (fun y=>?_) rfl
  show (h0.set i _).get y=h0.get y
  rw [Tr.get_set]
  by_cases e:y=i
  ·rw [if_pos e,e,f.hi];rfl
  ·rw [if_neg e]
end
end
end Go.TX
namespace Go.TX
open Go Go.TH
noncomputable section
variable {P:Program} {sm:Sums} {rec:Rec} {N:Nat}
theorem mlS_some {ro:Option Nat} {c:Code} {env:Tr SV} {ds:List Nat} {st:St} {L:List Out} (h:mlS P sm rec ro N c env ds st=some L):∃ (id:Nat) (o:Oper) (os:List Oper) (C:Code) (x d:Nat) (A:List Nat),c=.loop (.seq (.region id (o::os).toArray false) C)∧o.op=.next (.tmp x) false∧o.guard=none∧o.dst=some d∧mlGo P sm rec ro N (o::os) os C x d A env ds st=some L:=by
 unfold mlS at h
 split at h
 case h_2=>cases h
 rename_i b
 split at h
 case h_2=>cases h
 rename_i a C
 split at h
 case h_2=>cases h
 rename_i id ops draw
 split at h
 case h_2=>cases h
 split at h
 case h_2=>cases h
 rename_i o os hops
 split at h
 case h_2=>cases h
 rename_i xx s hop
 split at h
 case h_2=>cases h
 split at h
 case h_2=>cases h
 rename_i x
 split at h
 case h_2=>cases h
 rename_i hg
 split at h
 case h_2=>cases h
 rename_i d hd
 obtain ⟨l⟩:=ops
 have e:l=o::os:=hops
 subst e
 exact ⟨id,o,os,C,x,d,_,rfl,hop,hg,hd,h⟩
theorem mlS_MlF {ro:Option Nat} {c:Code} {env:Tr SV} {ds:List Nat} {st:St} {L:List Out} (h:mlS P sm rec ro N c env ds st=some L):∃ (id:Nat) (o:Oper) (os:List Oper) (C:Code) (x d:Nat) (A:List Nat) (i m since clk:Nat) (es:List SEnt) (car:List Nat) (q0 q:CV) (T:List (CV × List CV)) (R2:List Nat) (n2:Nat),c=.loop (.seq (.region id (o::os).toArray false) C)∧o.op=.next (.tmp x) false∧o.guard=none∧o.dst=some d∧MlF P sm rec ro N (o::os) os C x d A env ds st.h st.nx st.base st.R st.W L i m since clk es car q0 q T R2 n2:=by
 obtain ⟨id,o,os,C,x,d,A,h1,h2,h3,h4,h5⟩:=mlS_some h
 obtain ⟨h0,nx,b,R,W⟩:=st
 obtain ⟨i,m,since,clk,es,car,q0,q,T,R2,n2,f⟩:=mlGo_some h5
 exact ⟨id,o,os,C,x,d,A,i,m,since,clk,es,car,q0,q,T,R2,n2,h1,h2,h3,h4,f⟩
theorem mlS_mono (hr:RecMono rec) (hsm:SumMono sm) {ro:Option Nat} {c:Code} {env:Tr SV} {ds:List Nat} {st:St} {L:List Out} (h:mlS P sm rec ro N c env ds st=some L):∀ o∈L,Mono st o.2.2.2:=by
 obtain ⟨id,o,os,C,x,d,A,i,m,since,clk,es,car,q0,q,T,R2,n2,h1,h2,h3,h4,f⟩:=mlS_MlF h
 exact f.mono0 hr hsm
theorem mlS_ne (hr:RecNE rec) {ro:Option Nat} {c:Code} {env:Tr SV} {ds:List Nat} {st:St} {L:List Out} (h:mlS P sm rec ro N c env ds st=some L):L≠[]:=by
 obtain ⟨id,o,os,C,x,d,A,i,m,since,clk,es,car,q0,q,T,R2,n2,h1,h2,h3,h4,f⟩:=mlS_MlF h
 exact f.ne hr
theorem stepM_some {ro:Option Nat} {c:Code} {env:Tr SV} {ds:List Nat} {st:St} {L:List Out} (h:stepM P sm rec ro N c env ds st=some L):mlS P sm rec ro N c env ds st=some L∨stepC P sm rec ro N c env ds st=some L:=by
 unfold stepM at h
 split at h
 ·rename_i L' hL
  simp only [Option.some.injEq] at h
  rw [h] at hL
  exact .inl hL
 ·exact .inr h
theorem stepM_mono (hr:RecMono rec) (hsm:SumMono sm):RecMono (stepM P sm rec):=by
 intro ro N c env ds st L h
 rcases stepM_some h with h | h
 ·exact mlS_mono hr hsm h
 ·exact stepC_mono hr hsm _ _ _ _ _ _ _ h
theorem stepM_ne (hr:RecNE rec):RecNE (stepM P sm rec):=by
 intro ro N c env ds st L h
 rcases stepM_some h with h | h
 ·exact mlS_ne hr h
 ·exact stepC_ne hr _ _ _ _ _ _ _ h
theorem stepM_ok (hm:P.follows .mixedOrders=true) (hen:Enters P) (hrm:RecMono rec) (hrn:RecNE rec) (hr:CodeOK P rec) (hl:LoopOK P rec) (hsm:SumOK P sm):CodeOK P (stepM P sm rec)∧LoopOK P (stepM P sm rec):=by
 have hs:=stepC_ok hm hen hrm hrn hr hl hsm
 have hloop:∀ {ro:Option Nat} {N:Nat} {c:Code} {env:Tr SV} {ds:List Nat} {st:St} {L:List Out},mlS P sm rec ro N (.loop c) env ds st=some L→∀ (ρ:Ren) (D:Nat→Prop) (w:World) (a:Act) (rb:Option Nat),EnvR ρ N env a.tmps→DsR ρ ds a.defers→RoR ρ ro rb→Sim ρ D st w→(∀ o∈L,∀ x,x∈o.2.2.2.R∨st.base≤x→D x)→(∀ o∈L,Free ρ st.nx o.2.2.2.nx) →
  LoopIn (fwd rb) P c (fun e' a' w'=>∃ o∈L,PostC ρ D N st w o e' a' w') a w:=by
  intro ro N c env ds st L h ρ D w a rb he hds hro hs hD hf
  obtain ⟨id,o,os,C,x,d,A,i,m,since,clk,es,car,q0,q,T,R2,n2,h1,h2,h3,h4,f⟩:=mlS_MlF h
  cases h1
  obtain ⟨h0,nx,b,R,W⟩:=st
  exact f.ok hen hrm hrn hr hsm h2 h3 h4 he hds hro hs hD hf
 constructor
 ·intro ro N c env ds st L h
  rcases stepM_some h with h | h
  ·obtain ⟨id,o,os,C,x,d,A,h1,_⟩:=mlS_some h
   subst h1
   intro ρ D w a rb he hds hro hs hD hf
   exact LoopIn.wp (hloop h ρ D w a rb he hds hro hs hD hf)
  ·exact hs.1 _ _ _ _ _ _ _ h
 ·intro ro N c env ds st L h
  rcases stepM_some h with h | h
  ·exact hloop h
  ·exact hs.2 _ _ _ _ _ _ _ h
end
end Go.TX
namespace Go.TX
open Go Go.TH
noncomputable section
variable {P:Program} {sm:Sums} {rec:Rec} {N:Nat} {st st':St}
def lmPat (_:Array Oper):Bool:=false
def exD2 (_:Program) (_:Sums) (_:Rec) (_:Nat) (_:Array Oper) (_:Tr SV) (_:St):Option (Tr SV × St):=none
theorem exD2_no {P:Program} {sm:Sums} {rec:Rec} {N:Nat} {ops:Array Oper} {env:Tr SV} {st:St} {p:Tr SV × St} {Q:Prop} (h:exD2 P sm rec N ops env st=some p):Q:=by cases (show (none:Option (Tr SV × St))=some p from h)
def lmS (P:Program) (sm:Sums) (rec:Rec) (N:Nat) (ops:Array Oper) (env:Tr SV) (ds:List Nat) (st:St):Option (List Out):=match exD2 P sm rec N ops env st with
  | some p=>nrmS ds p
  | none=>none
def stepN (P:Program) (sm:Sums) (rec:Rec):Rec:=fun ro N c env ds st=>match c with
  | .region id ops draw=>match draw&&lmPat ops with
    | true=>lmS P sm rec N ops env ds st
    | false=>stepM P sm rec ro N (.region id ops draw) env ds st
  | c=>stepM P sm rec ro N c env ds st
def exN (P:Program) (sm:Sums) (n:Nat):Rec:=Nat.rec (motive:=fun _=>Rec) (fun _ _ _ _ _ _=>none) (fun _ ih=>stepN P sm ih) n
theorem stepN_some {ro:Option Nat} {c:Code} {env:Tr SV} {ds:List Nat} {L:List Out} (h:stepN P sm rec ro N c env ds st=some L):(∃ id ops p,c=.region id ops true∧exD2 P sm rec N ops env st=some p∧L=[(.nrm,p.1,ds,p.2)])∨stepM P sm rec ro N c env ds st=some L:=by
  unfold stepN at h
  split at h
  · rename_i id ops draw
    split at h
    · rename_i hd
      rw [Bool.and_eq_true] at hd
      unfold lmS at h
      split at h
      case h_2=>cases h
      rename_i p hp
      simp only [nrmS,Option.some.injEq] at h
      exact .inl ⟨id,ops,p,by rw [hd.1],hp,h.symm⟩
    · exact .inr h
  · exact .inr h
theorem stepN_mono (hr:RecMono rec) (hsm:SumMono sm):RecMono (stepN P sm rec):=by
  intro ro N c env ds st L h
  rcases stepN_some h with ⟨id,ops,p,rfl,hp,rfl⟩ | h
  · exact exD2_no hp
  · exact stepM_mono hr hsm _ _ _ _ _ _ _ h
theorem stepN_ne (hr:RecNE rec):RecNE (stepN P sm rec):=by
  intro ro N c env ds st L h
  rcases stepN_some h with ⟨id,ops,p,rfl,hp,rfl⟩ | h
  · simp
  · exact stepM_ne hr _ _ _ _ _ _ _ h
theorem exN_mono (hsm:SumMono sm):∀ n,RecMono (exN P sm n)
  | 0=>fun ro N c env ds st L h=>by (cases h)
  | n+1=>stepN_mono (exN_mono hsm n) hsm
theorem exN_ne:∀ n,RecNE (exN P sm n)
  | 0=>fun ro N c env ds st L h=>by (cases h)
  | n+1=>stepN_ne (exN_ne n)
theorem stepN_ok (hm:P.follows .mixedOrders=true) (hen:Enters P) (hrm:RecMono rec) (hrn:RecNE rec) (hr:CodeOK P rec) (hl:LoopOK P rec) (hsm:SumOK P sm):CodeOK P (stepN P sm rec)∧LoopOK P (stepN P sm rec):=by
  have hs:=stepM_ok hm hen hrm hrn hr hl hsm
  constructor
  · intro ro N c env ds st L h
    rcases stepN_some h with ⟨id,ops,p,rfl,hp,rfl⟩ | h
    · exact exD2_no hp
    · exact hs.1 _ _ _ _ _ _ _ h
  · intro ro N c env ds st L h
    rcases stepN_some h with ⟨id,ops,p,h1,_⟩ | h
    · cases h1
    · exact hs.2 _ _ _ _ _ _ _ h
theorem exN_ok (hm:P.follows .mixedOrders=true) (hen:Enters P) (hsm:SumOK P sm):∀ n,CodeOK P (exN P sm n)∧LoopOK P (exN P sm n)
  | 0=>⟨fun ro N c env ds st L h=>by (cases h),fun ro N c env ds st L h=>by (cases h)⟩
  | n+1=>stepN_ok hm hen (exN_mono hsm.1 n) (exN_ne n) (exN_ok hm hen hsm n).1 (exN_ok hm hen hsm n).2 hsm
/-- a function without arguments that answers yes -/
def yesN (P:Program) (sm:Sums) (n:Nat) (f:FuncId):Bool:=match exF P sm (exN P sm n) f [] st0 with
  | some L=>allT L
  | _=>false
theorem yesN_ok (hm:P.follows .mixedOrders=true) (hen:Enters P) (hsm:SumOK P sm) {n:Nat} {f:FuncId} (h:yesN P sm n f=true) (w:World):CallsIn Fence.wide 0 P f #[] w (fun e w'=>e=.returned (.bool true)∧Kept w w'):=by
  unfold yesN at h
  split at h
  case h_2=>cases h
  rename_i L hx
  have hn:∀ x,st0.h.get x=none:=fun x=>Tr.get_lf x
  have hs:Sim (fun _=>none) (fun _=>True) st0 w:=⟨fun x o _ g=>(by rw [hn x] at g;cases g),fun x y b s s' _ _ g=>absurd (hn x) g,fun x g=>absurd (hn x) g⟩
  have:=(exF_ok (exN_mono hsm.1 n) (exN_ne n) (exN_ok hm hen hsm n).1 hsm hx).1 (fun _=>none) (fun _=>True) w [] RelL.nil hs (fun _ _ _ _=>trivial) (fun _ _ _ _ _=>rfl)
  refine CallsIn.mono this ?_
  rintro e w' ⟨p,hp,u,ρ',rfl,h1,h2⟩
  rw [allT_ok h p hp,Rel] at h1
  refine ⟨by rw [h1],h2.os,h2.tape,h2.output,h2.size,fun b hb=>?_⟩
  rcases h2.keep b hb with q | ⟨x,s,q,_⟩
  · exact q
  · cases q
end
end Go.TX
namespace Go.TX
open Go Go.TH
noncomputable section
def forceK {α β:Type}:List α→(List α→β)→β
  | [],k=>k []
  | x::r,k=>forceK r (fun t=>k (x::t))
theorem forceK_eq {α β:Type}:∀ (l:List α) (k:List α→β),forceK l k=k l
  | [],_=>rfl
  | x::r,k=>by rw [forceK,forceK_eq r]
def fastK {β:Type} (P:Program) (k:Program→β):β:=match P with
  | ⟨⟨v,pl,io,gd,⟨ts⟩,rt,ct,gl,ini,mn,fo⟩,⟨fs⟩⟩=>forceK ts fun ts'=>forceK fs fun fs'=>k ⟨⟨v,pl,io,gd,⟨ts'⟩,rt,ct,gl,ini,mn,fo⟩,⟨fs'⟩⟩
theorem fastK_eq {β:Type} (P:Program) (k:Program→β):fastK P k=k P:=by
  unfold fastK
  simp only [forceK_eq]
def mapF {α β:Type} (f:α→Option (List β)) (l:List α):Option (List β):=List.rec (motive:=fun _=>Option (List β)) (some []) (fun x r ih=>List.rec (motive:=fun _=>Option (List β)) (f x) (fun _ _ _=>Option.rec (motive:=fun _=>Option (List β)) none (fun l=>Option.rec (motive:=fun _=>Option (List β)) none (fun l'=>some (l++l')) ih) (f x)) r) l
theorem mapF_eq {α β:Type} (f:α→Option (List β)):∀ (l:List α),mapF f l=mapB f l
  | []=>by unfold mapB;rfl
  | [x]=>by
    unfold mapB
    show f x=_
    cases f x <;> rfl
  | x::y::r=>by
    have ih:=mapF_eq f (y::r)
    unfold mapB
    show Option.rec (motive:=fun _=>Option (List β)) none (fun l=>Option.rec (motive:=fun _=>Option (List β)) none (fun l'=>some (l++l')) (mapF f (y::r))) (f x)=_
    rw [ih]
    cases f x with
    | none=>rfl
    | some l =>
      show _=match mapB f (y::r) with
        | some l'=>some (l++l')
        | none=>none
      cases mapB f (y::r) <;> rfl
def bnd {α β:Type} (r:Option (List α)) (k:α→Option (List β)):Option (List β):=match r with
  | some L=>mapB k L
  | none=>none
theorem mapB_one {α β:Type} (k:α→Option (List β)) (x:α):mapB k [x]=k x:=by unfold mapB;cases k x <;> rfl
theorem bnd_one {α β:Type} (k:α→Option (List β)) (x:α):bnd (some [x]) k=k x:=mapB_one k x
theorem mapB_cons {α β:Type} (f:α→Option (List β)) (x y:α) (r:List α):mapB f (x::y::r)=match f x with
    | some l=>match mapB f (y::r) with
      | some l'=>some (l++l')
      | none=>none
    | none=>none:=by
  rw [mapB]
  cases f x with
  | none=>rfl
  | some l=>rfl
theorem mapB_nil {α β:Type} (f:α→Option (List β)):mapB f []=some []:=by unfold mapB;rfl
theorem mapB_app {α β:Type} (f:α→Option (List β)):∀ (l r:List α),mapB f (l++r)=match mapB f l with
    | some a=>match mapB f r with
      | some b=>some (a++b)
      | none=>none
    | none=>none
  | [],r=>by
    rw [List.nil_append,mapB_nil]
    cases mapB f r <;> rfl
  | [x],[]=>by
    rw [List.append_nil,mapB_nil]
    cases mapB f [x] with
    | none=>rfl
    | some a=>simp
  | [x],y::r=>by
    rw [List.cons_append,List.nil_append,mapB_cons,mapB_one]
  | x::y::l,r=>by
    have ih:=mapB_app f (y::l) r
    rw [List.cons_append,List.cons_append,mapB_cons,mapB_cons,← List.cons_append,ih]
    cases f x with
    | none=>rfl
    | some a =>
      cases mapB f (y::l) with
      | none=>rfl
      | some b=>cases mapB f r <;> simp
theorem mapB_bnd {α β γ:Type} (f:α→Option (List β)) (g:β→Option (List γ)):∀ (l:List α),bnd (mapB f l) g=mapB (fun x=>bnd (f x) g) l
  | []=>by rw [mapB_nil,mapB_nil];exact mapB_nil g
  | [x]=>by rw [mapB_one,mapB_one]
  | x::y::r=>by
    have ih:=mapB_bnd f g (y::r)
    rw [mapB_cons,mapB_cons,← ih]
    cases f x with
    | none=>rfl
    | some a =>
      cases mapB f (y::r) with
      | none =>
        show none=match mapB g a with
          | some l=>_
          | none=>none
        cases mapB g a <;> rfl
      | some b =>
        show mapB g (a++b)=_
        rw [mapB_app];rfl
theorem bnd_bnd {α β γ:Type} (r:Option (List α)) (f:α→Option (List β)) (g:β→Option (List γ)):bnd (bnd r f) g=bnd r (fun x=>bnd (f x) g):=by
  cases r with
  | none=>rfl
  | some l=>exact mapB_bnd f g l
theorem bnd_pure {α:Type} (r:Option (List α)):bnd r (fun x=>some [x])=r:=by
  cases r with
  | none=>rfl
  | some l =>
    show mapB _ l=some l
    have:∀ l:List α,mapB (fun x=>some [x]) l=some l:=by
      intro l
      induction l with
      | nil=>exact mapB_nil _
      | cons x r ih =>
        cases r with
        | nil=>exact mapB_one _ _
        | cons y r=>rw [mapB_cons,ih];rfl
    exact this l
theorem bnd_oneL {α β:Type} (r:Option α) (k:α→Option (List β)):bnd (oneL r) k=match r with
    | some p=>k p
    | none=>none:=by
  cases r with
  | none=>rfl
  | some p=>exact bnd_one k p
def bnd1 {α β:Type} (r:Option (List α)) (k:α→Option β):Option β:=match r with
  | some [p]=>k p
  | _=>none
def fin (md:Bool) (r:Option (List (SV × St))) (k:SV→St→RB):RB:=Option.rec (motive:=fun _=>RB) none (fun L=>Bool.rec (motive:=fun _=>RB) (mapF (fun p=>Prod.rec (motive:=fun _=>RB) k p) L) (List.rec (motive:=fun _=>RB) none (fun p r _=>List.rec (motive:=fun _=>RB) (Prod.rec (motive:=fun _=>RB) k p) (fun _ _ _=>none) r) L) md) r
theorem fin_eq (md:Bool) (r:Option (List (SV × St))) (k:SV→St→RB):fin md r k=match md with
    | false=>bnd r (fun p=>k p.1 p.2)
    | true=>bnd1 r (fun p=>k p.1 p.2):=by
  cases md with
  | false =>
    cases r with
    | none=>rfl
    | some L =>
      show mapF _ L=mapB _ L
      rw [mapF_eq]
  | true =>
    rcases r with _ | (_ | ⟨p,_ | ⟨q,l⟩⟩) <;> rfl
def stK (r:Option (SV × St)) (k:SV→St→RB):RB:=Option.rec (motive:=fun _=>RB) none (fun p=>Prod.rec (motive:=fun _=>RB) k p) r
def puK (r:Option SV) (st:St) (k:SV→St→RB):RB:=Option.rec (motive:=fun _=>RB) none (fun v=>k v st) r
theorem fin_oneL (md:Bool) (r:Option (SV × St)) (k:SV→St→RB):stK r k=fin md (oneL r) k:=by
  rw [fin_eq]
  cases r with
  | none=>cases md <;> rfl
  | some p=>cases md with
    | true=>rfl
    | false=>exact (mapB_one (fun p:SV × St=>k p.1 p.2) p).symm
theorem fin_puK (md:Bool) (r:Option SV) (st:St) (k:SV→St→RB):puK r st k=fin md (oneL (withS r st)) k:=by
  rw [← fin_oneL]
  cases r <;> rfl
theorem fin_none (md:Bool) (k:SV→St→RB):fin md none k=none:=rfl
structure KX where
  get:Tr SV→SV
def compX:Operand→KX:=Operand.rec (motive:=fun _=>KX) (fun t=>Tr.Acc.rec (motive:=fun _=>KX) (fun g _=>⟨fun env=>Option.rec (motive:=fun _=>SV) (.raw undef) (fun v=>v) (g env)⟩) (Tr.acc (α:=SV) (β:=Unit) t)) (fun v=>⟨fun _=>svOf v⟩) (fun g=>⟨fun _=>.raw (.pointer (some ⟨g,0,none⟩))⟩) (fun f=>⟨fun _=>.fn f [] []⟩)
theorem compX_get (x:Operand):(compX x).get=fun env=>svOp env x:=by
  cases x with
  | tmp t =>
    funext env
    show (Tr.Acc.rec (motive:=fun _=>KX) (fun g _=>⟨fun env=>Option.rec (motive:=fun _=>SV) (.raw undef) (fun v=>v) (g env)⟩) (Tr.acc (α:=SV) (β:=Unit) t):KX).get env=match env.get t with
      | some v=>v
      | none=>.raw undef
    unfold Tr.get
    generalize (Tr.acc t:Tr.Acc SV Unit)=a
    cases a with
    | mk g s =>
      show Option.rec (motive:=fun _=>SV) (.raw undef) (fun v=>v) (g env)=match g env with
        | some v=>v
        | none=>.raw undef
      cases g env <;> rfl
  | _=>rfl
def kX1 {α:Type} (x:Operand) (f:(Tr SV→SV)→α):α:=KX.rec (motive:=fun _=>α) (fun g=>f g) (compX x)
theorem kX1_eq {α:Type} (x:Operand) (f:(Tr SV→SV)→α):kX1 x f=f (fun env=>svOp env x):=by
  rw [← compX_get]
  unfold kX1
  cases compX x;rfl
structure KXs where
  get:Tr SV→List SV
def compXs:List Operand→KXs:=List.rec (motive:=fun _=>KXs) ⟨fun _=>[]⟩ (fun x _ ih=>KX.rec (motive:=fun _=>KXs) (fun g=>KXs.rec (motive:=fun _=>KXs) (fun gs=>⟨fun env=>g env::gs env⟩) ih) (compX x))
theorem compXs_get:∀ (xs:List Operand),(compXs xs).get=fun env=>svOps env xs
  | []=>rfl
  | x::r=>by
    have h1:=compX_get x
    have h2:=compXs_get r
    funext env
    show (KX.rec (motive:=fun _=>KXs) (fun g=>KXs.rec (motive:=fun _=>KXs) (fun gs=>⟨fun env=>g env::gs env⟩) (compXs r)) (compX x):KXs).get env=svOp env x::svOps env r
    generalize compX x=a at *
    generalize compXs r=b at *
    cases a with
    | mk ga =>
      cases b with
      | mk gb =>
        show ga env::gb env=_
        rw [show ga=_ from h1,show gb=_ from h2]
def kXs {α:Type} (xs:List Operand) (f:(Tr SV→List SV)→α):α:=KXs.rec (motive:=fun _=>α) (fun g=>f g) (compXs xs)
theorem kXs_eq {α:Type} (xs:List Operand) (f:(Tr SV→List SV)→α):kXs xs f=f (fun env=>svOps env xs):=by
  rw [← compXs_get]
  unfold kXs
  cases compXs xs;rfl
def envF (l:List SV):Nat→Tr SV→(Tr SV→RB)→RB:=List.rec (motive:=fun _=>Nat→Tr SV→(Tr SV→RB)→RB) (fun _ env k=>k env) (fun x _ ih i env k=>env.setK i (some x) fun env'=>ih (Nat.succ i) env' k) l
theorem envF_eq:∀ (l:List SV) (i:Nat) (env:Tr SV) (k:Tr SV→RB),envF l i env k=envK l i env k
  | [],_,_,_=>rfl
  | x::r,i,env,k=>by
    simp only [envK,← envF_eq r]
    rfl
abbrev RecK:=Option Nat→Nat→Code→Tr SV→List Nat→St→(Ex→Tr SV→List Nat→St→RB)→RB
def RecOK (rk:RecK) (rec:Rec):Prop:=∀ ro N c env ds st (k:Ex→Tr SV→List Nat→St→RB),rk ro N c env ds st k=bnd (rec ro N c env ds st) (fun o=>k o.1 o.2.1 o.2.2.1 o.2.2.2)
inductive KOp where
  /-- nothing is looked at but the temporaries -/
  | pur (f:Tr SV→(SV→RB)→RB)
  | gen (f:RecK→Tr SV→St→(SV→St→RB)→RB)
def KOp.run:KOp→RecK→Tr SV→St→(SV→St→RB)→RB
  | .pur f=>fun _ env st k=>f env fun v=>k v st
  | .gen f=>f
def kNo:KOp:=.pur fun _ _=>none
def boK (P:Program) (op:BinOp) (T:TypeId) (xo yo:Operand) (x y:Tr SV→SV):KOp:=match bqOf op with
  | some q=>.pur fun env k=>intF (x env) (puG k (boS P op T xo yo (x env) (y env))) fun kd m=>intF (y env) (puG k (boS P op T xo yo (x env) (y env))) fun kd' n=>q kd m kd' n k
  | none=>.pur fun env k=>puG k (boS P op T xo yo (x env) (y env))
theorem boK_run (P:Program) (op:BinOp) (T:TypeId) (xo yo:Operand) (x y:Tr SV→SV) (rk:RecK) (env:Tr SV) (st:St) (k:SV→St→RB):(boK P op T xo yo x y).run rk env st k=puG (fun v=>k v st) (boS P op T xo yo (x env) (y env)):=by
  unfold boK
  cases hq:bqOf op with
  | none=>rfl
  | some q =>
    show intF (x env) (puG (fun v=>k v st) (boS P op T xo yo (x env) (y env))) (fun kd m=>intF (y env) (puG (fun v=>k v st) (boS P op T xo yo (x env) (y env))) fun kd' n=>q kd m kd' n fun v=>k v st)=_
    generalize x env=a
    generalize y env=b
    cases a with
    | raw a =>
      cases a with
      | int kd m =>
        cases b with
        | raw b =>
          cases b with
          | int kd' n =>
            show q kd m kd' n (fun v=>k v st)=puG (fun v=>k v st) (ibS op kd m kd' n)
            rw [bqOf_ok hq]
            cases ibS op kd m kd' n <;> rfl
          | _=>rfl
        | _=>rfl
      | _=>rfl
    | _=>rfl
def cX1 (x:Operand) (f:(Tr SV→SV)→KOp):KOp:=kX1 x f
theorem cX1_eq (x:Operand) (f:(Tr SV→SV)→KOp):cX1 x f=f (fun env=>svOp env x):=kX1_eq x f
structure KF where
  run:RecK→List SV→St→Option (List (SV × St))
def ansOf (p:SV × St):Ans:=⟨p.1,.nrm,.lf,[],p.2⟩
def unOf (a:Ans):SV × St:=(a.v,a.st)
theorem unOf_map:∀ (l:List (SV × St)),(l.map ansOf).map unOf=l
  | []=>rfl
  | p::r=>congrArg (p::·) (unOf_map r)
def fnA (r:Option (SV × St)):RB:=Option.rec (motive:=fun _=>RB) none (fun p=>Prod.rec (motive:=fun _=>RB) (fun v st=>some [⟨v,.nrm,.lf,[],st⟩]) p) r
theorem fnA_eq (r:Option (SV × St)):fnA r=(oneL r).map (List.map ansOf):=by cases r <;> rfl
theorem mapB_map {α β γ:Type} (f:α→Option (List β)) (h:β→γ):∀ (l:List α),mapB (fun x=>(f x).map (List.map h)) l=(mapB f l).map (List.map h)
  | []=>by rw [mapB_nil,mapB_nil];rfl
  | [x]=>by rw [mapB_one,mapB_one]
  | x::y::r=>by
    rw [mapB_cons,mapB_cons,mapB_map f h (y::r)]
    cases f x with
    | none=>rfl
    | some a =>
      cases mapB f (y::r) with
      | none=>rfl
      | some b=>simp
theorem bnd_fnA {α:Type} (r:Option (List α)) (g:α→Option (SV × St)):bnd r (fun o=>fnA (g o))=(bnd r (fun o=>oneL (g o))).map (List.map ansOf):=by
  cases r with
  | none=>rfl
  | some L =>
    show mapB _ L=Option.map _ (mapB _ L)
    rw [← mapB_map]
    simp only [fnA_eq]
theorem bnd_map {α β:Type} (r:Option (List α)) (h:α→β):bnd r (fun x=>some [h x])=r.map (List.map h):=by
  have:=bnd_pure r
  cases r with
  | none=>rfl
  | some L =>
    have e:mapB (fun x=>some [x]) L=some L:=this
    show mapB (fun x=>(some [x]).map (List.map h)) L=_
    rw [mapB_map,e]
def unA (r:RB):Option (List (SV × St)):=Option.rec (motive:=fun _=>Option (List (SV × St))) none (fun L=>some (List.rec (motive:=fun _=>List (SV × St)) [] (fun a _ ih=>Ans.rec (motive:=fun _=>List (SV × St)) (fun v _ _ _ st=>(v,st)::ih) a) L)) r
theorem unA_eq (r:RB):unA r=r.map (List.map unOf):=by
  cases r with
  | none=>rfl
  | some L =>
    show some _=some _
    congr 1
    induction L with
    | nil=>rfl
    | cons a L ih =>
      obtain ⟨v,e,env,ds,st⟩:=a
      exact congrArg ((v,st)::·) ih
theorem unA_bnd {α:Type} (r:Option (List α)) (g:α→Option (SV × St)):unA (bnd r (fun o=>fnA (g o)))=bnd r (fun o=>oneL (g o)):=by
  rw [unA_eq,bnd_fnA]
  cases bnd r (fun o=>oneL (g o)) with
  | none=>rfl
  | some L=>show some _=some _;rw [unOf_map]
def joinF (n0:Nat) (l:List Ans):List (SV × St):=List.rec (motive:=fun _=>List (SV × St)) [] (fun a r _=>List.rec (motive:=fun _=>List (SV × St)) (Ans.rec (motive:=fun _=>List (SV × St)) (fun v _ _ _ st=>[(v,st)]) a) (fun _ _ _=>joinLF n0 (l.map unOf)) r) l
theorem joinF_eq (n0:Nat) (l:List (SV × St)):joinF n0 (l.map ansOf)=joinL n0 l:=by
  rcases l with _ | ⟨p,_ | ⟨q,r⟩⟩
  · rfl
  · rfl
  · show joinLF n0 (((p::q::r).map ansOf).map unOf)=_
    rw [unOf_map,joinLF_eq]
def someJ (n0:Nat) (r:RB):Option (List (SV × St)):=Option.rec (motive:=fun _=>Option (List (SV × St))) none (fun R=>some (joinF n0 R)) r
def compF (P:Program) (sm:Sums) (f:FuncId):KF:=match sm f with
  | some s=>⟨fun _ args st=>oneL (s args st)⟩
  | none=>match P.funcs[f]? with
    | some fn=>match fn.body with
      | some c=>⟨fun rk args st=>Bool.rec (motive:=fun _=>Option (List (SV × St))) none (someJ st.nx (envF args 0 .lf fun env=>rk none fn.ntmps c env [] st fun e env ds st=>fnA (finS P fn (e,env,ds,st)))) (Nat.ble (llenF args) fn.ntmps)⟩
      | none=>⟨fun _ _ _=>none⟩
    | none=>⟨fun _ _ _=>none⟩
theorem compF_eq (P:Program) (sm:Sums) {rk:RecK} {rec:Rec} (h:RecOK rk rec) (f:FuncId) (args:List SV) (st:St):(compF P sm f).run rk args st=exF P sm rec f args st:=by
  unfold compF exF
  cases sm f with
  | some s=>rfl
  | none =>
    cases P.funcs[f]? with
    | none=>rfl
    | some fn =>
      cases hb:fn.body with
      | none=>simp only [hb]
      | some c =>
        simp only [hb,llenF_eq]
        cases Nat.ble (llen args) fn.ntmps with
        | false=>rfl
        | true =>
          show someJ st.nx (envF args 0 .lf fun env=>rk none fn.ntmps c env [] st fun e env ds st=>fnA (finS P fn (e,env,ds,st)))=envK args 0 .lf _
          have hk:∀ (l:List SV) (i:Nat) (env:Tr SV) (k1:Tr SV→RB) (k2:Tr SV→Option (List (SV × St))),(∀ env,someJ st.nx (k1 env)=k2 env)→someJ st.nx (envF l i env k1)=envK l i env k2:=by
            intro l
            induction l with
            | nil=>intro i env k1 k2 hk;exact hk env
            | cons x r ih =>
              intro i env k1 k2 hk
              simp only [envF_eq,envK,Tr.setK_eq]
              rw [← envF_eq]
              exact ih _ _ _ _ hk
          refine hk _ _ _ _ _ fun env=>?_
          rw [h]
          show someJ st.nx (bnd _ fun o=>fnA (finS P fn o))=_
          rw [bnd_fnA]
          cases rec none fn.ntmps c env [] st with
          | none=>rfl
          | some L =>
            show someJ st.nx (Option.map _ (mapB (fun o=>oneL (finS P fn o)) L))=match mapB (fun o=>oneL (finS P fn o)) L with
              | some R=>some (joinL st.nx R)
              | none=>none
            cases mapB (fun o=>oneL (finS P fn o)) L with
            | none=>rfl
            | some R=>show some (joinF st.nx (R.map ansOf))=_;rw [joinF_eq]
def exFK (P:Program) (sm:Sums) (rk:RecK) (f:FuncId) (args:List SV) (st:St):Option (List (SV × St)):=KF.rec (motive:=fun _=>Option (List (SV × St))) (fun run=>run rk args st) (compF P sm f)
theorem exFK_eq (P:Program) (sm:Sums) {rk:RecK} {rec:Rec} (h:RecOK rk rec) (f:FuncId) (args:List SV) (st:St):exFK P sm rk f args st=exF P sm rec f args st:=by
  rw [← compF_eq P sm h]
  unfold exFK
  cases compF P sm f;rfl
def exYbL (rk:RecK) (l:Nat) (N:Nat) (assign body:Code) (env:Tr SV) (st:St):Option (List (SV × St)):=match rk (some l) N assign env [] st (fun e env ds st=>some [⟨.raw undef,e,env,ds,st⟩]) with
    | some [⟨_,e,env1,ds1,st1⟩]=>match e with
      | .nrm=>match st1.h.get l with
        | some (.loop r1)=>match r1.state with
          | .ready=>wtK st1 l (.loop { r1 with state:=.busy }) fun st2=>unA (rk (some l) N body env1 ds1 st2 fun e env ds st=>fnA (yEnd l (e,env,ds,st)))
          | _=>none
        | _=>none
      | _=>none
    | _=>none
def exYbK (rk:RecK) (l:Nat) (r:SLoop) (env:Tr SV) (st:St):Option (List (SV × St)):=SLoop.rec (motive:=fun _=>Option (List (SV × St))) (fun _ _ N _ _ assign body _=>exYbL rk l N assign body env st) r
def exYK (rk:RecK) (l:Nat) (args:List SV) (st:St):Option (List (SV × St)):=match st.h.get l with
  | some (.loop r)=>putsK r.params.toList args r.N r.tmps fun env=>exYbK rk l r env st
  | _=>none
def outA (o:Out):Ans:=⟨.raw undef,o.1,o.2.1,o.2.2.1,o.2.2.2⟩
theorem exYbK_eq {rk:RecK} {rec:Rec} (h:RecOK rk rec) (l:Nat) (r:SLoop) (env:Tr SV) (st:St):exYbK rk l r env st=exYb rec l r env st:=by
  show exYbL rk l r.N r.assign r.body env st=_
  unfold exYbL exYb
  rw [h]
  have e0:=bnd_map (rec (some l) r.N r.assign env [] st) outA
  have e1:(bnd (rec (some l) r.N r.assign env [] st) fun o=>some [⟨.raw undef,o.1,o.2.1,o.2.2.1,o.2.2.2⟩])=(rec (some l) r.N r.assign env [] st).map (List.map outA):=e0
  rw [e1]
  rcases rec (some l) r.N r.assign env [] st with _ | (_ | ⟨⟨e,env1,ds1,st1⟩,_ | ⟨_,_⟩⟩) <;> try rfl
  cases e <;> try rfl
  show (match st1.h.get l with
        | some (.loop r1)=>match r1.state with
          | .ready=>wtK st1 l (.loop { r1 with state:=.busy }) fun st2=>unA (rk (some l) r.N r.body env1 ds1 st2 fun e env ds st=>fnA (yEnd l (e,env,ds,st)))
          | _=>none
        | _=>none)=match st1.h.get l with
        | some (.loop r1)=>match r1.state with
          | .ready=>wtK st1 l (.loop { r1 with state:=.busy }) fun st2=>match rec (some l) r.N r.body env1 ds1 st2 with
            | some L=>mapB (fun o=>oneL (yEnd l o)) L
            | none=>none
          | _=>none
        | _=>none
  have h':=h
  unfold RecOK at h'
  have e2:∀ st2,unA (rk (some l) r.N r.body env1 ds1 st2 fun e env ds st=>fnA (yEnd l (e,env,ds,st)))=match rec (some l) r.N r.body env1 ds1 st2 with
            | some L=>mapB (fun o=>oneL (yEnd l o)) L
            | none=>none:=by
    intro st2
    rw [h']
    refine (unA_bnd _ (fun o=>yEnd l o)).trans ?_
    cases rec (some l) r.N r.body env1 ds1 st2 <;> rfl
  simp only [e2]
theorem exYK_eq {rk:RecK} {rec:Rec} (h:RecOK rk rec) (l:Nat) (args:List SV) (st:St):exYK rk l args st=exY rec l args st:=by
  unfold exYK exY
  simp only [exYbK_eq h]
  rfl
def clK (P:Program) (sm:Sums) (md:Bool) (ty:TypeId) (c:Call):KOp:=match c.callee with
  | .builtin b=>kXs c.args.toList fun xs=>.gen fun rk env st k=>stG k (biS P b c.argTypes.toList ty (xs env) st)
  | .value x=>match x with
    | .func f=>kXs c.args.toList fun xs=>.gen fun rk env st k=>fin md (exFK P sm rk f (xs env) st) k
    | x=>cX1 x fun x=>kXs c.args.toList fun xs=>.gen fun rk env st k=>match x env with
      | .fn f first cap=>fin md (exFK P sm rk f (appS first (appS (xs env) cap)) st) k
      | .yield l=>fin md (exYK rk l (xs env) st) k
      | _=>none
  | _=>kNo
def opK (P:Program) (sm:Sums) (md:Bool) (ty:TypeId):Op→KOp:=Op.rec (motive:=fun _=>KOp)
  /- move -/ (fun x0 => cX1 x0 fun x => .pur fun env k => k (x env))
  /- assign -/ (fun x0 => cX1 x0 fun x => .pur fun env k => k (x env))
  /- pick -/ (fun c0 x0 y0 => cX1 c0 fun c => cX1 x0 fun x => cX1 y0 fun y => .pur fun env k => puG k (pkS (c env) (x env) (y env)))
  /- alloc -/ (fun T => .gen fun rk env st k => stG k (alS P T st))
  /- box -/ (fun T x0 => cX1 x0 fun x => .gen fun rk env st k => stG k (bxS T (x env) st))
  /- build -/ (fun T ps => .pur fun env k => puG k (bdS P T (svParts env ps.toList)))
  /- buildSlice -/ (fun T n ps => .gen fun rk env st k => stG k (bsS P T n (svParts env ps.toList) st))
  /- insert -/ (fun T x0 i0 v0 => cX1 x0 fun x => cX1 i0 fun i => cX1 v0 fun v => .gen fun rk env st k => stG k (muS P T (x env) (i env) (v env) st))
  /- load -/ (fun T x0 => cX1 x0 fun x => stg (ldF P T) fun f => .gen fun rk env st k => f (x env) st k)
  /- store -/ (fun T x0 v0 => cX1 x0 fun x => cX1 v0 fun v => stg (stF P T) fun f => .gen fun rk env st k => f (x env) (v env) st k)
  /- ready -/ (fun _ => kNo)
  /- waits -/ (fun _ => kNo)
  /- nilCheck -/ (fun x0 => cX1 x0 fun x => .pur fun env k => puG k (ncS (x env)))
  /- binOp -/ (fun op T x0 y0 _ => cX1 x0 fun x => cX1 y0 fun y => boK P op T x0 y0 x y)
  /- unOp -/ (fun op _ x0 => cX1 x0 fun x => .pur fun env k => puG k (unS P op (x env)))
  /- convert -/ (fun T T' x0 => cX1 x0 fun x => .pur fun env k => puG k (cvS P T T' (x env)))
  /- sliceToArrayPointer -/ (fun _ _ => kNo)
  /- makeInterface -/ (fun _ _ => kNo)
  /- makeFunc -/ (fun f xs ys => (match f with | .func f => .pur fun env k => k (.fn f (svOps env xs.toList) (svOps env ys.toList)) | _ => kNo))
  /- makeMap -/ (fun _ r => (match r with | none => .gen fun rk env st k => stG k (mmS none st) | some _ => kNo))
  /- makeChan -/ (fun _ _ => kNo)
  /- makeSlice -/ (fun T x0 y0 => cX1 x0 fun x => cX1 y0 fun y => .gen fun rk env st k => stG k (mkS P T (x env) (y env) st))
  /- slice -/ (fun T x0 lo hi mx => cX1 x0 fun x => .gen fun rk env st k => stG k (slS P T (x env) (lo.map (svOp env)) (hi.map (svOp env)) (mx.map (svOp env)) st))
  /- fieldAddr -/ (fun T x0 f => cX1 x0 fun x => stg (faF P T f) fun f => .pur fun env k => f (x env) k)
  /- field -/ (fun T x0 f => cX1 x0 fun x => .pur fun env k => puG k (fdS P T f (x env)))
  /- indexAddr -/ (fun T x0 i0 => cX1 x0 fun x => cX1 i0 fun i => stg (iaF P T) fun f => .pur fun env k => f (x env) (i env) k)
  /- index -/ (fun T x0 i0 => cX1 x0 fun x => cX1 i0 fun i => .pur fun env k => puG k (ixS P T (x env) (i env)))
  /- lookup -/ (fun T x0 i0 ok => cX1 x0 fun x => cX1 i0 fun i => .gen fun rk env st k => stG k (lkS P T (x env) (i env) ok st))
  /- mapUpdate -/ (fun T x0 i0 v0 => cX1 x0 fun x => cX1 i0 fun i => cX1 v0 fun v => .gen fun rk env st k => stG k (muS P T (x env) (i env) (v env) st))
  /- mapEntry -/ (fun T x0 i0 => cX1 x0 fun x => cX1 i0 fun i => .gen fun rk env st k => stG k (meS P T (x env) (i env) st))
  /- entryStore -/ (fun _ x0 i0 v0 => cX1 x0 fun x => cX1 i0 fun i => cX1 v0 fun v => .gen fun rk env st k => stG k (esS (x env) (i env) (v env) st))
  /- range -/ (fun T x0 => cX1 x0 fun x => .gen fun rk env st k => stG k (rgS P T (x env) st))
  /- next -/ (fun x0 s => cX1 x0 fun x => (match s with | false => .gen fun rk env st k => fin md (nxS (x env) st) k | true => kNo))
  /- entry -/ (fun x0 => cX1 x0 fun x => .gen fun rk env st k => stG k (enS (x env) st))
  /- typeAssert -/ (fun _ _ _ _ => kNo)
  /- extract -/ (fun x0 i => cX1 x0 fun x => .pur fun env k => puG k (exS (x env) i))
  /- call -/ (fun c => clK P sm md ty c)
  /- go -/ (fun _ => kNo)
  /- defer -/ (fun _ => kNo)
  /- panic -/ (fun _ => kNo)
  /- send -/ (fun _ _ => kNo)
  /- recv -/ (fun _ _ _ => kNo)
  /- select -/ (fun _ _ => kNo)
theorem appS_nil:∀ (l:List SV),appS l []=l
  | []=>rfl
  | x::r=>by rw [appS,appS_nil r]
theorem opK_eq (P:Program) (sm:Sums) (md:Bool) {rk:RecK} {rec:Rec} (h:RecOK rk rec) (o:Oper) (env:Tr SV) (st:St) (k:SV→St→RB):(opK P sm md o.type o.op).run rk env st k=fin md (exO P sm rec env o st) k:=by
  obtain ⟨d,op,ty,pos,af,g⟩:=o
  cases op with
  | call c =>
    have key:∀ v:SV,(match v with
        | .fn f first cap=>fin md (exFK P sm rk f (appS first (appS (svOps env c.args.toList) cap)) st) k
        | .yield l=>fin md (exYK rk l (svOps env c.args.toList) st) k
        | _=>none)=fin md (match v with
        | .fn f first cap=>exF P sm rec f (appS first (appS (svOps env c.args.toList) cap)) st
        | .yield l=>exY rec l (svOps env c.args.toList) st
        | _=>none) k:=by
      intro v
      cases v <;> simp only [exFK_eq P sm h,exYK_eq h,fin_none]
    show (clK P sm md ty c).run rk env st k=_
    unfold clK exO
    simp only [kXs_eq]
    cases hc:c.callee with
    | builtin b=>simp only [hc];exact fin_oneL _ _ _
    | value x =>
      simp only [hc]
      cases x with
      | func f =>
        show fin md (exFK P sm rk f (svOps env c.args.toList) st) k=fin md (exF P sm rec f (appS [] (appS (svOps env c.args.toList) [])) st) k
        rw [exFK_eq P sm h,appS_nil];rfl
      | tmp t=>simp only [cX1_eq];exact key (svOp env (.tmp t))
      | const v=>simp only [cX1_eq];exact key (svOp env (.const v))
      | global g=>simp only [cX1_eq];exact key (svOp env (.global g))
    | _=>simp only [hc];rfl
  | next x s =>
    cases s with
    | false =>
      show (cX1 x fun x=>.gen fun rk env st k=>fin md (nxS (x env) st) k).run rk env st k=_
      rw [cX1_eq];rfl
    | true =>
      show (cX1 x fun x=>kNo).run rk env st k=_
      rw [cX1_eq];rfl
  | makeFunc f xs ys =>
    cases f with
    | func f=>exact fin_oneL md (some (.fn f (svOps env xs.toList) (svOps env ys.toList),st)) k
    | _=>cases md <;> rfl
  | makeMap T r =>
    cases r with
    | none=>exact fin_oneL md (mmS none st) k
    | some r=>cases md <;> rfl
  | move x =>
    show (cX1 x fun x=>.pur fun env k=>k (x env)).run rk env st k=_
    rw [cX1_eq];exact fin_oneL md (some (svOp env x,st)) k
  | assign x =>
    show (cX1 x fun x=>.pur fun env k=>k (x env)).run rk env st k=_
    rw [cX1_eq];exact fin_oneL md (some (svOp env x,st)) k
  | load T x =>
    show (cX1 x fun x=>stg (ldF P T) fun f=>.gen fun rk env st k=>f (x env) st k).run rk env st k=_
    simp only [cX1_eq,stg_eq]
    exact (ldF_eq P T _ st k).trans (fin_oneL md _ k)
  | store T x v =>
    show (cX1 x fun x=>cX1 v fun v=>stg (stF P T) fun f=>.gen fun rk env st k=>f (x env) (v env) st k).run rk env st k=_
    simp only [cX1_eq,stg_eq]
    exact (stF_eq P T _ _ st k).trans (fin_oneL md _ k)
  | fieldAddr T x f =>
    show (cX1 x fun x=>stg (faF P T f) fun f=>.pur fun env k=>f (x env) k).run rk env st k=_
    simp only [cX1_eq,stg_eq]
    exact (faF_eq P T f _ (fun v=>k v st)).trans (fin_puK md _ st k)
  | indexAddr T x i =>
    show (cX1 x fun x=>cX1 i fun i=>stg (iaF P T) fun f=>.pur fun env k=>f (x env) (i env) k).run rk env st k=_
    simp only [cX1_eq,stg_eq]
    exact (iaF_eq P T _ _ (fun v=>k v st)).trans (fin_puK md _ st k)
  | binOp op T x y w =>
    show (cX1 x fun x'=>cX1 y fun y'=>boK P op T x y x' y').run rk env st k=_
    simp only [cX1_eq,boK_run]
    exact fin_puK md _ st k
  | pick c0 x0 y0 =>
    show (cX1 c0 fun c=>cX1 x0 fun x=>cX1 y0 fun y=>.pur fun env k=>puG k (pkS (c env) (x env) (y env)):KOp).run rk env st k=_
    simp only [cX1_eq]
    exact fin_puK md _ st k
  | alloc T =>
    show (.gen fun rk env st k=>stG k (alS P T st):KOp).run rk env st k=_
    exact fin_oneL md _ k
  | box T x0 =>
    show (cX1 x0 fun x=>.gen fun rk env st k=>stG k (bxS T (x env) st):KOp).run rk env st k=_
    simp only [cX1_eq]
    exact fin_oneL md _ k
  | build T ps =>
    show (.pur fun env k=>puG k (bdS P T (svParts env ps.toList)):KOp).run rk env st k=_
    exact fin_puK md _ st k
  | buildSlice T n ps =>
    show (.gen fun rk env st k=>stG k (bsS P T n (svParts env ps.toList) st):KOp).run rk env st k=_
    exact fin_oneL md _ k
  | insert T x0 i0 v0 =>
    show (cX1 x0 fun x=>cX1 i0 fun i=>cX1 v0 fun v=>.gen fun rk env st k=>stG k (muS P T (x env) (i env) (v env) st):KOp).run rk env st k=_
    simp only [cX1_eq]
    exact fin_oneL md _ k
  | ready _=>cases md <;> rfl
  | waits _=>cases md <;> rfl
  | nilCheck x0 =>
    show (cX1 x0 fun x=>.pur fun env k=>puG k (ncS (x env)):KOp).run rk env st k=_
    simp only [cX1_eq]
    exact fin_puK md _ st k
  | unOp op _ x0 =>
    show (cX1 x0 fun x=>.pur fun env k=>puG k (unS P op (x env)):KOp).run rk env st k=_
    simp only [cX1_eq]
    exact fin_puK md _ st k
  | convert T T' x0 =>
    show (cX1 x0 fun x=>.pur fun env k=>puG k (cvS P T T' (x env)):KOp).run rk env st k=_
    simp only [cX1_eq]
    exact fin_puK md _ st k
  | sliceToArrayPointer _ _=>cases md <;> rfl
  | makeInterface _ _=>cases md <;> rfl
  | makeChan _ _=>cases md <;> rfl
  | makeSlice T x0 y0 =>
    show (cX1 x0 fun x=>cX1 y0 fun y=>.gen fun rk env st k=>stG k (mkS P T (x env) (y env) st):KOp).run rk env st k=_
    simp only [cX1_eq]
    exact fin_oneL md _ k
  | slice T x0 lo hi mx =>
    show (cX1 x0 fun x=>.gen fun rk env st k=>stG k (slS P T (x env) (lo.map (svOp env)) (hi.map (svOp env)) (mx.map (svOp env)) st):KOp).run rk env st k=_
    simp only [cX1_eq]
    exact fin_oneL md _ k
  | field T x0 f =>
    show (cX1 x0 fun x=>.pur fun env k=>puG k (fdS P T f (x env)):KOp).run rk env st k=_
    simp only [cX1_eq]
    exact fin_puK md _ st k
  | index T x0 i0 =>
    show (cX1 x0 fun x=>cX1 i0 fun i=>.pur fun env k=>puG k (ixS P T (x env) (i env)):KOp).run rk env st k=_
    simp only [cX1_eq]
    exact fin_puK md _ st k
  | lookup T x0 i0 ok =>
    show (cX1 x0 fun x=>cX1 i0 fun i=>.gen fun rk env st k=>stG k (lkS P T (x env) (i env) ok st):KOp).run rk env st k=_
    simp only [cX1_eq]
    exact fin_oneL md _ k
  | mapUpdate T x0 i0 v0 =>
    show (cX1 x0 fun x=>cX1 i0 fun i=>cX1 v0 fun v=>.gen fun rk env st k=>stG k (muS P T (x env) (i env) (v env) st):KOp).run rk env st k=_
    simp only [cX1_eq]
    exact fin_oneL md _ k
  | mapEntry T x0 i0 =>
    show (cX1 x0 fun x=>cX1 i0 fun i=>.gen fun rk env st k=>stG k (meS P T (x env) (i env) st):KOp).run rk env st k=_
    simp only [cX1_eq]
    exact fin_oneL md _ k
  | entryStore _ x0 i0 v0 =>
    show (cX1 x0 fun x=>cX1 i0 fun i=>cX1 v0 fun v=>.gen fun rk env st k=>stG k (esS (x env) (i env) (v env) st):KOp).run rk env st k=_
    simp only [cX1_eq]
    exact fin_oneL md _ k
  | range T x0 =>
    show (cX1 x0 fun x=>.gen fun rk env st k=>stG k (rgS P T (x env) st):KOp).run rk env st k=_
    simp only [cX1_eq]
    exact fin_oneL md _ k
  | entry x0 =>
    show (cX1 x0 fun x=>.gen fun rk env st k=>stG k (enS (x env) st):KOp).run rk env st k=_
    simp only [cX1_eq]
    exact fin_oneL md _ k
  | typeAssert _ _ _ _=>cases md <;> rfl
  | extract x0 i =>
    show (cX1 x0 fun x=>.pur fun env k=>puG k (exS (x env) i):KOp).run rk env st k=_
    simp only [cX1_eq]
    exact fin_puK md _ st k
  | go _=>cases md <;> rfl
  | defer _=>cases md <;> rfl
  | panic _=>cases md <;> rfl
  | send _ _=>cases md <;> rfl
  | recv _ _ _=>cases md <;> rfl
  | select _ _=>cases md <;> rfl
structure KP where
  put:Tr SV→SV→(Tr SV→RB)→RB
def compP (N:Nat) (d:Option Tmp):KP:=Option.rec (motive:=fun _=>KP) ⟨fun env _ k=>k env⟩ (fun d=>Bool.rec (motive:=fun _=>KP) ⟨fun _ _ _=>none⟩ (Tr.Acc.rec (motive:=fun _=>KP) (fun _ s=>⟨fun env v k=>s env (some v) k⟩) (Tr.acc d)) (Nat.ble (Nat.succ d) N)) d
theorem compP_eq (N:Nat) (d:Option Tmp) (env:Tr SV) (v:SV) (k:Tr SV→RB):(compP N d).put env v k=putK N env d v k:=by
  cases d with
  | none=>rfl
  | some d =>
    show (Bool.rec (motive:=fun _=>KP) ⟨fun _ _ _=>none⟩ (Tr.Acc.rec (motive:=fun _=>KP) (fun _ s=>⟨fun env v k=>s env (some v) k⟩) (Tr.acc d)) (Nat.ble (Nat.succ d) N):KP).put env v k=bif Nat.ble (Nat.succ d) N then env.setK d (some v) k else none
    cases Nat.ble (Nat.succ d) N with
    | false=>rfl
    | true =>
      show (Tr.Acc.rec (motive:=fun _=>KP) (fun _ s=>⟨fun env v k=>s env (some v) k⟩) (Tr.acc d):KP).put env v k=env.setK d (some v) k
      unfold Tr.setK
      generalize (Tr.acc d:Tr.Acc SV RB)=a
      cases a;rfl
structure KG where
  tst:Tr SV→RB→RB→RB
def gdS (want:Bool) (v:Option SV) (a b:RB):RB:=match v with
  | some (.raw v)=>match v with
    | .bool b'=>bif beqB b' want then a else b
    | _=>b
  | some (.tup _)=>b
  | _=>none
def compG (ops:List Oper) (g:Option (Nat × Bool)):KG:=match g with
  | none=>⟨fun _ a _=>a⟩
  | some (j,want)=>match nth ops j with
    | some oj=>match oj.dst with
      | some d=>⟨fun env a b=>gdS want (env.get d) a b⟩
      | none=>⟨fun _ _ _=>none⟩
    | none=>⟨fun _ _ _=>none⟩
theorem compG_eq (ops:List Oper) (env:Tr SV) (a b:RB) (o:Oper):(compG ops o.guard).tst env a b=match wantS ops env o with
    | some true=>a
    | some false=>b
    | none=>none:=by
  unfold wantS compG
  cases h:o.guard with
  | none=>rfl
  | some p =>
    obtain ⟨j,want⟩:=p
    simp only
    cases h1:nth ops j with
    | none=>rfl
    | some oj =>
      simp only
      cases h2:oj.dst with
      | none=>rfl
      | some d =>
        simp only [gdS]
        cases h3:env.get d with
        | none=>rfl
        | some s =>
          cases s <;> simp
          rename_i v
          cases v <;> simp
          rename_i b'
          cases beqB b' want <;> simp
section
variable (P:Program) (sm:Sums)
structure KL where
  run:RecK→Tr SV→St→(Tr SV→St→RB)→RB
def kl (N:Nat) (ops:List Oper) (tail:KL):Oper→KL:=Oper.rec (motive:=fun _=>KL) (fun dst op ty _ _ g=>KP.rec (motive:=fun _=>KL) (fun put=>KL.rec (motive:=fun _=>KL) (fun trun=>KOp.rec (motive:=fun _=>KL)
    (fun prun=>Option.rec (motive:=fun _=>KL)
      ⟨fun rk env st k=>prun env fun v=>put env v fun env'=>trun rk env' st k⟩
      (fun g=>KG.rec (motive:=fun _=>KL) (fun tst=>⟨fun rk env st k=>tst env (prun env fun v=>put env v fun env'=>trun rk env' st k) (put env (.raw undef) fun env'=>trun rk env' st k)⟩) (compG ops (some g))) g)
    (fun orun=>Option.rec (motive:=fun _=>KL)
      ⟨fun rk env st k=>orun rk env st fun v st'=>put env v fun env'=>trun rk env' st' k⟩
      (fun g=>KG.rec (motive:=fun _=>KL) (fun tst=>⟨fun rk env st k=>tst env (orun rk env st fun v st'=>put env v fun env'=>trun rk env' st' k) (put env (.raw undef) fun env'=>trun rk env' st k)⟩) (compG ops (some g))) g) (opK P sm false ty op)) tail) (compP N dst))
theorem kl_run (N:Nat) (ops:List Oper) (tail:KL) (o:Oper) (rk:RecK) (env:Tr SV) (st:St) (k:Tr SV→St→RB):(kl P sm N ops tail o).run rk env st k=(compG ops o.guard).tst env ((opK P sm false o.type o.op).run rk env st fun v st'=>putK N env o.dst v fun env'=>tail.run rk env' st' k) (putK N env o.dst (.raw undef) fun env'=>tail.run rk env' st k):=by
  obtain ⟨dst,op,ty,pos,af,g⟩:=o
  simp only [← compP_eq]
  unfold kl
  simp only
  generalize compP N dst=p
  generalize opK P sm false ty op=q
  cases p with
  | mk put =>
    cases tail with
    | mk trun =>
      cases q with
      | pur prun =>
        cases g with
        | none=>rfl
        | some g =>
          simp only
          generalize compG ops (some g)=c
          cases c;rfl
      | gen orun =>
        cases g with
        | none=>rfl
        | some g =>
          simp only
          generalize compG ops (some g)=c
          cases c;rfl
def compL (N:Nat) (ops:List Oper):List Oper→KL:=List.rec (motive:=fun _=>KL) ⟨fun _ env st k=>k env st⟩ (fun o _ ih=>kl P sm N ops ih o)
theorem compL_eq {rk:RecK} {rec:Rec} (h:RecOK rk rec) (N:Nat) (ops:List Oper):∀ (l:List Oper) (env:Tr SV) (st:St) (k:Tr SV→St→RB),(compL P sm N ops l).run rk env st k=bnd (exL P sm rec N ops l env st) (fun p=>k p.1 p.2)
  | [],env,st,k=>(bnd_one (fun p:Tr SV × St=>k p.1 p.2) (env,st)).symm
  | o::l,env,st,k=>by
    show (kl P sm N ops (compL P sm N ops l) o).run rk env st k=_
    rw [kl_run,compG_eq,exL,opK_eq P sm false h,fin_eq]
    simp only [compL_eq h N ops l]
    cases wantS ops env o with
    | none=>rfl
    | some b =>
      have hput:∀ v st,(putK N env o.dst v fun env'=>bnd (exL P sm rec N ops l env' st) (fun p=>k p.1 p.2))=bnd (putK N env o.dst v fun env'=>exL P sm rec N ops l env' st) (fun p=>k p.1 p.2):=by
        intro v st
        cases o.dst with
        | none=>rfl
        | some d =>
          simp only [putK,Tr.setK_eq]
          cases Nat.blt d N <;> rfl
      cases b with
      | false=>exact hput _ _
      | true =>
        show bnd (exO P sm rec env o st) (fun p=>putK N env o.dst p.1 fun env'=>bnd (exL P sm rec N ops l env' p.2) (fun p=>k p.1 p.2))=bnd (match exO P sm rec env o st with
          | some L=>mapB (fun p=>putK N env o.dst p.1 fun env'=>exL P sm rec N ops l env' p.2) L
          | none=>none) (fun p=>k p.1 p.2)
        simp only [hput]
        rw [← bnd_bnd]
        cases exO P sm rec env o st <;> rfl
structure KR where
  run:RecK→Tr SV→Tr SO→Nat→List (Nat × Tc)→(Tr SV→Tr SO→Nat→List (Nat × Tc)→RB)→RB
def kr (N:Nat) (ops:List Oper) (tail:KR) (i:Nat):Oper→KR:=Oper.rec (motive:=fun _=>KR) (fun dst op ty _ _ g=>KP.rec (motive:=fun _=>KR) (fun put=>KR.rec (motive:=fun _=>KR) (fun trun=>KOp.rec (motive:=fun _=>KR)
    (fun prun=>Option.rec (motive:=fun _=>KR)
      ⟨fun rk env h nx acc k=>prun env fun v=>put env v fun env'=>trun rk env' h nx acc k⟩
      (fun g=>KG.rec (motive:=fun _=>KR) (fun tst=>⟨fun rk env h nx acc k=>tst env (prun env fun v=>put env v fun env'=>trun rk env' h nx acc k) (put env (.raw undef) fun env'=>trun rk env' h nx acc k)⟩) (compG ops (some g))) g)
    (fun orun=>Option.rec (motive:=fun _=>KR)
      ⟨fun rk env h nx acc k=>orun rk env ⟨h,nx,nx,[],[]⟩ fun v st'=>endF i h nx st' acc fun h2 nx2 acc'=>put env v fun env'=>trun rk env' h2 nx2 acc' k⟩
      (fun g=>KG.rec (motive:=fun _=>KR) (fun tst=>⟨fun rk env h nx acc k=>tst env (orun rk env ⟨h,nx,nx,[],[]⟩ fun v st'=>endF i h nx st' acc fun h2 nx2 acc'=>put env v fun env'=>trun rk env' h2 nx2 acc' k) (put env (.raw undef) fun env'=>trun rk env' h nx acc k)⟩) (compG ops (some g))) g) (opK P sm true ty op)) tail) (compP N dst))
theorem endK_0 (h:Tr SO) (nx:Nat) (k:Tr SO→Nat→Tc→RB):endK h nx ⟨h,nx,nx,[],[]⟩ k=k h nx ⟨[],[],nx,nx,true⟩:=by
  simp only [endK,quietB]
  rw [show Nat.beq nx nx=true from Nat.beq_refl nx];rfl
theorem psh_nul (i nx:Nat) (acc:List (Nat × Tc)):psh i ⟨[],[],nx,nx,true⟩ acc=acc:=by
  have:nul ⟨[],[],nx,nx,true⟩=true:=by simp [nul]
  simp only [psh,this];rfl
theorem kr_run (N:Nat) (ops:List Oper) (tail:KR) (i:Nat) (o:Oper) (rk:RecK) (env:Tr SV) (h:Tr SO) (nx:Nat) (acc:List (Nat × Tc)) (k:Tr SV→Tr SO→Nat→List (Nat × Tc)→RB):(kr P sm N ops tail i o).run rk env h nx acc k=(compG ops o.guard).tst env ((opK P sm true o.type o.op).run rk env ⟨h,nx,nx,[],[]⟩ fun v st'=>endK h nx st' fun h2 nx2 t=>putK N env o.dst v fun env'=>tail.run rk env' h2 nx2 (psh i t acc) k) (putK N env o.dst (.raw undef) fun env'=>tail.run rk env' h nx acc k):=by
  obtain ⟨dst,op,ty,pos,af,g⟩:=o
  simp only [← compP_eq]
  unfold kr
  simp only [endF_eq]
  generalize compP N dst=p
  generalize opK P sm true ty op=q
  cases p with
  | mk put =>
    cases tail with
    | mk trun =>
      cases q with
      | pur prun =>
        have e:∀ (k:Tr SV→Tr SO→Nat→List (Nat × Tc)→RB),(KOp.pur prun).run rk env ⟨h,nx,nx,[],[]⟩ (fun v st'=>endK h nx st' fun h2 nx2 t=>put env v fun env'=>trun rk env' h2 nx2 (psh i t acc) k)=prun env fun v=>put env v fun env'=>trun rk env' h nx acc k:=by
          intro k
          show (prun env fun v=>endK h nx ⟨h,nx,nx,[],[]⟩ fun h2 nx2 t=>put env v fun env'=>trun rk env' h2 nx2 (psh i t acc) k)=_
          simp only [endK_0,psh_nul]
        cases g with
        | none=>exact (e k).symm
        | some g =>
          simp only
          generalize compG ops (some g)=c
          cases c
          simp only [e]
      | gen orun =>
        cases g with
        | none=>rfl
        | some g =>
          simp only
          generalize compG ops (some g)=c
          cases c;rfl
def compR (N:Nat) (ops:List Oper) (l:List Oper):Nat→KR:=List.rec (motive:=fun _=>Nat→KR) (fun _=>⟨fun _ env h nx acc k=>k env h nx acc⟩) (fun o _ ih i=>kr P sm N ops (ih (Nat.succ i)) i o) l
def obd {α:Type} (r:Option α) (k:α→RB):RB:=match r with
  | some p=>k p
  | none=>none
theorem compR_eq {rk:RecK} {rec:Rec} (hr:RecOK rk rec) (N:Nat) (ops:List Oper):∀ (l:List Oper) (env:Tr SV) (h:Tr SO) (nx:Nat) (acc:List Tc) (k:Tr SV→Tr SO→Nat→List (Nat × Tc)→RB),(compR P sm N ops l acc.length).run rk env h nx (flt acc) k=obd (exR P sm rec N ops l env h nx acc) (fun p=>k p.1 p.2.1 p.2.2.1 (flt p.2.2.2))
  | [],env,h,nx,acc,k=>rfl
  | o::l,env,h,nx,acc,k=>by
    show (kr P sm N ops (compR P sm N ops l (Nat.succ acc.length)) acc.length o).run rk env h nx (flt acc) k=_
    have ih:∀ env h nx t,(compR P sm N ops l (Nat.succ acc.length)).run rk env h nx (psh acc.length t (flt acc)) k=obd (exR P sm rec N ops l env h nx (t::acc)) (fun p=>k p.1 p.2.1 p.2.2.1 (flt p.2.2.2)):=fun env h nx t=>compR_eq hr N ops l env h nx (t::acc) k
    have ih0:∀ env h nx,(compR P sm N ops l (Nat.succ acc.length)).run rk env h nx (flt acc) k=obd (exR P sm rec N ops l env h nx (⟨[],[],nx,nx,true⟩::acc)) (fun p=>k p.1 p.2.1 p.2.2.1 (flt p.2.2.2)):=fun env h nx=>by
      rw [← ih,psh_nul]
    rw [kr_run,compG_eq,exR,opK_eq P sm true hr,fin_eq]
    simp only [ih,ih0]
    cases wantS ops env o with
    | none=>rfl
    | some b =>
      have hput:∀ v h nx acc,(putK N env o.dst v fun env'=>obd (exR P sm rec N ops l env' h nx acc) (fun p=>k p.1 p.2.1 p.2.2.1 (flt p.2.2.2)))=obd (putK N env o.dst v fun env'=>exR P sm rec N ops l env' h nx acc) (fun p=>k p.1 p.2.1 p.2.2.1 (flt p.2.2.2)):=by
        intro v h nx acc
        cases o.dst with
        | none=>rfl
        | some d =>
          simp only [putK,Tr.setK_eq]
          cases Nat.blt d N <;> rfl
      cases b with
      | false=>exact hput _ _ _ _
      | true =>
        rcases he:exO P sm rec env o ⟨h,nx,nx,[],[]⟩ with _ | (_ | ⟨⟨v,st'⟩,_ | ⟨_,_⟩⟩)
        · rfl
        · rfl
        · show (endK h nx st' fun h2 nx2 t=>putK N env o.dst v fun env'=>obd (exR P sm rec N ops l env' h2 nx2 (t::acc)) (fun p=>k p.1 p.2.1 p.2.2.1 (flt p.2.2.2)))=obd (endK h nx st' fun h2 nx2 t=>putK N env o.dst v fun env'=>exR P sm rec N ops l env' h2 nx2 (t::acc)) (fun p=>k p.1 p.2.1 p.2.2.1 (flt p.2.2.2))
          simp only [hput]
          have mrgK_app:∀ (h':Tr SO) (W:List Nat) (h:Tr SO) (k1:Tr SO→Option (Tr SV × Tr SO × Nat × List Tc)) (g:_→RB),mrgK h' W h (fun x=>obd (k1 x) g)=obd (mrgK h' W h k1) g:=by
            intro h' W
            induction W with
            | nil=>intros;rfl
            | cons x r ih =>
              intro h k1 g
              simp only [mrgK,Tr.setK_eq]
              cases h'.get x <;> exact ih _ _ _
          have rngK_app:∀ (h':Tr SO) (n x:Nat) (h:Tr SO) (k1:Tr SO→Option (Tr SV × Tr SO × Nat × List Tc)) (g:_→RB),rngK h' n x h (fun x=>obd (k1 x) g)=obd (rngK h' n x h k1) g:=by
            intro h' n
            induction n with
            | zero=>intros;rfl
            | succ n ih =>
              intro x h k1 g
              simp only [rngK,Tr.setK_eq,natK_eq]
              cases h'.get x <;> exact ih _ _ _ _
          obtain ⟨h',nx',b',R,W⟩:=st'
          simp only [endK]
          cases quietB W nx nx' with
          | true=>rfl
          | false =>
            simp only [cond_false]
            cases Nat.ble nx nx' with
            | false=>rfl
            | true =>
              simp only [cond_true]
              cases okW nx R W with
              | false=>rfl
              | true =>
                simp only [cond_true]
                simp only [rngK_app,mrgK_app]
        · rfl
def compD (N:Nat) (ops:Array Oper):KL:=Bool.rec (motive:=fun _=>KL) ⟨fun _ _ _ _=>none⟩ (KR.rec (motive:=fun _=>KL) (fun run=>⟨fun rk env st k=>St.rec (motive:=fun _=>RB) (fun h nx b R W=>run rk env h nx [] fun env' h' nx' ts=>Bool.rec (motive:=fun _=>RB) (Bool.rec (motive:=fun _=>RB) none (tellZ b ts R W fun R' W'=>k env' ⟨h',nx',b,R',W'⟩) (sepP (fun i=>(nthF (cloO ops.toList) (ops.toList.length-1-i)).getD 0) ts)) (tellZ b ts R W fun R' W'=>k env' ⟨h',nx',b,R',W'⟩) (allQF ts)) st⟩) (compR P sm N ops.toList ops.toList 0)) (statD ops)
theorem tellK_app {α:Type} (b:Nat) (k:List Nat→List Nat→Option α) (g:Option α→RB):∀ (ts:List Tc) (R W:List Nat),tellK b ts R W (fun R' W'=>g (k R' W'))=g (tellK b ts R W k)
  | [],_,_=>rfl
  | t::r,R,W=>by
    have hi:∀ {γ δ:Type} (g:γ→δ) (l R:List Nat) (k:List Nat→γ),insAllK b l R (fun R'=>g (k R'))=g (insAllK b l R k):=by
      intro γ δ g l
      induction l with
      | nil=>intros;rfl
      | cons x r ih=>intro R k;simp only [insAllK,insK_eq];exact ih _ _
    simp only [tellK,tellK_app b k g r]
    simp only [hi g]
theorem exR_len {rec:Rec} (N:Nat) (ops:List Oper):∀ (l:List Oper) (env:Tr SV) (h:Tr SO) (nx:Nat) (acc:List Tc) (p:Tr SV × Tr SO × Nat × List Tc),exR P sm rec N ops l env h nx acc=some p→p.2.2.2.length=acc.length+l.length
  | [],env,h,nx,acc,p,hp=>by
    simp only [exR,Option.some.injEq] at hp
    subst hp;rfl
  | o::l,env,h,nx,acc,p,hp=>by
    have hput:∀ v h nx t,(putK N env o.dst v fun env'=>exR P sm rec N ops l env' h nx (t::acc))=some p→p.2.2.2.length=acc.length+(o::l).length:=by
      intro v h nx t hh
      have:∃ env',exR P sm rec N ops l env' h nx (t::acc)=some p:=by
        cases hd:o.dst with
        | none=>rw [hd] at hh;exact ⟨_,hh⟩
        | some d =>
          rw [hd] at hh
          simp only [putK,Tr.setK_eq] at hh
          cases hb:Nat.blt d N with
          | true=>rw [hb] at hh;exact ⟨_,hh⟩
          | false=>rw [hb] at hh;cases hh
      obtain ⟨env',he⟩:=this
      have:=exR_len N ops l env' h nx (t::acc) p he
      simp only [List.length_cons] at this ⊢
      omega
    rw [exR] at hp
    cases hw:wantS ops env o with
    | none=>rw [hw] at hp;cases hp
    | some b =>
      rw [hw] at hp
      cases b with
      | false=>exact hput _ _ _ _ hp
      | true =>
        rcases he:exO P sm rec env o ⟨h,nx,nx,[],[]⟩ with _ | (_ | ⟨⟨v,st'⟩,_ | ⟨_,_⟩⟩)
        · rw [he] at hp;cases hp
        · rw [he] at hp;cases hp
        · rw [he] at hp
          have hp:(endK h nx st' fun h2 nx2 t=>putK N env o.dst v fun env'=>exR P sm rec N ops l env' h2 nx2 (t::acc))=some p:=hp
          have mr:∀ (h':Tr SO) (W:List Nat) (h:Tr SO) (k1:Tr SO→Option (Tr SV × Tr SO × Nat × List Tc)),mrgK h' W h k1=some p→∃ x,k1 x=some p:=by
            intro h' W
            induction W with
            | nil=>intro h k1 hh;exact ⟨_,hh⟩
            | cons x r ih =>
              intro h k1 hh
              simp only [mrgK,Tr.setK_eq] at hh
              cases hg:h'.get x <;> rw [hg] at hh <;> exact ih _ _ hh
          have rr:∀ (h':Tr SO) (n x:Nat) (h:Tr SO) (k1:Tr SO→Option (Tr SV × Tr SO × Nat × List Tc)),rngK h' n x h k1=some p→∃ x,k1 x=some p:=by
            intro h' n
            induction n with
            | zero=>intro x h k1 hh;exact ⟨_,hh⟩
            | succ n ih =>
              intro x h k1 hh
              simp only [rngK,Tr.setK_eq,natK_eq] at hh
              cases hg:h'.get x <;> rw [hg] at hh <;> exact ih _ _ _ hh
          obtain ⟨h',nx',b',R,W⟩:=st'
          simp only [endK] at hp
          cases hq:quietB W nx nx' with
          | true=>rw [hq] at hp;exact hput _ _ _ _ hp
          | false =>
            rw [hq,cond_false] at hp
            cases hb:Nat.ble nx nx' with
            | false=>rw [hb] at hp;cases hp
            | true =>
              rw [hb,cond_true] at hp
              cases hk:okW nx R W with
              | false=>rw [hk] at hp;cases hp
              | true =>
                rw [hk,cond_true] at hp
                obtain ⟨x,hx⟩:=mr _ _ _ _ hp
                obtain ⟨y,hy⟩:=rr _ _ _ _ _ hx
                exact hput _ _ _ _ hy
        · rw [he] at hp;cases hp
theorem cloB_len:∀ (l:List (List Nat)) (acc:List Nat),(cloB l acc).length=l.length+acc.length
  | [],acc=>by simp [cloB]
  | a::r,acc=>by simp only [cloB,natK_eq,cloB_len r,List.length_cons];omega
theorem afsAll_len:∀ (l:List Oper),(afsAll l).length=l.length
  | []=>rfl
  | o::r=>by simp [afsAll,afsAll_len r]
theorem compD_eq {rk:RecK} {rec:Rec} (hr:RecOK rk rec) (N:Nat) (ops:Array Oper) (env:Tr SV) (st:St) (k:Tr SV→St→RB):(compD P sm N ops).run rk env st k=obd (exD P sm rec N ops env st) (fun p=>k p.1 p.2):=by
  obtain ⟨h,nx,b,R,W⟩:=st
  unfold compD exD
  cases statD ops with
  | false=>rfl
  | true =>
    simp only [cond_true]
    have e:=fun (k:Tr SV→Tr SO→Nat→List (Nat × Tc)→RB)=>compR_eq P sm hr N ops.toList ops.toList env h nx [] k
    have hlen:=exR_len P sm (rec:=rec) N ops.toList ops.toList env h nx []
    have e0:(compR P sm N ops.toList ops.toList ([]:List Tc).length)=compR P sm N ops.toList ops.toList 0:=rfl
    rw [e0] at e
    generalize compR P sm N ops.toList ops.toList 0=c at *
    cases c with
    | mk run =>
      show (run rk env h nx [] fun env' h' nx' ts=>Bool.rec (motive:=fun _=>RB) (Bool.rec (motive:=fun _=>RB) none (tellZ b ts R W fun R' W'=>k env' ⟨h',nx',b,R',W'⟩) (sepP (fun i=>(nthF (cloO ops.toList) (ops.toList.length-1-i)).getD 0) ts)) (tellZ b ts R W fun R' W'=>k env' ⟨h',nx',b,R',W'⟩) (allQF ts))=_
      refine (e _).trans ?_
      cases hx:exR P sm rec N ops.toList ops.toList env h nx [] with
      | none=>rfl
      | some p =>
        obtain ⟨env',h',nx',ts⟩:=p
        have hts:ts.length=ops.toList.length:=by
          have:=hlen _ hx
          simpa using this
        have hcl:(cloO ops.toList).length=ops.toList.length:=by
          unfold cloO
          rw [cloB_len,afsAll_len];simp
        have hsep:=sepAll_eq (fun i=>(nthF (cloO ops.toList) (ops.toList.length-1-i)).getD 0) ts (cloO ops.toList) (by omega) (fun i hi=>by
          simp only [nthF_eq,nth_eq]
          rw [hts]
          have:ops.toList.length-1-i<(cloO ops.toList).length:=by omega
          rw [List.getElem?_eq_getElem this];rfl)
        have ht:=tellK_app b (fun R' W'=>some (env',(⟨h',nx',b,R',W'⟩:St))) (fun r=>obd r (fun p=>k p.1 p.2)) ts R W
        show Bool.rec (motive:=fun _=>RB) (Bool.rec (motive:=fun _=>RB) none (tellZ b (flt ts) R W fun R' W'=>k env' ⟨h',nx',b,R',W'⟩) (sepP (fun i=>(nthF (cloO ops.toList) (ops.toList.length-1-i)).getD 0) (flt ts))) (tellZ b (flt ts) R W fun R' W'=>k env' ⟨h',nx',b,R',W'⟩) (allQF (flt ts))=obd (bif allQ ts||sepAll ts (cloO ops.toList) then tellK b ts R W fun R' W'=>some (env',(⟨h',nx',b,R',W'⟩:St)) else none) (fun p=>k p.1 p.2)
        rw [tellZ_eq,allQF_eq,← hsep]
        cases allQ ts with
        | true=>exact ht
        | false =>
          cases sepAll ts (cloO ops.toList) with
          | true=>exact ht
          | false=>rfl
def rfEK (rk:RecK) (ro:Option Nat) (N:Nat) (env:Tr SV) (ds0:List Nat) (l:Nat) (st3:St) (k:Ex→Tr SV→List Nat→St→RB):RB:=match st3.h.get l with
  | some (.loop r)=>match r.state with
    | .busy=>none
    | _=>wtK st3 l (.loop { r with state:=.exhausted }) fun st4=>match r.pending with
      | none=>k .nrm env ds0 st4
      | some c=>rk ro N c env ds0 st4 k
  | _=>none
def rfBK (rk:RecK) (ro:Option Nat) (N:Nat) (g:Operand) (env:Tr SV) (ds0:List Nat) (l:Nat) (st2:St) (k:Ex→Tr SV→List Nat→St→RB):RB:=match svOp env g with
  | .fn f first cap=>bnd (exFK P sm rk f (appS first (.yield l::cap)) st2) (fun p=>rfEK rk ro N env ds0 l p.2 k)
  | _=>none
def rfSK (rk:RecK) (ro:Option Nat) (N:Nat) (g:Operand) (ps:Array Tmp) (assign body:Code) (env:Tr SV) (ds:List Nat) (st:St) (k:Ex→Tr SV→List Nat→St→RB):RB:=match ro with
  | none=>newK st (.dfr false) fun d st1=>newK st1 (.loop ⟨.ready,none,N,env,ps,assign,body,d⟩) fun l st2=>rfBK P sm rk none N g env (d::ds) l st2 k
  | some l0=>match st.h.get l0 with
    | some (.loop r0)=>insK st.base l0 st.R fun R'=>newK ⟨st.h,st.nx,st.base,R',st.W⟩ (.loop ⟨.ready,none,N,env,ps,assign,body,r0.defers⟩) fun l st2=>rfBK P sm rk (some l0) N g env ds l st2 k
    | _=>none
variable {P sm}
abbrev bK (k:Ex→Tr SV→List Nat→St→RB):Out→RB:=fun o=>k o.1 o.2.1 o.2.2.1 o.2.2.2
theorem one_b (k:Ex→Tr SV→List Nat→St→RB) (e:Ex) (env:Tr SV) (ds:List Nat) (st:St):k e env ds st=bnd (some [(e,env,ds,st)]) (bK k):=(bnd_one (bK k) (e,env,ds,st)).symm
theorem rfEK_eq {rk:RecK} {rec:Rec} (hr:RecOK rk rec) (ro:Option Nat) (N:Nat) (env:Tr SV) (ds0:List Nat) (l:Nat) (st3:St) (k:Ex→Tr SV→List Nat→St→RB):rfEK rk ro N env ds0 l st3 k=bnd (rfE rec ro N env ds0 l st3) (bK k):=by
  unfold rfEK rfE
  obtain ⟨h,nx,b,R,W⟩:=st3
  cases h.get l with
  | none=>rfl
  | some o =>
    cases o with
    | loop r =>
      simp only [wtK_eq]
      cases r.state <;> (first | rfl | (simp only;cases r.pending with
        | none=>exact (bnd_one (bK k) (.nrm,env,ds0,_)).symm
        | some c=>exact hr ..))
    | _=>rfl
theorem rfBK_eq {rk:RecK} {rec:Rec} (hr:RecOK rk rec) (ro:Option Nat) (N:Nat) (g:Operand) (env:Tr SV) (ds0:List Nat) (l:Nat) (st2:St) (k:Ex→Tr SV→List Nat→St→RB):rfBK P sm rk ro N g env ds0 l st2 k=bnd (rfB P sm rec ro N g env ds0 l st2) (bK k):=by
  unfold rfBK rfB
  cases svOp env g with
  | fn f first cap =>
    simp only [exFK_eq P sm hr,rfEK_eq hr]
    rw [← bnd_bnd]
    cases exF P sm rec f (appS first (.yield l::cap)) st2 <;> rfl
  | _=>rfl
theorem rfSK_eq {rk:RecK} {rec:Rec} (hr:RecOK rk rec) (ro:Option Nat) (N:Nat) (g:Operand) (ps:Array Tmp) (assign body:Code) (env:Tr SV) (ds:List Nat) (st:St) (k:Ex→Tr SV→List Nat→St→RB):rfSK P sm rk ro N g ps assign body env ds st k=bnd (rfS P sm rec ro N g ps assign body env ds st) (bK k):=by
  unfold rfSK rfS
  cases ro with
  | none =>
    simp only [newK_eq,rfBK_eq hr]
  | some l0 =>
    obtain ⟨h,nx,b,R,W⟩:=st
    simp only
    cases h.get l0 with
    | none=>rfl
    | some o =>
      cases o with
      | loop r0=>simp only [newK_eq,insK_eq,rfBK_eq hr]
      | _=>rfl
variable (P sm)
structure KC where
  run:RecK→Option Nat→Tr SV→List Nat→St→(Ex→Tr SV→List Nat→St→RB)→RB
def cndF (v:SV) (a b:RB):RB:=match v with
  | .raw (.bool true)=>a
  | .raw (.bool false)=>b
  | _=>none
def kThn (N:Nat) (x y:Code):KC:=⟨fun rk ro env ds st k=>rk ro N x env ds st fun e env' ds' st'=>Ex.rec (motive:=fun _=>RB) (rk ro N y env' ds' st' k) (fun i=>k (.ext i) env' ds' st') (fun l=>k (.gto l) env' ds' st') (k .ret env' ds' st') e⟩
def unK (rk:RecK):Rec:=fun ro N c env ds st=>Option.rec (motive:=fun _=>Option (List Out)) none (fun L=>some (List.rec (motive:=fun _=>List Out) [] (fun a _ ih=>Ans.rec (motive:=fun _=>List Out) (fun _ e env ds st=>(e,env,ds,st)::ih) a) L)) (rk ro N c env ds st fun e env ds st=>some [⟨.raw undef,e,env,ds,st⟩])
theorem unK_eq {rk:RecK} {rec:Rec} (h:RecOK rk rec):unK rk=rec:=by
  funext ro N c env ds st
  unfold unK
  rw [h]
  have e0:=bnd_map (rec ro N c env ds st) outA
  have e1:(bnd (rec ro N c env ds st) fun o=>some [⟨.raw undef,o.1,o.2.1,o.2.2.1,o.2.2.2⟩])=(rec ro N c env ds st).map (List.map outA):=e0
  rw [e1]
  cases rec ro N c env ds st with
  | none=>rfl
  | some L =>
    show some _=some _
    congr 1
    induction L with
    | nil=>rfl
    | cons o L ih=>exact congrArg (o::·) ih
def mlPat:Code→Bool
  | .seq a _=>match a with
    | .region _ ops draw=>match draw with
      | false=>match ops.toList with
        | o::_=>match o.op with
          | .next _ s=>!s
          | _=>false
        | []=>false
      | true=>false
    | _=>false
  | _=>false
theorem mlPat_of {rec:Rec} {ro:Option Nat} {N:Nat} {b:Code} {env:Tr SV} {ds:List Nat} {st:St} {L:List Out} (h:mlS P sm rec ro N (.loop b) env ds st=some L):mlPat b=true:=by
  obtain ⟨id,o,os,C,x,d,A,h1,h2,_⟩:=mlS_some h
  injection h1 with h1
  subst h1
  simp only [mlPat,h2]
  rfl
def mlK (rk:RecK) (ro:Option Nat) (N:Nat) (b:Code) (env:Tr SV) (ds:List Nat) (st:St) (k:Ex→Tr SV→List Nat→St→RB):RB:=match mlS P sm (unK rk) ro N (.loop b) env ds st with
  | some L=>bnd (some L) (bK k)
  | none=>(kThn N b (.loop b)).run rk ro env ds st k
def kLoop (N:Nat) (b:Code):KC:=Bool.rec (motive:=fun _=>KC) (kThn N b (.loop b)) ⟨fun rk ro env ds st k=>mlK P sm rk ro N b env ds st k⟩ (mlPat b)
theorem stepM_eqC {rec:Rec} {ro:Option Nat} {N:Nat} {c:Code} {env:Tr SV} {ds:List Nat} {st:St} (h:mlS P sm rec ro N c env ds st=none):stepM P sm rec ro N c env ds st=stepC P sm rec ro N c env ds st:=by
  unfold stepM;rw [h]
def compC (N:Nat):Code→KC:=Code.rec (motive:=fun _=>KC)
  ⟨fun _ _ env ds st k=>k .nrm env ds st⟩
  (fun _ ops draw=>Bool.rec (motive:=fun _=>KC) (KL.rec (motive:=fun _=>KC) (fun run=>⟨fun rk _ env ds st k=>run rk env st fun env' st'=>k .nrm env' ds st'⟩) (Bool.rec (motive:=fun _=>KL) (compL P sm N ops.toList ops.toList) (compD P sm N ops) draw)) ⟨fun rk _ env ds st k=>obd (exD2 P sm (unK rk) N ops env st) fun p=>k .nrm p.1 ds p.2⟩ (draw&&lmPat ops))
  (fun x y _ _=>kThn N x y)
  (fun c x y _ _=>kX1 c fun c=>⟨fun rk ro env ds st k=>cndF (c env) (rk ro N x env ds st k) (rk ro N y env ds st k)⟩)
  (fun id b _=>⟨fun rk ro env ds st k=>rk ro N b env ds st fun e env' ds' st'=>Ex.rec (motive:=fun _=>RB) (k .nrm env' ds' st') (fun i=>Bool.rec (motive:=fun _=>RB) (k (.ext i) env' ds' st') (k .nrm env' ds' st') (Nat.beq i id)) (fun l=>k (.gto l) env' ds' st') (k .ret env' ds' st') e⟩)
  (fun b _=>kLoop P sm N b)
  (fun g ps assign body _ _=>⟨fun rk ro env ds st k=>rfSK P sm rk ro N g ps assign body env ds st k⟩)
  (fun id=>⟨fun _ _ env ds st k=>k (.ext id) env ds st⟩)
  (fun b _=>⟨fun rk ro env ds st k=>rk ro N b env ds st fun e env' ds' st'=>Ex.rec (motive:=fun _=>RB) (k .nrm env' ds' st') (fun i=>k (.ext i) env' ds' st') (fun _=>none) (k .ret env' ds' st') e⟩)
  (fun _=>⟨fun _ _ env ds st k=>k .nrm env ds st⟩)
  (fun l=>⟨fun _ _ env ds st k=>k (.gto l) env ds st⟩)
  ⟨fun _ _ env ds st k=>k .ret env ds st⟩
  (fun _=>⟨fun _ _ _ _ _ _=>none⟩)
theorem thn_eq {rk:RecK} {rec:Rec} (hr:RecOK rk rec) (ro:Option Nat) (N:Nat) (x y:Code) (env:Tr SV) (ds:List Nat) (st:St) (k:Ex→Tr SV→List Nat→St→RB):(kThn N x y).run rk ro env ds st k=bnd (bnd (rec ro N x env ds st) (thnS rec ro N y)) (bK k):=by
  show (rk ro N x env ds st fun e env' ds' st'=>Ex.rec (motive:=fun _=>RB) (rk ro N y env' ds' st' k) (fun i=>k (.ext i) env' ds' st') (fun l=>k (.gto l) env' ds' st') (k .ret env' ds' st') e)=_
  rw [hr,bnd_bnd]
  congr 1
  funext o
  obtain ⟨e,env',ds',st'⟩:=o
  cases e with
  | nrm=>exact hr ..
  | ext i=>exact one_b k (.ext i) env' ds' st'
  | gto l=>exact one_b k (.gto l) env' ds' st'
  | ret=>exact one_b k .ret env' ds' st'
theorem compC_eqC {rk:RecK} {rec:Rec} (hr:RecOK rk rec) (ro:Option Nat) (N:Nat) (c:Code) (hc:∀ b,c≠.loop b) (hl:∀ id ops draw,c=.region id ops draw→(draw&&lmPat ops)=false) (env:Tr SV) (ds:List Nat) (st:St) (k:Ex→Tr SV→List Nat→St→RB):(compC P sm N c).run rk ro env ds st k=bnd (stepC P sm rec ro N c env ds st) (bK k):=by
  cases c with
  | region id ops draw =>
    have hlp:=hl id ops draw rfl
    show (Bool.rec (motive:=fun _=>KC) (KL.rec (motive:=fun _=>KC) (fun run=>⟨fun rk _ env ds st k=>run rk env st fun env' st'=>k .nrm env' ds st'⟩) (Bool.rec (motive:=fun _=>KL) (compL P sm N ops.toList ops.toList) (compD P sm N ops) draw)) ⟨fun rk _ env ds st k=>obd (exD2 P sm (unK rk) N ops env st) fun p=>k .nrm p.1 ds p.2⟩ (draw&&lmPat ops):KC).run rk ro env ds st k=_
    rw [hlp]
    cases draw with
    | false =>
      show (KL.rec (motive:=fun _=>KC) (fun run=>⟨fun rk _ env ds st k=>run rk env st fun env' st'=>k .nrm env' ds st'⟩) (compL P sm N ops.toList ops.toList):KC).run rk ro env ds st k=_
      have e:=fun (k:Tr SV→St→RB)=>compL_eq P sm hr N ops.toList ops.toList env st k
      generalize compL P sm N ops.toList ops.toList=c at *
      cases c with
      | mk run =>
        refine (e _).trans ?_
        have:stepC P sm rec ro N (.region id ops false) env ds st=bnd (exL P sm rec N ops.toList ops.toList env st) (nrmS ds):=by
          simp only [stepC]
          cases exL P sm rec N ops.toList ops.toList env st <;> rfl
        rw [this,bnd_bnd]
        congr 1
        funext p
        exact one_b k .nrm p.1 ds p.2
    | true =>
      show (KL.rec (motive:=fun _=>KC) (fun run=>⟨fun rk _ env ds st k=>run rk env st fun env' st'=>k .nrm env' ds st'⟩) (compD P sm N ops):KC).run rk ro env ds st k=_
      have e:=fun (k:Tr SV→St→RB)=>compD_eq P sm hr N ops env st k
      generalize compD P sm N ops=c at *
      cases c with
      | mk run =>
        refine (e _).trans ?_
        simp only [stepC]
        cases exD P sm rec N ops env st with
        | none=>rfl
        | some p=>exact one_b k .nrm p.1 ds p.2
  | seq x y =>
    refine (thn_eq hr ro N x y env ds st k).trans ?_
    simp only [stepC]
    cases rec ro N x env ds st <;> rfl
  | cond c x y =>
    show (kX1 c fun c=>(⟨fun rk ro env ds st k=>cndF (c env) (rk ro N x env ds st k) (rk ro N y env ds st k)⟩:KC)).run rk ro env ds st k=_
    rw [kX1_eq]
    show cndF (svOp env c) _ _=_
    rw [hr,hr]
    simp only [stepC]
    generalize svOp env c=v
    unfold cndF
    cases v with
    | raw v=>cases v with
      | bool b=>cases b <;> rfl
      | _=>rfl
    | _=>rfl
  | block id b =>
    show (rk ro N b env ds st fun e env' ds' st'=>Ex.rec (motive:=fun _=>RB) (k .nrm env' ds' st') (fun i=>Bool.rec (motive:=fun _=>RB) (k (.ext i) env' ds' st') (k .nrm env' ds' st') (Nat.beq i id)) (fun l=>k (.gto l) env' ds' st') (k .ret env' ds' st') e)=_
    rw [hr]
    have:stepC P sm rec ro N (.block id b) env ds st=bnd (rec ro N b env ds st) (blkS id):=by
      simp only [stepC]
      cases rec ro N b env ds st <;> rfl
    rw [this,bnd_bnd]
    congr 1
    funext o
    obtain ⟨e,env',ds',st'⟩:=o
    cases e with
    | ext i =>
      show Bool.rec (motive:=fun _=>RB) (k (.ext i) env' ds' st') (k .nrm env' ds' st') (Nat.beq i id)=bnd (bif Nat.beq i id then some [(.nrm,env',ds',st')] else some [(.ext i,env',ds',st')]) (bK k)
      cases Nat.beq i id with
      | true=>exact one_b k .nrm env' ds' st'
      | false=>exact one_b k (.ext i) env' ds' st'
    | nrm=>exact one_b k .nrm env' ds' st'
    | gto l=>exact one_b k (.gto l) env' ds' st'
    | ret=>exact one_b k .ret env' ds' st'
  | loop b=>exact absurd rfl (hc b)
  | rangeFunc g ps assign body=>exact rfSK_eq hr ..
  | scope b =>
    show (rk ro N b env ds st fun e env' ds' st'=>Ex.rec (motive:=fun _=>RB) (k .nrm env' ds' st') (fun i=>k (.ext i) env' ds' st') (fun _=>none) (k .ret env' ds' st') e)=_
    rw [hr]
    have:stepC P sm rec ro N (.scope b) env ds st=bnd (rec ro N b env ds st) scoS:=by
      simp only [stepC]
      cases rec ro N b env ds st <;> rfl
    rw [this,bnd_bnd]
    congr 1
    funext o
    obtain ⟨e,env',ds',st'⟩:=o
    cases e with
    | gto l=>rfl
    | nrm=>exact one_b k .nrm env' ds' st'
    | ext i=>exact one_b k (.ext i) env' ds' st'
    | ret=>exact one_b k .ret env' ds' st'
  | skip=>exact one_b k .nrm env ds st
  | label l=>exact one_b k .nrm env ds st
  | goto l=>exact one_b k (.gto l) env ds st
  | exit l=>exact one_b k (.ext l) env ds st
  | ret=>exact one_b k .ret env ds st
  | _=>rfl
theorem compC_eqM {rk:RecK} {rec:Rec} (hr:RecOK rk rec) (ro:Option Nat) (N:Nat) (c:Code) (hl:∀ id ops draw,c=.region id ops draw→(draw&&lmPat ops)=false) (env:Tr SV) (ds:List Nat) (st:St) (k:Ex→Tr SV→List Nat→St→RB):(compC P sm N c).run rk ro env ds st k=bnd (stepM P sm rec ro N c env ds st) (bK k):=by
  by_cases hc:∀ b,c≠.loop b
  · rw [stepM_eqC P sm (by
      cases h:mlS P sm rec ro N c env ds st with
      | none=>rfl
      | some L =>
        obtain ⟨id,o,os,C,x,d,A,h1,_⟩:=mlS_some h
        exact absurd h1 (hc _))]
    exact compC_eqC P sm hr ro N c hc hl env ds st k
  · have hb:∃ b,c=.loop b:=by
      cases c with
      | loop b=>exact ⟨b,rfl⟩
      | _=>exact absurd (fun b h=>by cases h) hc
    obtain ⟨b,rfl⟩:=hb
    have e1:=thn_eq hr ro N b (.loop b) env ds st k
    have e2:stepC P sm rec ro N (.loop b) env ds st=bnd (rec ro N b env ds st) (thnS rec ro N (.loop b)):=by
      simp only [stepC]
      cases rec ro N b env ds st <;> rfl
    rw [← e2] at e1
    show (kLoop P sm N b).run rk ro env ds st k=_
    unfold kLoop
    cases hp:mlPat b with
    | false =>
      have hn:mlS P sm rec ro N (.loop b) env ds st=none:=by
        cases h:mlS P sm rec ro N (.loop b) env ds st with
        | none=>rfl
        | some L=>rw [mlPat_of P sm h] at hp;cases hp
      rw [stepM_eqC P sm hn]
      exact e1
    | true =>
      show mlK P sm rk ro N b env ds st k=_
      unfold mlK stepM
      rw [unK_eq hr]
      cases mlS P sm rec ro N (.loop b) env ds st with
      | none=>exact e1
      | some L=>rfl
theorem compC_eq {rk:RecK} {rec:Rec} (hr:RecOK rk rec) (ro:Option Nat) (N:Nat) (c:Code) (env:Tr SV) (ds:List Nat) (st:St) (k:Ex→Tr SV→List Nat→St→RB):(compC P sm N c).run rk ro env ds st k=bnd (stepN P sm rec ro N c env ds st) (bK k):=by
  by_cases hl:∀ id ops draw,c=.region id ops draw→(draw&&lmPat ops)=false
  · have e:stepN P sm rec ro N c env ds st=stepM P sm rec ro N c env ds st:=by
      cases c with
      | region id ops draw=>simp only [stepN,hl id ops draw rfl]
      | _=>rfl
    rw [e]
    exact compC_eqM P sm hr ro N c hl env ds st k
  · cases c with
    | region id ops draw =>
      have hd:(draw&&lmPat ops)=true:=by
        cases hh:(draw&&lmPat ops) with
        | true=>rfl
        | false=>exact absurd (fun id' ops' draw' e=>by cases e;exact hh) hl
      have e:stepN P sm rec ro N (.region id ops draw) env ds st=lmS P sm rec N ops env ds st:=by simp only [stepN,hd]
      rw [e]
      show (Bool.rec (motive:=fun _=>KC) (KL.rec (motive:=fun _=>KC) (fun run=>⟨fun rk _ env ds st k=>run rk env st fun env' st'=>k .nrm env' ds st'⟩) (Bool.rec (motive:=fun _=>KL) (compL P sm N ops.toList ops.toList) (compD P sm N ops) draw)) ⟨fun rk _ env ds st k=>obd (exD2 P sm (unK rk) N ops env st) fun p=>k .nrm p.1 ds p.2⟩ (draw&&lmPat ops):KC).run rk ro env ds st k=_
      rw [hd]
      show obd (exD2 P sm (unK rk) N ops env st) (fun p=>k .nrm p.1 ds p.2)=_
      rw [unK_eq hr]
      unfold lmS
      cases exD2 P sm rec N ops env st with
      | none=>rfl
      | some p=>exact one_b k .nrm p.1 ds p.2
    | _=>exact absurd (fun id ops draw e=>by cases e) hl
def exCK (n:Nat):RecK:=Nat.rec (motive:=fun _=>RecK) (fun _ _ _ _ _ _ _=>none) (fun _ ih ro N c env ds st k=>KC.rec (motive:=fun _=>RB) (fun run=>run ih ro env ds st k) (compC P sm N c)) n
theorem exCK_eq:∀ n,RecOK (exCK P sm n) (exN P sm n)
  | 0=>fun _ _ _ _ _ _ _=>rfl
  | n+1=>fun ro N c env ds st k=>by
    have e:=compC_eq P sm (exCK_eq n) ro N c env ds st k
    show KC.rec (motive:=fun _=>RB) (fun run=>run (exCK P sm n) ro env ds st k) (compC P sm N c)=bnd (stepN P sm (exN P sm n) ro N c env ds st) _
    refine Eq.trans ?_ e
    cases compC P sm N c;rfl
end
def yesF (P:Program) (sm:Program→Sums) (n:Nat) (f:FuncId):Bool:=fastK P fun P=>match exFK P (sm P) (exCK P (sm P) n) f [] st0 with
  | some L=>allT L
  | _=>false
theorem yesF_eq (P:Program) (sm:Program→Sums) (n:Nat) (f:FuncId):yesF P sm n f=yesN P (sm P) n f:=by
  unfold yesF
  rw [fastK_eq]
  simp only [exFK_eq P (sm P) (exCK_eq P (sm P) n),yesN] <;> rfl
end
end Go.TX
namespace Go.TX
open Go Go.TH
variable {P:Program}
def enB (P : Program) : Bool := P.funcs.toList.all fun fn => fn.body.isNone || !(fn.name == "runtime.NumGoroutine")
theorem Enters.of (h:enB P=true):Enters P:=by
  rintro f ⟨fn,c,hf,hb⟩ args w
  have hm:fn∈P.funcs.toList:=Array.mem_toList_iff.2 (Array.mem_of_getElem? hf)
  have:=List.all_eq_true.1 h fn hm
  rw [hb] at this
  simp only [Option.isNone_some,Bool.false_or,Bool.not_eq_true'] at this
  have hne : ¬ fn.name = "runtime.NumGoroutine" := fun e => by rw [e] at this; simp at this
  simp [callFunc,hf,hne,hb]
theorem sum0:SumOK P (fun _=>none):=⟨fun f s args st v st' h=>(by cases h),fun f s args st v st' h=>(by cases h)⟩
end Go.TX
namespace Go.TX
open Go Go.TH
variable {P:Program} {ρ:Ren} {D:Nat→Prop} {st:St} {w w':World}
def Yes (P:Program) (f:FuncId):Prop:=HasBody P f∧∀ w,CallsIn Fence.wide 0 P f #[] w (fun e w'=>e=.returned (.bool true)∧Kept w w')
def smY (l:List Nat) (_:Program):Sums:=fun f=>bif memb f l then some (fun args st=>match args with
 | []=>some (.raw (.bool true),st)
 | _=>none) else none
theorem Step.kept (hs:Sim ρ D st w) (k:Kept w w'):Step ρ ρ D st st w w':=by
 have h:=Step.refl hs
 exact ⟨k.os,k.tape,k.output,k.size,Nat.le_refl _,rfl,h.sR,h.sW,h.ext,fun b hb=>.inl (k.keep b hb),h.dead,h.same,h.fresh,h.sim.world k.keep⟩
theorem smY_ok {l:List Nat} (h:∀ f,f∈l→Yes P f):SumOK P (smY l P):=by
 have key:∀ f s args st v st',smY l P f=some s→s args st=some (v,st')→f∈l∧args=[]∧v=.raw (.bool true)∧st'=st:=by
  intro f s args st v st' h1 h2
  unfold smY at h1
  cases hm:memb f l with
  | false=>rw [hm] at h1;cases h1
  | true =>
   rw [hm,cond_true,Option.some.injEq] at h1
   subst h1
   cases args with
   | nil =>
    simp only [Option.some.injEq,Prod.mk.injEq] at h2
    exact ⟨memb_mem hm,rfl,h2.1.symm,h2.2.symm⟩
   | cons a r=>simp at h2
 refine ⟨fun f s args st v st' h1 h2=>?_,fun f s args st v st' h1 h2=>?_⟩
 ·obtain ⟨_,_,_,rfl⟩:=key f s args st v st' h1 h2
  exact Mono.refl _
 ·obtain ⟨hf,rfl,rfl,rfl⟩:=key f s args st v st' h1 h2
  refine ⟨fun ρ D w us hu hs _ _=>?_,(h f hf).1⟩
  rw [RelL] at hu
  subst hu
  refine CallsIn.mono ((h f hf).2 w) ?_
  rintro e w' ⟨rfl,hk⟩
  exact ⟨_,List.mem_cons_self,.bool true,ρ,rfl,by rw [Rel],Step.kept hs hk⟩
theorem yesS (hm:P.follows .mixedOrders=true) (he:enB P=true) {sm:Program→Sums} (hsm:SumOK P (sm P)) {n:Nat} {f:FuncId} (hb:HasBody P f) (h:yesF P sm n f=true):Yes P f:=by
 rw [yesF_eq] at h
 exact ⟨hb,yesN_ok hm (Enters.of he) hsm h⟩
def hbB (P:Program) (f:FuncId):Bool:=match P.funcs[f]? with
 | some fn=>fn.body.isSome
 | none=>false
theorem hbB_ok {f:FuncId} (h:hbB P f=true):HasBody P f:=by
 unfold hbB at h
 split at h
 ·rename_i fn hf
  obtain ⟨c,hc⟩:=Option.isSome_iff_exists.1 h
  exact ⟨fn,c,hf,hc⟩
 ·cases h
end Go.TX
namespace Go.TH
open Go Go.TX
variable {P:Program}
theorem Ret.yes {f:FuncId} (h:Yes P f) (w:World):Ret P f #[] w (.bool true):=by
 refine CallsIn.mono (h.2 w) ?_
 rintro e w' ⟨rfl,hk⟩
 exact ⟨_,rfl,[],⟨rfl,rfl⟩,hk.os,hk.tape,hk.output,hk.size,fun k hk' _=>hk.keep k hk',trivial⟩
end Go.TH
namespace Go.Proofs.YtncjabmlkgacdaaGreat
open Go Go.TH Sp
attribute [local irreducible] W WO pt
set_option maxRecDepth 10000
set_option maxHeartbeats 4000000
theorem eq50 (op:BinOp) (b:Bool) (hop:(op=.eql∧b=true)∨(op=.neq∧b=false)) (x:Int × Int):EqT Tryz.prog op 50 (raV x) (raV x) (.bool b):=by
 intro a c w
 rcases hop with ⟨rfl,rfl⟩ | ⟨rfl,rfl⟩ <;> simp [go_sem,Tryz.eqGuardType50,Tryz.underlying50]
theorem cellsX {C:Cx Tryz.prog} {H:List HP} {v:Value} {l:List (Int × Int)} (h:RdF encP 2 C.B C.w0 v l) {i:Nat} (hi:i<l.length) {x y:Int} (hx:(l.getD i (0,0)).1=x) (hy:(l.getD i (0,0)).2=y):Cells C H (elt v i 2) [.int .i64 x,.int .i64 y]:=by
 have:=RdF.cells (H:=H) h hi (0,0)
 unfold encP at this
 rw [hx,hy] at this
 exact this
theorem law_HullRuns (y8:Go.TX.Yes Tryz.prog 8) (w:World) (sp st:Int) (o:Value) (rv:List Value) (rows:Rw) (u:Int) (hu:0≤u∧u≤255) (hR:RdR encP 2 w.heap.size w o rv rows):Ret Tryz.prog 6 [.agg #[.int .i64 sp,.int .i64 st,o],.int .u8 u].toArray w (.bool true):=by
 refine Ret.of mixed tyTab Tryz.func6 rfl rfl ?_
 replace hR:RdR encP 2 (fnCx mixed tyTab Tryz.f6.ntmps w).B (fnCx mixed tyTab Tryz.f6.ntmps w).w0 o rv rows:=hR
 have ho:=hR.sl.oc
 have hle:=hR.sl.le
 refine W.sreg (WO.boxA rfl rfl (fun b1 hb1=>(WO.p rfl rfl (WO.nil (W.seq (W.sreg (WO.fieldL rfl rfl rfl (WO.load rfl rfl (Cell.own Pick.head rfl) rfl ?_))))))))
 refine' WO.len (n:=_) rfl rfl ?hs rfl ?_
 case hs=>(first | exact hR.sl)
 refine WO.p rfl rfl (WO.p rfl rfl ?_)
 refine WO.guard_bl rfl rfl (fun c1=>?_) (fun c1=>?_)
 ·refine WO.no rfl rfl (WO.no rfl rfl (WO.no rfl rfl (WO.no rfl rfl (WO.no rfl rfl (WO.no rfl rfl (WO.p rfl rfl (WO.p rfl rfl (WO.no rfl rfl (WO.no rfl rfl (WO.no rfl rfl (WO.no rfl rfl (WO.no rfl rfl (WO.no rfl rfl (WO.p rfl rfl (WO.p rfl rfl (WO.no rfl rfl (WO.no rfl rfl (WO.no rfl rfl (WO.p rfl rfl (WO.nil (W.cond_t rfl (W.sreg (WO.callR rfl Tryz.call8 (fun L w hi=>Ret.yes y8 w) rfl (WO.p rfl rfl (WO.nil (W.ret ?_))))))))))))))))))))))))))
  exact fin.ret (Res.one rfl (RV.tmp rfl)) rfl
 ·refine WO.go' rfl (WO.fieldL rfl rfl rfl (WO.go' rfl (WO.load rfl rfl (Cell.own Pick.head rfl) rfl (WO.go' rfl ?_))))
  refine' WO.indexAddr (n:=_) (i:=0) rfl rfl rfl ?hs ?h1 rfl ?_
  case hs=>(first | exact hR.sl)
  case h1=>(omega)
  refine WO.go' rfl ?_
  refine' WO.load (v:=_) rfl rfl ?hc rfl ?_
  case hc=>(first | (refine hR.cellV (i:=0) ?_;omega))
  refine WO.go' rfl ?_
  refine' WO.len (n:=_) rfl rfl ?hs rfl ?_
  case hs=>(first | (refine (hR.row 0 ?_).sl;omega))
  refine WO.pg rfl rfl rfl (WO.p rfl rfl (WO.p rfl rfl ?_))
  refine WO.guard_bl rfl rfl (fun c2=>?_) (fun c2=>?_)
  ·refine WO.no rfl rfl (WO.no rfl rfl (WO.no rfl rfl (WO.no rfl rfl (WO.no rfl rfl (WO.no rfl rfl (WO.p rfl rfl (WO.p rfl rfl (WO.no rfl rfl (WO.no rfl rfl (WO.no rfl rfl (WO.p rfl rfl (WO.nil (W.cond_t rfl (W.sreg (WO.callR rfl Tryz.call8 (fun L w hi=>Ret.yes y8 w) rfl (WO.p rfl rfl (WO.nil (W.ret ?_))))))))))))))))))
   exact fin.ret (Res.one rfl (RV.tmp rfl)) rfl
  ·refine WO.go' rfl (WO.fieldL rfl rfl rfl (WO.go' rfl (WO.load rfl rfl (Cell.own Pick.head rfl) rfl (WO.go' rfl ?_))))
   refine' WO.indexAddr (n:=_) (i:=1) rfl rfl rfl ?hs ?h1 rfl ?_
   case hs=>(first | exact hR.sl)
   case h1=>(omega)
   refine WO.go' rfl ?_
   refine' WO.load (v:=_) rfl rfl ?hc rfl ?_
   case hc=>(first | (refine hR.cellV (i:=1) ?_;omega))
   refine WO.go' rfl ?_
   refine' WO.len (n:=_) rfl rfl ?hs rfl ?_
   case hs=>(first | (refine (hR.row 1 ?_).sl;omega))
   refine WO.pg rfl rfl rfl (WO.p rfl rfl (WO.p rfl rfl ?_))
   refine WO.guard_bl rfl rfl (fun c3=>?_) (fun c3=>?_)
   ·refine WO.no rfl rfl (WO.no rfl rfl (WO.no rfl rfl (WO.p rfl rfl (WO.nil (W.cond_t rfl (W.sreg (WO.callR rfl Tryz.call8 (fun L w hi=>Ret.yes y8 w) rfl (WO.p rfl rfl (WO.nil (W.ret ?_))))))))))
    exact fin.ret (Res.one rfl (RV.tmp rfl)) rfl
   ·refine WO.go' rfl (WO.loadA rfl rfl (Cells.own Pick.head) rfl rfl (WO.go' rfl (WO.callR rfl Tryz.call23 (fun L w hi=>Bx.ref_checkHull w sp st o rv rows (hR.later hi)) rfl (WO.pg rfl rfl rfl (WO.p rfl rfl (WO.nil ?_))))))
    refine W.cond_bl rfl (fun c4=>?_) (fun c4=>?_)
    ·refine W.sreg (WO.callR rfl Tryz.call8 (fun L w hi=>Ret.yes y8 w) rfl (WO.p rfl rfl (WO.nil (W.ret ?_))))
     exact fin.ret (Res.one rfl (RV.tmp rfl)) rfl
    ·refine W.skip (W.seq ?_)
     have hv:Bx.HV sp st rows:=Bx.HV.of (by omega)
     have k0:=hv.ok 0 0 (by omega) (by omega)
     have k1:=hv.ok 0 1 (by omega) (by omega)
     have k2:=hv.ok 1 0 (by omega) (by omega)
     have k3:=hv.ok 1 1 (by omega) (by omega)
     have hsp:=hv.sp
     have hst:=hv.st
     obtain ⟨a,ha⟩:∃ a,((rows.getD 0 []).getD 0 (0,0)).1=a:=⟨_,rfl⟩
     obtain ⟨b,hb⟩:∃ a,((rows.getD 0 []).getD 1 (0,0)).1=a:=⟨_,rfl⟩
     obtain ⟨c0,hc0⟩:∃ a,((rows.getD 1 []).getD 0 (0,0)).1=a:=⟨_,rfl⟩
     obtain ⟨c1,hc1⟩:∃ a,((rows.getD 1 []).getD 0 (0,0)).2=a:=⟨_,rfl⟩
     obtain ⟨d0,hd0⟩:∃ a,((rows.getD 1 []).getD 1 (0,0)).1=a:=⟨_,rfl⟩
     obtain ⟨d1,hd1⟩:∃ a,((rows.getD 1 []).getD 1 (0,0)).2=a:=⟨_,rfl⟩
     refine W.drawD 15 [.r 0 [],.b 1 [],.r 2 [],.b 3 [],.r 4 [],.r 5 [],.b 6 [],.r 7 [],.b 8 [],.r 9 [],.b 10 [],.r 11 [],.r 12 [],.b 13 [],.r 14 []] [] (A0:=[]) (Sub.refl _) (by kernel_rfl) ?_ ?_
     ·repeat constructor
     refine DT.r rfl rfl rfl (WO.fieldL rfl rfl rfl (WO.nil ⟨rfl,rfl⟩)) (DT.b rfl rfl rfl (WO.load rfl rfl (Cell.own Pick.head rfl) rfl (WO.nil ⟨rfl,rfl⟩)) ?_)
     refine' DT.r rfl rfl rfl ?hq ?_
     case hq =>
      refine' WO.indexAddr (n:=_) (i:=0) rfl rfl rfl ?hs ?h1 rfl ?_
      case hs=>(first | exact hR.sl)
      case h1=>(omega)
      exact WO.nil ⟨rfl,rfl⟩
     refine' DT.b rfl rfl rfl ?hq ?_
     case hq =>
      refine' WO.load (v:=_) rfl rfl ?hc rfl ?_
      case hc=>(first | (refine hR.cellV (i:=0) ?_;omega))
      exact WO.nil ⟨rfl,rfl⟩
     refine' DT.r rfl rfl rfl ?hq ?_
     case hq =>
      refine' WO.indexAddr (n:=_) (i:=0) rfl rfl rfl ?hs ?h1 rfl ?_
      case hs=>(first | (refine (hR.row 0 ?_).sl;omega))
      case h1=>(omega)
      exact WO.nil ⟨rfl,rfl⟩
     refine DT.r rfl rfl rfl (WO.field0 rfl rfl rfl (WO.nil ⟨rfl,rfl⟩)) ?_
     refine' DT.b rfl rfl rfl ?hq ?_
     case hq =>
      refine' WO.load (v:=_) rfl rfl ?hc rfl ?_
      case hc=>((refine RdF.cell0 (u:=.int .i64 a) (hR.row 0 (by omega)) (i:=0) (by omega) (0,0) ?_;rw [← ha];rfl))
      exact WO.nil ⟨rfl,rfl⟩
     refine DT.r rfl rfl rfl (WO.fieldL rfl rfl rfl (WO.nil ⟨rfl,rfl⟩)) (DT.b rfl rfl rfl (WO.load rfl rfl (Cell.own Pick.head rfl) rfl (WO.nil ⟨rfl,rfl⟩)) ?_)
     refine' DT.r rfl rfl rfl ?hq ?_
     case hq =>
      refine' WO.indexAddr (n:=_) (i:=0) rfl rfl rfl ?hs ?h1 rfl ?_
      case hs=>(first | exact hR.sl)
      case h1=>(omega)
      exact WO.nil ⟨rfl,rfl⟩
     refine' DT.b rfl rfl rfl ?hq ?_
     case hq =>
      refine' WO.load (v:=_) rfl rfl ?hc rfl ?_
      case hc=>(first | (refine hR.cellV (i:=0) ?_;omega))
      exact WO.nil ⟨rfl,rfl⟩
     refine' DT.r rfl rfl rfl ?hq ?_
     case hq =>
      refine' WO.indexAddr (n:=_) (i:=1) rfl rfl rfl ?hs ?h1 rfl ?_
      case hs=>(first | (refine (hR.row 0 ?_).sl;omega))
      case h1=>(omega)
      exact WO.nil ⟨rfl,rfl⟩
     refine DT.r rfl rfl rfl (WO.field0 rfl rfl rfl (WO.nil ⟨rfl,rfl⟩)) ?_
     refine' DT.b rfl rfl rfl ?hq ?_
     case hq =>
      refine' WO.load (v:=_) rfl rfl ?hc rfl ?_
      case hc=>((refine RdF.cell0 (u:=.int .i64 b) (hR.row 0 (by omega)) (i:=1) (by omega) (0,0) ?_;rw [← hb];rfl))
      exact WO.nil ⟨rfl,rfl⟩
     refine DT.r rfl rfl rfl (WO.p rfl rfl (WO.nil ⟨rfl,rfl⟩)) (DT.nil [_] rfl (WO.p rfl rfl (WO.nil (W.seq ?_))))
     refine DB.W.drawB 27 [.r 0 [],.b 1 [],.r 2 [],.b 3 [],.r 4 [],.r 5 [],.r 6 [],.r 7 [],.r 8 [],.r 9 [],.r 11 [],.b 12 [],.r 13 [],.b 14 [],.r 15 [],.b 16 [],.r 17 [],.b 18 [],.r 19 [],.b 20 [],.r 21 [],.b 22 []] [.a 10 68 (fun x=>OwC 31 2 (.slice (some ⟨x,0,none⟩) 2 2) 2 [.int .i64 a,.int .i64 a,.int .i64 b,.int .i64 b]) (fun x=>.slice (some ⟨x,0,none⟩) 2 2),.a 23 81 (fun x=>OwC 31 2 (.slice (some ⟨x,0,none⟩) 2 2) 2 [.int .i64 c0,.int .i64 c1,.int .i64 d0,.int .i64 d1]) (fun x=>.slice (some ⟨x,0,none⟩) 2 2),.c 24 [],.r 25 [],.a 26 7 (fun b=>pt b (.cells #[.int .i64 0,.int .i64 0,.slice none 0 0] 78 (0,0))) (fun b=>.pointer (some ⟨b,0,none⟩))] [] (A0:=[]) (H0:=[_]) (.cons .head .nil) (by kernel_rfl) ?_
     refine' DB.QB.r rfl rfl rfl ?hq ?_
     case hq =>
      refine WO.field0 rfl rfl rfl ?_
      exact WO.nil ⟨rfl,rfl⟩
     refine' DB.QB.b rfl rfl rfl ?hq ?_
     case hq =>
      refine WO.load rfl rfl (Cell.own Pick.head rfl) rfl ?_
      exact WO.nil ⟨rfl,rfl⟩
     refine' DB.QB.r rfl rfl rfl ?hq ?_
     case hq =>
      refine WO.fieldL rfl rfl rfl ?_
      exact WO.nil ⟨rfl,rfl⟩
     refine' DB.QB.b rfl rfl rfl ?hq ?_
     case hq =>
      refine WO.load rfl rfl (Cell.own Pick.head rfl) rfl ?_
      exact WO.nil ⟨rfl,rfl⟩
     refine' DB.QB.r rfl rfl rfl ?hq ?_
     case hq =>
      refine WO.p rfl rfl ?_
      exact WO.nil ⟨rfl,rfl⟩
     refine' DB.QB.r rfl rfl rfl ?hq ?_
     case hq =>
      refine WO.p rfl rfl ?_
      exact WO.nil ⟨rfl,rfl⟩
     refine' DB.QB.r rfl rfl rfl ?hq ?_
     case hq =>
      refine WO.build rfl rfl rfl rfl rfl ?_
      exact WO.nil ⟨rfl,rfl⟩
     refine' DB.QB.r rfl rfl rfl ?hq ?_
     case hq =>
      refine WO.p rfl rfl ?_
      exact WO.nil ⟨rfl,rfl⟩
     refine' DB.QB.r rfl rfl rfl ?hq ?_
     case hq =>
      refine WO.p rfl rfl ?_
      exact WO.nil ⟨rfl,rfl⟩
     refine' DB.QB.r rfl rfl rfl ?hq ?_
     case hq =>
      refine WO.build rfl rfl rfl rfl rfl ?_
      exact WO.nil ⟨rfl,rfl⟩
     refine' DB.QB.r rfl rfl rfl ?hq ?_
     case hq =>
      refine WO.fieldL rfl rfl rfl ?_
      exact WO.nil ⟨rfl,rfl⟩
     refine' DB.QB.b rfl rfl rfl ?hq ?_
     case hq =>
      refine WO.load rfl rfl (Cell.own Pick.head rfl) rfl ?_
      exact WO.nil ⟨rfl,rfl⟩
     refine' DB.QB.r rfl rfl rfl ?hq ?_
     case hq =>
      refine' WO.indexAddr (n:=_) (i:=1) rfl rfl rfl ?hs ?h1 rfl ?_
      case hs=>(first | exact hR.sl)
      case h1=>(omega)
      exact WO.nil ⟨rfl,rfl⟩
     refine' DB.QB.b rfl rfl rfl ?hq ?_
     case hq =>
      refine' WO.load (v:=_) rfl rfl ?hc rfl ?_
      case hc=>(first | (refine hR.cellV (i:=1) ?_;omega))
      exact WO.nil ⟨rfl,rfl⟩
     refine' DB.QB.r rfl rfl rfl ?hq ?_
     case hq =>
      refine' WO.indexAddr (n:=_) (i:=0) rfl rfl rfl ?hs ?h1 rfl ?_
      case hs=>(first | (refine (hR.row 1 ?_).sl;omega))
      case h1=>(omega)
      exact WO.nil ⟨rfl,rfl⟩
     refine' DB.QB.b rfl rfl rfl ?hq ?_
     case hq =>
      refine WO.loadA rfl rfl (cellsX (hR.row 1 (by omega)) (i:=0) (by omega) hc0 hc1) rfl rfl ?_
      exact WO.nil ⟨rfl,rfl⟩
     refine' DB.QB.r rfl rfl rfl ?hq ?_
     case hq =>
      refine WO.fieldL rfl rfl rfl ?_
      exact WO.nil ⟨rfl,rfl⟩
     refine' DB.QB.b rfl rfl rfl ?hq ?_
     case hq =>
      refine WO.load rfl rfl (Cell.own Pick.head rfl) rfl ?_
      exact WO.nil ⟨rfl,rfl⟩
     refine' DB.QB.r rfl rfl rfl ?hq ?_
     case hq =>
      refine' WO.indexAddr (n:=_) (i:=1) rfl rfl rfl ?hs ?h1 rfl ?_
      case hs=>(first | exact hR.sl)
      case h1=>(omega)
      exact WO.nil ⟨rfl,rfl⟩
     refine' DB.QB.b rfl rfl rfl ?hq ?_
     case hq =>
      refine' WO.load (v:=_) rfl rfl ?hc rfl ?_
      case hc=>(first | (refine hR.cellV (i:=1) ?_;omega))
      exact WO.nil ⟨rfl,rfl⟩
     refine' DB.QB.r rfl rfl rfl ?hq ?_
     case hq =>
      refine' WO.indexAddr (n:=_) (i:=1) rfl rfl rfl ?hs ?h1 rfl ?_
      case hs=>(first | (refine (hR.row 1 ?_).sl;omega))
      case h1=>(omega)
      exact WO.nil ⟨rfl,rfl⟩
     refine' DB.QB.b rfl rfl rfl ?hq ?_
     case hq =>
      refine WO.loadA rfl rfl (cellsX (hR.row 1 (by omega)) (i:=1) (by omega) hd0 hd1) rfl rfl ?_
      exact WO.nil ⟨rfl,rfl⟩
     refine DB.QB.nil ?_ ?_
     ·refine (DB.ALok.r (DB.ALok.b (DB.ALok.r (DB.ALok.b (DB.ALok.r (DB.ALok.r (DB.ALok.r (DB.ALok.r (DB.ALok.r (DB.ALok.r (DB.ALok.r (DB.ALok.b (DB.ALok.r (DB.ALok.b (DB.ALok.r (DB.ALok.b (DB.ALok.r (DB.ALok.b (DB.ALok.r (DB.ALok.b (DB.ALok.r (DB.ALok.b (DB.ALok.n rfl rfl rfl ?_ (DB.ALok.n rfl rfl rfl ?_ (DB.ALok.c (DB.ALok.r (DB.ALok.n rfl rfl rfl ?_ DB.ALok.nil)))))))))))))))))))))))))))
      ·skip
       refine WO.buildSl rfl rfl rfl rfl rfl rfl rfl rfl rfl (fun v2=>?_)
       exact WO.nil ⟨_,rfl,rfl⟩
      ·skip
       refine WO.buildSl rfl rfl rfl rfl rfl rfl rfl rfl rfl (fun v3=>?_)
       exact WO.nil ⟨_,rfl,rfl⟩
      ·skip
       refine WO.alloc rfl rfl rfl (fun b4 hb4=>?_)
       exact WO.nil ⟨_,rfl,rfl⟩
     refine DB.DT.a (fun v5=>(DB.DT.a (fun v6=>(DB.DT.c [_,_,_] rfl rfl rfl rfl (WO.buildSl rfl rfl rfl rfl rfl rfl rfl rfl rfl (fun v7=>?_))))))
     refine WO.nil ⟨_,[_,_,_],rfl,rfl,(DB.Keep.a (DB.Keep.a (DB.Keep.b (DB.Keep.r (DB.Keep.b (DB.Keep.r (DB.Keep.b (DB.Keep.r (DB.Keep.b (DB.Keep.r (DB.Keep.b (DB.Keep.r (DB.Keep.b (DB.Keep.r (DB.Keep.r (DB.Keep.r (DB.Keep.r (DB.Keep.r (DB.Keep.r (DB.Keep.r (DB.Keep.b (DB.Keep.r (DB.Keep.b (DB.Keep.r DB.Keep.nil)))))))))))))))))))))))),?_⟩
     refine' DB.DT.r rfl rfl rfl ?hq ?_
     case hq =>
      refine WO.build rfl rfl rfl rfl rfl ?_
      exact WO.nil ⟨rfl,rfl⟩
     refine DB.DT.a (fun b8=>(DB.DT.nil [_,_,_,_,_] rfl (WO.storeA rfl rfl rfl rfl Pick.head rfl rfl (WO.nil (W.seq (W.sreg (WO.loadA rfl rfl (Cells.own Pick.head) rfl rfl (WO.callR rfl Tryz.call23 (fun L w hi=>Bx.ref_checkHull w sp st _ _ (hul a b (c0,c1) (d0,d1)) (RdR.of_two (by repeat first | exact .head | apply Pick.tail) hi (RdF.of_ow (e:=31) (xs:=[(a,a),(b,b)]) encP_ok (by repeat first | exact .head | apply Pick.tail) hi) (RdF.of_ow (e:=31) (xs:=[(c0,c1),(d0,d1)]) encP_ok (by repeat first | exact .head | apply Pick.tail) hi))) rfl (WO.p rfl rfl (WO.nil ?_))))))))))
     refine W.cond_bl rfl (fun c5=>?_) (fun c5=>?_)
     ·refine W.sreg (WO.callR rfl Tryz.call8 (fun L w hi=>Ret.yes y8 w) rfl (WO.p rfl rfl (WO.nil (W.ret ?_))))
      exact fin.ret (Res.one rfl (RV.tmp rfl)) rfl
     ·refine W.skip (W.seq ?_)
      have hvx:Bx.HV sp st (hul a b (c0,c1) (d0,d1)):=Bx.HV.of (by omega)
      have hls:=twoR_least (a:=c0) (b:=c1) (c:=d0) (d:=d1) (p:=1) (q:=1) (by omega) (by omega) (by omega) (by omega) (by omega) (by omega) (by omega) (by omega)
      have hms:=twoR_most (a:=c0) (b:=c1) (c:=d0) (d:=d1) (by omega) (by omega) (by omega) (by omega) (by omega) (by omega)
      refine W.drawD 14 [.r 0 [],.b 1 [],.r 2 [],.b 3 [],.r 4 [],.b 5 [],.r 6 [],.r 7 [],.b 8 [],.r 9 [],.b 10 [],.r 11 [],.b 12 [],.r 13 []] [] (A0:=[]) (Sub.refl _) (by kernel_rfl) ?_ ?_
      ·repeat constructor
      refine DT.r rfl rfl rfl (WO.fieldL rfl rfl rfl (WO.nil ⟨rfl,rfl⟩)) (DT.b rfl rfl rfl (WO.load rfl rfl (Cell.own (Pick.tail (Pick.tail (Pick.tail (Pick.tail (Pick.head))))) rfl) rfl (WO.nil ⟨rfl,rfl⟩)) ?_)
      refine' DT.r rfl rfl rfl ?hq ?_
      case hq =>
       refine' WO.indexAddr (n:=_) (i:=1) rfl rfl rfl ?hs ?h1 rfl ?_
       case hs=>(first | exact hR.sl)
       case h1=>(omega)
       exact WO.nil ⟨rfl,rfl⟩
      refine' DT.b rfl rfl rfl ?hq ?_
      case hq =>
       refine' WO.load (v:=_) rfl rfl ?hc rfl ?_
       case hc=>(first | (refine hR.cellV (i:=1) ?_;omega))
       exact WO.nil ⟨rfl,rfl⟩
      refine' DT.r rfl rfl rfl ?hq ?_
      case hq =>
       refine' WO.indexAddr (n:=_) (i:=0) rfl rfl rfl ?hs ?h1 rfl ?_
       case hs=>(first | (refine (hR.row 1 ?_).sl;omega))
       case h1=>(omega)
       exact WO.nil ⟨rfl,rfl⟩
      refine DT.b rfl rfl rfl (WO.loadA rfl rfl (cellsX (hR.row 1 (by omega)) (i:=0) (by omega) hc0 hc1) rfl rfl (WO.nil ⟨rfl,rfl⟩)) (DT.r rfl rfl rfl (WO.build rfl rfl rfl rfl rfl (WO.nil ⟨rfl,rfl⟩)) (DT.r rfl rfl rfl (WO.fieldL rfl rfl rfl (WO.nil ⟨rfl,rfl⟩)) (DT.b rfl rfl rfl (WO.load rfl rfl (Cell.own (Pick.tail (Pick.tail (Pick.tail (Pick.tail (Pick.head))))) rfl) rfl (WO.nil ⟨rfl,rfl⟩)) ?_)))
      refine' DT.r rfl rfl rfl ?hq ?_
      case hq =>
       refine' WO.indexAddr (n:=_) (i:=1) rfl rfl rfl ?hs ?h1 rfl ?_
       case hs=>(first | exact hR.sl)
       case h1=>(omega)
       exact WO.nil ⟨rfl,rfl⟩
      refine' DT.b rfl rfl rfl ?hq ?_
      case hq =>
       refine' WO.load (v:=_) rfl rfl ?hc rfl ?_
       case hc=>(first | (refine hR.cellV (i:=1) ?_;omega))
       exact WO.nil ⟨rfl,rfl⟩
      refine' DT.r rfl rfl rfl ?hq ?_
      case hq =>
       refine' WO.indexAddr (n:=_) (i:=1) rfl rfl rfl ?hs ?h1 rfl ?_
       case hs=>(first | (refine (hR.row 1 ?_).sl;omega))
       case h1=>(omega)
       exact WO.nil ⟨rfl,rfl⟩
      refine DT.b rfl rfl rfl (WO.loadA rfl rfl (cellsX (hR.row 1 (by omega)) (i:=1) (by omega) hd0 hd1) rfl rfl (WO.nil ⟨rfl,rfl⟩)) (DT.r rfl rfl rfl (WO.build rfl rfl rfl rfl rfl (WO.nil ⟨rfl,rfl⟩)) (DT.nil [_,_,_,_,_] rfl (WO.buildSl rfl rfl rfl rfl rfl rfl rfl rfl rfl (fun v9=>(WO.p rfl rfl (WO.nil (W.sreg (WO.loadA rfl rfl (Cells.own (Pick.tail (Pick.head))) rfl rfl ?_))))))))
      refine WO.callR (r:=.tuple #[.agg #[.int .i64 (Bx.red (sp*st*(a+b+(c0+d0))) 2).1,.int .i64 (Bx.red (sp*st*(a+b+(c0+d0))) 2).2,.int .i64 (Bx.red (sp*st*(a+b+(c1+d1))) 2).1,.int .i64 (Bx.red (sp*st*(a+b+(c1+d1))) 2).2],.int .i64 0]) rfl Tryz.call24 (fun L w hi=>by have h:=Bx.c_Volumes w sp st _ _ (hul a b (c0,c1) (d0,d1)) (RdR.of_two (by repeat first | exact .head | apply Pick.tail) hi (RdF.of_ow (e:=31) (xs:=[(a,a),(b,b)]) encP_ok (by repeat first | exact .head | apply Pick.tail) hi) (RdF.of_ow (e:=31) (xs:=[(c0,c1),(d0,d1)]) encP_ok (by repeat first | exact .head | apply Pick.tail) hi));rw [← Bx.vols_o hvx,hul_vol,hul_vol] at h;exact h) rfl ?_
      refine WO.p rfl rfl (WO.p rfl rfl (WO.p rfl rfl (WO.alloc rfl rfl rfl (fun b10 hb10=>(WO.storeA rfl rfl rfl rfl Pick.head rfl rfl (WO.p rfl rfl (WO.nil (W.sreg (WO.p rfl rfl (WO.callE rfl Tryz.call20 (fun L w hi=>c_Least w _ (twoR c0 c1 d0 d1) 1 1 (RdF.of_ow (e:=33) encRn_ok (by repeat first | exact .head | apply Pick.tail) hi)) rfl ?_))))))))))
      rintro _ ⟨x,rfl,hx⟩
      obtain ⟨y,hy,rfl⟩:=hx hls.1
      have hrv:raV (red y.1.c y.2)=.agg #[.int .i64 (c0+d0),.int .i64 1]:=by rw [hls.2 y hy,Int.one_mul,Int.one_mul]
      rw [hrv,hls.1]
      refine WO.p rfl rfl (WO.p rfl rfl (WO.p rfl rfl (WO.alloc rfl rfl rfl (fun b11 hb11=>(WO.storeA rfl rfl rfl rfl Pick.head rfl rfl (WO.p rfl rfl (WO.nil (W.sreg (WO.p rfl rfl (WO.callE rfl Tryz.call20 (fun L w hi=>c_Least w _ (twoR c0 c1 d0 d1) (-1) (-1) (RdF.of_ow (e:=33) encRn_ok (by repeat first | exact .head | apply Pick.tail) hi)) rfl ?_))))))))))
      rintro _ ⟨x,rfl,hx⟩
      obtain ⟨y,hy,rfl⟩:=hx hms.1
      have hrv:raV (red y.1.c y.2)=.agg #[.int .i64 (-(c1+d1)),.int .i64 1]:=by rw [hms.2 y hy]
      rw [hrv,hms.1]
      refine WO.p rfl rfl (WO.p rfl rfl (WO.p rfl rfl (WO.alloc rfl rfl rfl (fun b12 hb12=>(WO.storeA rfl rfl rfl rfl Pick.head rfl rfl (WO.p rfl rfl (WO.nil (W.seq (W.sreg (WO.p rfl rfl (WO.neqF rfl rfl (by omega) rfl (WO.p rfl rfl (WO.pg rfl rfl rfl (WO.go' rfl (WO.neqF rfl rfl (by omega) rfl (WO.p rfl rfl (WO.p rfl rfl (WO.pg rfl rfl rfl (WO.go' rfl (WO.neqF rfl rfl (by omega) rfl (WO.p rfl rfl (WO.p rfl rfl (WO.go' rfl (WO.fieldL rfl rfl rfl (WO.go' rfl (WO.load rfl rfl (Cell.own (Pick.tail (Pick.head)) rfl) rfl (WO.go' rfl (WO.neqF rfl rfl (by omega) rfl ?_))))))))))))))))))))))))))))
      refine WO.p rfl rfl (WO.p rfl rfl (WO.go' rfl (WO.fieldL rfl rfl rfl (WO.go' rfl (WO.load rfl rfl (Cell.own Pick.head rfl) rfl (WO.go' rfl (WO.neqF rfl rfl (by omega) rfl (WO.p rfl rfl (WO.nil (W.cond_f rfl (W.skip (W.seq (W.seq ?_)))))))))))))
      have m1:=mul_bd (a:=sp) (b:=st) (A:=1000) (B:=100) (by omega) (by omega)
      have m2:=mul_bd (a:=sp*st) (b:=a+b+(c0+d0)) (A:=100000) (B:=10000) (by omega) (by omega)
      have m3:=mul_bd (a:=sp*st) (b:=a+b+(c1+d1)) (A:=100000) (B:=10000) (by omega) (by omega)
      have n0:=Int.mul_nonneg (show 0≤sp by omega) (show 0≤st by omega)
      have n1:=Int.mul_nonneg n0 (show 0≤a+b+(c0+d0) by omega)
      have n2:=Int.mul_nonneg n0 (show 0≤a+b+(c1+d1) by omega)
      refine W.drawD 35 [.r 0 [],.b 1 [],.r 2 [],.b 3 [],.r 4 [],.b 5 [],.r 6 [],.r 7 [],.r 8 [],.r 9 [],.r 10 [],.b 11 [],.r 12 [],.r 13 [],.r 14 [],.b 15 [],.r 16 [],.r 17 [],.r 18 [],.b 19 [],.r 20 [],.b 21 [],.r 22 [],.b 23 [],.r 24 [],.r 25 [],.r 26 [],.r 27 [],.r 28 [],.b 29 [],.r 30 [],.r 31 [],.r 32 [],.r 33 [],.b 34 []] [] (A0:=[]) (Sub.refl _) (by kernel_rfl) ?_ ?_
      ·repeat constructor
      refine DT.r rfl rfl rfl (WO.field0 rfl rfl rfl (WO.nil ⟨rfl,rfl⟩)) (DT.b rfl rfl rfl (WO.loadA rfl rfl (Cells.ownAt (n:=2) (Pick.tail (Pick.tail (Pick.head))) rfl) rfl rfl (WO.nil ⟨rfl,rfl⟩)) (DT.r rfl rfl rfl (WO.field0 rfl rfl rfl (WO.nil ⟨rfl,rfl⟩)) (DT.b rfl rfl rfl (WO.load rfl rfl (Cell.own (Pick.tail (Pick.tail (Pick.tail (Pick.tail (Pick.tail (Pick.tail (Pick.tail (Pick.tail (Pick.head))))))))) rfl) rfl (WO.nil ⟨rfl,rfl⟩)) (DT.r rfl rfl rfl (WO.fieldL rfl rfl rfl (WO.nil ⟨rfl,rfl⟩)) ?_))))
      refine DT.b rfl rfl rfl (WO.load rfl rfl (Cell.own (Pick.tail (Pick.tail (Pick.tail (Pick.tail (Pick.tail (Pick.tail (Pick.tail (Pick.tail (Pick.head))))))))) rfl) rfl (WO.nil ⟨rfl,rfl⟩)) (DT.r rfl rfl rfl (WO.ar rfl rfl rfl (by unfold in64;omega) rfl (WO.nil ⟨rfl,rfl⟩)) (DT.r rfl rfl rfl (WO.p rfl rfl (WO.nil ⟨rfl,rfl⟩)) (DT.r rfl rfl rfl (WO.p rfl rfl (WO.nil ⟨rfl,rfl⟩)) (DT.r rfl rfl rfl (WO.ar rfl rfl rfl (by unfold in64;omega) rfl (WO.nil ⟨rfl,rfl⟩)) (DT.r rfl rfl rfl (WO.field0 rfl rfl rfl (WO.nil ⟨rfl,rfl⟩)) (DT.b rfl rfl rfl (WO.load rfl rfl (Cell.own (Pick.tail (Pick.head)) rfl) rfl (WO.nil ⟨rfl,rfl⟩)) ?_))))))
      refine' DT.r rfl rfl rfl ?hq ?_
      case hq =>
       refine WO.max2 rfl rfl rfl ?_
       rw [show max 0 (c0+d0)=c0+d0 by omega]
       exact WO.nil ⟨rfl,rfl⟩
      refine DT.r rfl rfl rfl (WO.ar rfl rfl rfl (by unfold in64;omega) rfl (WO.nil ⟨rfl,rfl⟩)) (DT.r rfl rfl rfl (WO.ar rfl rfl rfl (by unfold in64;omega) rfl (WO.nil ⟨rfl,rfl⟩)) (DT.b rfl rfl rfl (WO.callR rfl Tryz.call25 (fun L w hi=>Bx.ref_Fraction w (sp*st*(a+b+(c0+d0))) 2 n1 (by omega) (by unfold in64;omega) (by unfold in64;omega)) rfl (WO.nil ⟨rfl,rfl⟩)) (DT.r rfl rfl rfl (WO.eqT rfl rfl (eq50 .neq false (.inr ⟨rfl,rfl⟩) (Bx.red (sp*st*(a+b+(c0+d0))) 2)) rfl (WO.nil ⟨rfl,rfl⟩)) (DT.r rfl rfl rfl (WO.p rfl rfl (WO.nil ⟨rfl,rfl⟩)) (DT.r rfl rfl rfl (WO.go' rfl (WO.fieldL rfl rfl rfl (WO.nil ⟨rfl,rfl⟩))) ?_)))))
      refine DT.b rfl rfl rfl (WO.go' rfl (WO.loadA rfl rfl (Cells.ownAt (n:=2) (Pick.tail (Pick.tail (Pick.head))) rfl) rfl rfl (WO.nil ⟨rfl,rfl⟩))) (DT.r rfl rfl rfl (WO.go' rfl (WO.field0 rfl rfl rfl (WO.nil ⟨rfl,rfl⟩))) (DT.b rfl rfl rfl (WO.go' rfl (WO.load rfl rfl (Cell.own (Pick.tail (Pick.tail (Pick.tail (Pick.tail (Pick.tail (Pick.tail (Pick.tail (Pick.tail (Pick.head))))))))) rfl) rfl (WO.nil ⟨rfl,rfl⟩))) (DT.r rfl rfl rfl (WO.go' rfl (WO.fieldL rfl rfl rfl (WO.nil ⟨rfl,rfl⟩))) ?_)))
      refine DT.b rfl rfl rfl (WO.go' rfl (WO.load rfl rfl (Cell.own (Pick.tail (Pick.tail (Pick.tail (Pick.tail (Pick.tail (Pick.tail (Pick.tail (Pick.tail (Pick.head))))))))) rfl) rfl (WO.nil ⟨rfl,rfl⟩))) (DT.r rfl rfl rfl (WO.go' rfl (WO.ar rfl rfl rfl (by unfold in64;omega) rfl (WO.nil ⟨rfl,rfl⟩))) (DT.r rfl rfl rfl (WO.pg rfl rfl rfl (WO.nil ⟨rfl,rfl⟩)) (DT.r rfl rfl rfl (WO.pg rfl rfl rfl (WO.nil ⟨rfl,rfl⟩)) (DT.r rfl rfl rfl (WO.go' rfl (WO.ar rfl rfl rfl (by unfold in64;omega) rfl (WO.nil ⟨rfl,rfl⟩))) (DT.r rfl rfl rfl (WO.go' rfl (WO.field0 rfl rfl rfl (WO.nil ⟨rfl,rfl⟩))) ?_)))))
      refine DT.b rfl rfl rfl (WO.go' rfl (WO.load rfl rfl (Cell.own Pick.head rfl) rfl (WO.nil ⟨rfl,rfl⟩))) (DT.r rfl rfl rfl (WO.go' rfl (WO.neg rfl (by unfold in64;omega) rfl (WO.nil ⟨rfl,rfl⟩))) ?_)
      refine' DT.r rfl rfl rfl ?hq ?_
      case hq =>
       refine WO.go' rfl (WO.max2 rfl rfl rfl ?_)
       rw [show max 0 (-(-(c1+d1)))=c1+d1 by omega]
       exact WO.nil ⟨rfl,rfl⟩
      refine DT.r rfl rfl rfl (WO.go' rfl (WO.ar rfl rfl rfl (by unfold in64;omega) rfl (WO.nil ⟨rfl,rfl⟩))) (DT.r rfl rfl rfl (WO.go' rfl (WO.ar rfl rfl rfl (by unfold in64;omega) rfl (WO.nil ⟨rfl,rfl⟩))) (DT.b rfl rfl rfl (WO.go' rfl (WO.callR rfl Tryz.call25 (fun L w hi=>Bx.ref_Fraction w (sp*st*(a+b+(c1+d1))) 2 n2 (by omega) (by unfold in64;omega) (by unfold in64;omega)) rfl (WO.nil ⟨rfl,rfl⟩))) (DT.nil [_,_,_,_,_,_,_,_,_] rfl (WO.go' rfl (WO.eqT rfl rfl (eq50 .neq false (.inr ⟨rfl,rfl⟩) (Bx.red (sp*st*(a+b+(c1+d1))) 2)) rfl (WO.p rfl rfl (WO.nil (W.cond_f rfl (W.skip (W.sreg ?_))))))))))
      refine WO.field0 rfl rfl rfl (WO.load rfl rfl (Cell.own (Pick.tail (Pick.head)) rfl) rfl (WO.p rfl rfl (WO.conv64 rfl rfl rfl (by unfold in64;omega) rfl (WO.ar rfl rfl rfl (by unfold in64;omega) rfl (WO.p rfl rfl (WO.nil (W.sreg (WO.p rfl rfl (WO.p rfl rfl (WO.p rfl rfl (WO.ar rfl rfl rfl (by unfold in64;omega) rfl (WO.build rfl rfl rfl rfl rfl (WO.build rfl rfl rfl rfl rfl (WO.buildSl rfl rfl rfl rfl rfl rfl rfl rfl rfl (fun v13=>?_)))))))))))))))
      refine' WO.appendE (enc:=encRn) (m:=1) (xs:=twoR c0 c1 d0 d1) (ys:=[⟨1,1,c0+d0+u,c0+d0+u+2000⟩]) encRn_ok rfl rfl rfl rfl rfl (by repeat first | exact .head | apply Pick.tail) (isSl_lit (by omega) (fun _=>⟨_,_,rfl⟩)) (by omega) rfl (OwC.cells .head) (by show (2+1)*32≤_;omega) (by show 2+1≤_;omega) rfl (fun gb c=>?_)
      refine WO.p rfl rfl (WO.nil (W.sreg (WO.p rfl rfl (WO.callE rfl Tryz.call20 (fun L w hi=>c_Least w _ (threeR c0 c1 d0 d1 (c0+d0+u)) 1 1 (RdF.of_ow (e:=33) encRn_ok (by repeat exact .head) hi)) rfl ?_))))
      rintro _ ⟨x,rfl,hx⟩
      refine WO.p rfl rfl (WO.p rfl rfl (WO.p rfl rfl (WO.alloc rfl rfl rfl (fun b14 hb14=>(WO.storeA rfl rfl rfl rfl Pick.head rfl rfl (WO.p rfl rfl (WO.nil (W.seq (W.sreg (WO.p rfl rfl (WO.field0 rfl rfl rfl (WO.load rfl rfl (Cell.own (Pick.tail (Pick.tail (Pick.tail (Pick.head)))) rfl) rfl (WO.neg rfl (by unfold in64;omega) rfl (WO.p rfl rfl (WO.nil ?_)))))))))))))))
      refine W.cond_bl rfl (fun c6=>?_) (fun c6=>?_)
      ·have hdb:=threeR_dbt (a:=c0) (b:=c1) (c:=d0) (d:=d1) (L:=c0+d0+u) (by omega) (by omega) (by omega) (by omega) (by omega) (by omega) (by omega) (by omega)
       refine W.sreg (WO.p rfl rfl (WO.eqlT rfl rfl hdb rfl (WO.p rfl rfl (WO.go' rfl (WO.callR rfl Tryz.call8 (fun L w hi=>Ret.yes y8 w) rfl (WO.p rfl rfl (WO.p rfl rfl (WO.nil (W.ret ?_)))))))))
       exact fin.ret (Res.one rfl (RV.tmp rfl)) rfl
      ·refine W.skip ?_
       have h3:=threeR_least (a:=c0) (b:=c1) (c:=d0) (d:=d1) (L:=c0+d0+u) (by omega) (by omega) (by omega) (by omega) (by omega) (by omega) (by omega) (by omega)
       obtain ⟨y,hy,rfl⟩:=hx h3.1
       rw [h3.2 y hy]
       refine W.sreg (WO.p rfl rfl (WO.eqlT rfl rfl h3.1 rfl (WO.p rfl rfl (WO.go' rfl (WO.loadA rfl rfl (Cells.own Pick.head) rfl rfl (WO.pg rfl rfl rfl (WO.go' rfl (WO.build rfl rfl rfl rfl rfl (WO.go' rfl (WO.eqT rfl rfl (eq50 .eql true (.inl ⟨rfl,rfl⟩) (c0+d0+u,1)) rfl (WO.p rfl rfl (WO.p rfl rfl (WO.go' rfl (WO.callR rfl Tryz.call8 (fun L w hi=>Ret.yes y8 w) rfl (WO.p rfl rfl (WO.p rfl rfl (WO.nil (W.ret ?_))))))))))))))))))
       exact fin.ret (Res.one rfl (RV.tmp rfl)) rfl
end Go.Proofs.YtncjabmlkgacdaaGreat
namespace Go.TX
open Go Go.TH
noncomputable section
variable {P:Program}
end
end Go.TX
