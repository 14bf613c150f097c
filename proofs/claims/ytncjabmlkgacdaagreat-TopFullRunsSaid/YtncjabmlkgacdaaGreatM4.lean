/-
  What is proved here: what an evaluator reckons for addresses of parts, parts of slices, parts of values, and for numbers is what the model's operations do. Conditions: none; each lemma states its own.
-/
import Derived.Test.YtncjabmlkgacdaaGreatM3
set_option linter.unusedVariables false
set_option linter.unusedSimpArgs false
namespace Go.TX
open Go Go.TH
noncomputable section
variable {ρ:Ren} {N:Nat} {env:Tr SV} {a:Act} {P:Program} {D:Nat→Prop} {st st':St} {w:World}
def faS (P:Program) (T f:Nat) (p:SV):Option SV:=match p with
 | .ptr x o=>match fieldOf P T f with
  | some (fo,ft)=>match szv P ft with
   | some (_+1)=>natK (o+fo) fun o'=>some (.ptr x o')
   | _=>none
  | none=>none
 | _=>none
theorem faS_ok {T f:Nat} {p v:SV} {u:Value} (hp:Rel ρ p u) (h:faS P T f p=some v):∃ z,(Instr.fieldAt T u f).run P w=.ok z w∧Rel ρ v z:=by
 cases p <;> simp only [faS] at h <;> try (cases h;done)
 rename_i x o
 rw [Rel] at hp
 obtain ⟨b,s,hb,rfl⟩:=hp
 split at h
 ·rename_i fo ft hf
  split at h
  ·rename_i n hn
   simp only [natK_eq,Option.some.injEq] at h
   subst h
   refine ⟨_,run_fieldAt ⟨hf,by rw [hn];rfl⟩,?_⟩
   rw [Rel,Addr.add_lit,Nat.add_assoc];exact ⟨b,s,hb,rfl⟩
  ·cases h
 ·cases h
def arT (P:Program) (T:TypeId):Option (Nat × TypeId × Nat):=match P.underlying T with
 | some (.array len e)=>match szv P e with
  | some n=>some (len,e,n)
  | none=>none
 | _=>none
theorem arT_ok {T len e n:Nat} (h:arT P T=some (len,e,n)):ArT P T len e n:=by
 unfold arT at h
 split at h
 ·rename_i l e' hu
  split at h
  ·rename_i n' hn
   simp only [Option.some.injEq,Prod.mk.injEq] at h
   obtain ⟨rfl,rfl,rfl⟩:=h
   exact ⟨hu,hn⟩
  ·cases h
 ·cases h
def slE (P:Program) (T:TypeId):Option Nat:=match P.underlying T with
 | some (.slice e)=>szv P e
 | _=>none
theorem slE_ok {T n:Nat} (h:slE P T=some n):∃ e,P.underlying T=some (.slice e)∧szv P e=some n:=by
 unfold slE at h
 split at h
 ·rename_i e hu;exact ⟨e,hu,h⟩
 ·cases h
def iaS (P:Program) (T:TypeId) (p i:SV):Option SV:=match i with
 | .raw (.int _ (.ofNat i))=>match p with
  | .sl x o n _=>match slE P T with
   | some sz=>bif Nat.blt i n then natK (o+i*sz) fun o'=>some (.ptr x o') else none
   | none=>none
  | .ptr x o=>match arT P T with
   | some (len,_,sz)=>bif Nat.blt i len then natK (o+i*sz) fun o'=>some (.ptr x o') else none
   | none=>none
  | _=>none
 | _=>none
theorem iaS_ok {T:Nat} {p i v:SV} {u z:Value} (hp:Rel ρ p u) (hi:Rel ρ i z) (h:iaS P T p i=some v):∃ q,(Instr.indexAt T u z).run P w=.ok q w∧Rel ρ v q:=by
 unfold iaS at h
 split at h
 ·rename_i k i'
  rw [Rel] at hi
  subst hi
  split at h
  ·rename_i x o n c
   rw [Rel] at hp
   obtain ⟨b,s,cap,hb,_,rfl⟩:=hp
   split at h
   ·rename_i sz hsl
    obtain ⟨e,hu,hsz⟩:=slE_ok hsl
    cases h1:Nat.blt i' n with
    | false=>rw [h1] at h;cases h
    | true =>
     rw [h1,cond_true,natK_eq] at h
     simp only [Option.some.injEq] at h
     subst h
     have h1:=Nat.blt_eq.mp h1
     have g1:(i':Int)<(n:Int):=by omega
     refine ⟨.pointer (some ⟨b,s.1+(o+i'*sz),none⟩),?_,by rw [Rel];exact ⟨b,s,hb,rfl⟩⟩
     simp [Instr.indexAt,run_underlying hu,asIntOf,g1,h1,TH.run_sizeOf hsz,Addr.add_lit,Nat.add_assoc]
   ·cases h
  ·rename_i x o
   rw [Rel] at hp
   obtain ⟨b,s,hb,rfl⟩:=hp
   split at h
   ·rename_i len e sz har
    have hA:=arT_ok har
    cases h1:Nat.blt i' len with
    | false=>rw [h1] at h;cases h
    | true =>
     rw [h1,cond_true,natK_eq] at h
     simp only [Option.some.injEq] at h
     subst h
     have h1:=Nat.blt_eq.mp h1
     have g1:(i':Int)<(len:Int):=by omega
     refine ⟨.pointer (some ⟨b,s.1+(o+i'*sz),none⟩),?_,by rw [Rel];exact ⟨b,s,hb,rfl⟩⟩
     simp [Instr.indexAt,run_underlying hA.u,asIntOf,g1,h1,TH.run_sizeOf hA.size,Addr.add_lit,Instr.sureAddr,Nat.add_assoc]
   ·cases h
  ·cases h
 ·cases h
def bdn:Option SV→Nat→Option Nat
 | none,d=>some d
 | some (.raw (.int _ (.ofNat n))),_=>some n
 | some _,_=>none
theorem bdn_ok {x:Option Operand} (he:EnvR ρ N env a.tmps) {d n:Nat} (h:bdn (x.map (svOp env)) d=some n):bv (x.map a.eval) d n:=by
 cases x with
 | none=>simp only [Option.map_none,bdn,Option.some.injEq] at h;exact h.symm
 | some x =>
  have hr:=svOp_rel he x
  simp only [Option.map_some,bdn] at h ⊢
  split at h
  ·rename_i h1;cases h1
  ·rename_i k m h1
   simp only [Option.some.injEq] at h1 h
   subst h
   rw [h1,Rel] at hr
   exact ⟨k,by rw [hr];rfl⟩
  ·cases h
def slS (P:Program) (T:TypeId) (x:SV) (lo hi mx:Option SV) (st:St):Option (SV × St) :=
 bif mx.isSome&&!hi.isSome then none else
 match x with
 | .sl b o n c=>match slE P T with
  | none=>none
  | some sz=>match bdn lo 0 with
   | none=>none
   | some l=>match bdn hi n with
    | none=>none
    | some h=>bif Nat.ble l h then (match c with
     | .kn k=>match bdn mx k with
      | none=>none
      | some m=>bif Nat.ble h m then (bif Nat.ble m k then
       natK (bif Nat.beq m l then o else o+l*sz) fun o'=>natK (h-l) fun n'=>natK (m-l) fun k'=>some (.sl b o' n' (.kn k'),st)
       else none) else none
     | .rest sz'=>bif Nat.beq sz sz' then (bif Nat.blt 0 sz then (match mx with
      | some mv=>match bdn (some mv) 0 with
       | none=>none
       | some m=>bif Nat.ble h m then rdK st b fun L _ _ st'=>bif Nat.ble (o+m*sz) (llen L) then
        natK (bif Nat.beq m l then o else o+l*sz) fun o'=>natK (h-l) fun n'=>natK (m-l) fun k'=>some (.sl b o' n' (.kn k'),st')
        else none else none
      | none=>rdK st b fun L _ _ st'=>bif Nat.ble (o+h*sz) (llen L) then
       (bif Nat.blt (o+l*sz) (llen L) then natK (o+l*sz) fun o'=>natK (h-l) fun n'=>some (.sl b o' n' (.rest sz),st') else some (.sl0,st'))
       else none) else none) else none) else none
 | .ptr b o=>match arT P T with
  | none=>none
  | some (len,_,sz)=>match bdn lo 0 with
   | none=>none
   | some l=>match bdn hi len with
    | none=>none
    | some h=>match bdn mx len with
     | none=>none
     | some m=>bif Nat.ble l h then (bif Nat.ble h m then (bif Nat.ble m len then
      natK (bif Nat.beq m l then o else o+l*sz) fun o'=>natK (h-l) fun n'=>natK (m-l) fun k'=>some (.sl b o' n' (.kn k'),st)
      else none) else none) else none
 | .raw (.slice none 0 0)=>match slE P T with
  | none=>none
  | some _=>match bdn lo 0 with
   | some 0=>match bdn hi 0 with
    | some 0=>match bdn mx 0 with
     | some 0=>some (.raw (.slice none 0 0),st)
     | _=>none
    | _=>none
   | _=>none
 | _=>none
theorem run_boundsA {n lo hi mx:Nat} {L0 H0 M0:Option Value} (hl:bv L0 0 lo) (hh:bv H0 n hi) (hm:bv M0 n mx) (hmh:M0.isSome=true→H0.isSome=true) (h1:lo≤hi) (h2:hi≤mx) (h3:mx≤n) :
 (Instr.sliceBounds false n n L0 H0 M0).run P w=.ok (lo,hi,mx) w:=by
 cases L0 <;> cases H0 <;> cases M0 <;> simp only [bv] at hl hh hm <;> first
  |(have:=hmh rfl;simp at this;done)
  | skip
 ·subst hl;subst hh;subst hm;simp [Instr.sliceBounds]
 ·obtain ⟨k,rfl⟩:=hh;subst hl;subst hm;simp [Instr.sliceBounds,run_bound h2]
 ·obtain ⟨k,rfl⟩:=hh;obtain ⟨k2,rfl⟩:=hm;subst hl;simp [Instr.sliceBounds,run_bound h2,run_bound h3]
 ·obtain ⟨k,rfl⟩:=hl;subst hh;subst hm;simp [Instr.sliceBounds,run_bound h1]
 ·obtain ⟨k,rfl⟩:=hl;obtain ⟨k2,rfl⟩:=hh;subst hm;simp [Instr.sliceBounds,run_bound h1,run_bound h2]
 ·obtain ⟨k,rfl⟩:=hl;obtain ⟨k2,rfl⟩:=hh;obtain ⟨k3,rfl⟩:=hm;simp [Instr.sliceBounds,run_bound h1,run_bound h2,run_bound h3]
theorem run_slAt {T e sz n c lo hi mx:Nat} {ad:Option Addr} {L0 H0 M0:Option Value} (hu:P.underlying T=some (.slice e)) (hsz:szv P e=some sz) (hl:bv L0 0 lo) (hh:bv H0 n hi) (hm:bv M0 c mx) (hmh:M0.isSome=true→H0.isSome=true) (h1:lo≤hi) (h2:hi≤mx) (h3:mx≤c) :
 (Instr.sliceAt T (.slice ad n c) L0 H0 M0).run P w=.ok (.slice (if mx=lo then ad else ad.map (·.add (lo*sz))) (hi-lo) (mx-lo)) w:=by
 have hb:=run_bounds (P:=P) (w:=w) hl hh hm hmh h1 h2 h3
 simp [Instr.sliceAt,Instr.slice,run_underlying hu,TH.run_sizeOf hsz,hb]
theorem off_of {b z o l m sz:Nat}:(if m=l then (some (⟨b,z+o,none⟩:Addr)) else (some (⟨b,z+o,none⟩:Addr)).map (·.add (l*sz)))=some ⟨b,z+(bif Nat.beq m l then o else o+l*sz),none⟩:=by
 by_cases e:m=l
 ·subst e;simp
 ·have:Nat.beq m l=false:=by
   cases hb:Nat.beq m l with
   | false=>rfl
   | true=>exact absurd (Nat.eq_of_beq_eq_true hb) e
  rw [if_neg e,this]
  simp [Addr.add_lit,Nat.add_assoc]
theorem slS_ok {T:Nat} {x v:SV} {u:Value} {lo hi mx:Option Operand} (he:EnvR ρ N env a.tmps) (hx:Rel ρ x u) (h:slS P T x (lo.map (svOp env)) (hi.map (svOp env)) (mx.map (svOp env)) st=some (v,st')) (hs:Sim ρ D st w) (hD:∀ x,x∈st'.R∨st.base≤x→D x) :
 Did P ρ D st st' w v (Instr.sliceAt T u (lo.map a.eval) (hi.map a.eval) (mx.map a.eval)):=by
 unfold slS at h
 cases hmm:((mx.map (svOp env)).isSome&&!(hi.map (svOp env)).isSome) with
 | true=>rw [hmm] at h;cases h
 | false =>
  rw [hmm,cond_false] at h
  have hmh:(mx.map a.eval).isSome=true→(hi.map a.eval).isSome=true:=by
   intro q
   cases hi <;> cases mx <;> simp_all
  split at h
  ·rename_i b o n c
   rw [Rel] at hx
   obtain ⟨B,s,cap,hb,hc,rfl⟩:=hx
   split at h
   ·cases h
   rename_i sz hsl
   obtain ⟨e,hu,hsz⟩:=slE_ok hsl
   split at h
   ·cases h
   rename_i l hl
   have hl:=bdn_ok he hl
   split at h
   ·cases h
   rename_i hh' hh
   have hh:=bdn_ok he hh
   cases h1:Nat.ble l hh' with
   | false=>rw [h1] at h;cases h
   | true =>
    rw [h1,cond_true] at h
    have h1:=Nat.ble_eq.mp h1
    split at h
    ·rename_i k
     simp only [CapR] at hc
     subst hc
     split at h
     ·cases h
     rename_i m hm
     have hm:=bdn_ok he hm
     cases h2:Nat.ble hh' m with
     | false=>rw [h2] at h;cases h
     | true =>
      rw [h2,cond_true] at h
      have h2:=Nat.ble_eq.mp h2
      cases h3:Nat.ble m cap with
      | false=>rw [h3] at h;cases h
      | true =>
       rw [h3,cond_true] at h
       have h3:=Nat.ble_eq.mp h3
       simp only [natK_eq,Option.some.injEq,Prod.mk.injEq] at h
       obtain ⟨e1,e2⟩:=h
       subst e2
       refine Did.pure hs (run_slAt hu hsz hl hh hm hmh h1 h2 h3) ?_
       rw [off_of,← e1,Rel];exact ⟨B,s,_,hb,rfl,rfl⟩
    ·rename_i sz'
     simp only [CapR] at hc
     cases hq:Nat.beq sz sz' with
     | false=>rw [hq] at h;cases h
     | true =>
      rw [hq,cond_true] at h
      have hq:=Nat.eq_of_beq_eq_true hq
      subst hq
      cases hp:Nat.blt 0 sz with
      | false=>rw [hp] at h;cases h
      | true =>
       rw [hp,cond_true] at h
       have hp:=Nat.blt_eq.mp hp
       have room:∀ {L:List SV} {e':TypeId} {op:Bool} {m:Nat},st.h.get b=some (.cells L e' op)→D b→o+m*sz≤L.length→m≤cap:=by
        intro L e' op m hg hd hle
        obtain ⟨b',s',pre,us,vs,q1,q2,qz,q3,q4,q5⟩:=hs.row hd hg
        rw [hb] at q1;cases q1
        have:=q3.len
        have h6:o+m*sz≤o+cap*sz:=by omega
        have h7:m*sz≤cap*sz:=by omega
        exact Nat.le_of_mul_le_mul_right h7 hp
       split at h
       ·rename_i mv hmv
        split at h
        ·cases h
        rename_i m hm
        have hm:bv (mx.map a.eval) cap m:=by
         have hm':bdn (mx.map (svOp env)) cap=some m:=by
          rw [hmv,← hm]
          unfold bdn
          split <;> first | rfl | simp_all
         exact bdn_ok he hm'
        cases h2:Nat.ble hh' m with
        | false=>rw [h2] at h;cases h
        | true =>
         rw [h2,cond_true] at h
         have h2:=Nat.ble_eq.mp h2
         obtain ⟨L,e',op,hg,h⟩:=rdK_some h
         cases h3:Nat.ble (o+m*sz) (llen L) with
         | false=>rw [h3] at h;cases h
         | true =>
          rw [h3,cond_true] at h
          have h3:=Nat.ble_eq.mp h3
          rw [llen_eq] at h3
          simp only [natK_eq,Option.some.injEq,Prod.mk.injEq] at h
          obtain ⟨e1,e2⟩:=h
          have hd:D b:=hD b (by rw [← e2];exact ins_has _ _ _)
          refine ⟨_,w,ρ,run_slAt hu hsz hl hh hm hmh h1 h2 (room hg hd h3),?_,by rw [← e2];exact Step.touch hs (ins_sub _ _ _) fun _ h=>h⟩
          rw [off_of,← e1,Rel];exact ⟨B,s,_,hb,rfl,rfl⟩
       ·rename_i hmv
        obtain ⟨L,e',op,hg,h⟩:=rdK_some h
        cases h3:Nat.ble (o+hh'*sz) (llen L) with
        | false=>rw [h3] at h;cases h
        | true =>
         rw [h3,cond_true] at h
         have h3:=Nat.ble_eq.mp h3
         rw [llen_eq] at h3
         have hm:bv (mx.map a.eval) cap cap:=by
          cases mx with
          | none=>rfl
          | some _=>simp at hmv
         cases h4:Nat.blt (o+l*sz) (llen L) with
         | true =>
          rw [h4,cond_true] at h
          have h4:=Nat.blt_eq.mp h4
          rw [llen_eq] at h4
          simp only [natK_eq,Option.some.injEq,Prod.mk.injEq] at h
          obtain ⟨e1,e2⟩:=h
          have hd:D b:=hD b (by rw [← e2];exact ins_has _ _ _)
          have hcap:=room hg hd h3
          refine ⟨_,w,ρ,run_slAt hu hsz hl hh hm hmh h1 hcap (Nat.le_refl _),?_,by rw [← e2];exact Step.touch hs (ins_sub _ _ _) fun _ h=>h⟩
          have hne:cap≠l:=by
           intro q
           subst q
           obtain ⟨b',s',pre,us,vs,q1,q2,qz,q3,q4,q5⟩:=hs.row hd hg
           rw [hb] at q1;cases q1
           have:=q3.len
           omega
          rw [if_neg hne,← e1,Rel]
          refine ⟨B,s,cap-l,hb,?_,by simp [Addr.add_lit]⟩
          simp only [CapR]
          have:l≤cap:=Nat.le_trans h1 hcap
          rw [Nat.add_assoc,← Nat.add_mul,Nat.add_sub_cancel' this]
          exact hc
         | false =>
          rw [h4,cond_false] at h
          simp only [Option.some.injEq,Prod.mk.injEq] at h
          obtain ⟨e1,e2⟩:=h
          have hd:D b:=hD b (by rw [← e2];exact ins_has _ _ _)
          have hcap:=room hg hd h3
          have hlh:l=hh':=by
           have h5:¬ (o+l*sz<L.length):=fun q=>by rw [← llen_eq] at q;rw [Nat.blt_eq.mpr q] at h4;cases h4
           have h6:hh'*sz≤l*sz:=by omega
           exact Nat.le_antisymm h1 (Nat.le_of_mul_le_mul_right h6 hp)
          refine ⟨_,w,ρ,run_slAt hu hsz hl hh hm hmh h1 hcap (Nat.le_refl _),?_,by rw [← e2];exact Step.touch hs (ins_sub _ _ _) fun _ h=>h⟩
          rw [← e1,Rel,hlh,Nat.sub_self]
          exact ⟨_,_,rfl⟩
  ·rename_i b o
   rw [Rel] at hx
   obtain ⟨B,s,hb,rfl⟩:=hx
   split at h
   ·cases h
   rename_i len e sz har
   have hA:=arT_ok har
   split at h
   ·cases h
   rename_i l hl
   have hl:=bdn_ok he hl
   split at h
   ·cases h
   rename_i hh' hh
   have hh:=bdn_ok he hh
   split at h
   ·cases h
   rename_i m hm
   have hm:=bdn_ok he hm
   cases h1:Nat.ble l hh' with
   | false=>rw [h1] at h;cases h
   | true =>
    rw [h1,cond_true] at h
    have h1:=Nat.ble_eq.mp h1
    cases h2:Nat.ble hh' m with
    | false=>rw [h2] at h;cases h
    | true =>
     rw [h2,cond_true] at h
     have h2:=Nat.ble_eq.mp h2
     cases h3:Nat.ble m len with
     | false=>rw [h3] at h;cases h
     | true =>
      rw [h3,cond_true] at h
      have h3:=Nat.ble_eq.mp h3
      simp only [natK_eq,Option.some.injEq,Prod.mk.injEq] at h
      obtain ⟨e1,e2⟩:=h
      subst e2
      have hbn:=run_boundsA (P:=P) (w:=w) hl hh hm hmh h1 h2 h3
      refine Did.pure hs (u:=.slice (some ⟨B,s.1+(bif Nat.beq m l then o else o+l*sz),none⟩) (hh'-l) (m-l)) ?_ (by rw [← e1,Rel];exact ⟨B,s,_,hb,rfl,rfl⟩)
      have:=off_of (b:=B) (z:=s.1) (o:=o) (l:=l) (m:=m) (sz:=sz)
      simp only [Option.map_some] at this
      simp only [Instr.sliceAt,Instr.sureAddr,Sem.run_bind,run_underlying hA.u,Result.andThen_ok,hbn,TH.run_sizeOf hA.size]
      by_cases q:m=l
      ·simp only [q,if_true] at this ⊢
       injection this with this
       simp [Sem.run_bind,hbn,TH.run_sizeOf hA.size,q,Addr.add_lit,this.symm]
      ·simp only [q,if_false] at this ⊢
       injection this with this
       simp [Sem.run_bind,hbn,TH.run_sizeOf hA.size,q,← this]
  ·rw [Rel] at hx
   subst hx
   split at h
   ·cases h
   rename_i sz hsl
   obtain ⟨e,hu,hsz⟩:=slE_ok hsl
   split at h
   ·rename_i hl
    have hl:=bdn_ok he hl
    split at h
    ·rename_i hh
     have hh:=bdn_ok he hh
     split at h
     ·rename_i hm
      have hm:=bdn_ok he hm
      simp only [Option.some.injEq,Prod.mk.injEq] at h
      obtain ⟨e1,e2⟩:=h
      subst e2
      refine Did.pure hs (run_slAt hu hsz hl hh hm hmh (Nat.le_refl _) (Nat.le_refl _) (Nat.le_refl _)) ?_
      rw [← e1,Rel];simp
     ·cases h
    ·cases h
   ·cases h
  ·cases h
end
end Go.TX
