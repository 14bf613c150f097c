/-
  What is proved here: behind an operation an evaluator has touched no less, and named no less. Conditions: none; each lemma states its own.
-/
import Derived.Test.YtoapkhkdnbcilaaGreatM7
import Derived.Test.YtoapkhkdnbcilaaGreatM2
set_option linter.unusedVariables false
set_option linter.unusedSimpArgs false
namespace Go.TX
open Go Go.TH
noncomputable section
/-- what of a loop's record stays -/
structure Imm (r r':SLoop):Prop where
  N:r'.N=r.N
  tmps:r'.tmps=r.tmps
  params:r'.params=r.params
  assign:r'.assign=r.assign
  body:r'.body=r.body
  defers:r'.defers=r.defers
def KeepL (o o':Option SO):Prop:=(∀ r',o'=some (.loop r')→∃ r,o=some (.loop r)∧Imm r r')∧(o=none→o'=none)
theorem KeepL.refl (o:Option SO):KeepL o o:=⟨fun r' h=>⟨r',h,rfl,rfl,rfl,rfl,rfl,rfl⟩,fun h=>h⟩
theorem KeepL.trans {o o1 o2:Option SO} (h:KeepL o o1) (h':KeepL o1 o2):KeepL o o2:=by
  refine ⟨fun r2 e=>?_,fun e=>h'.2 (h.2 e)⟩
  obtain ⟨r1,e1,i1⟩:=h'.1 r2 e
  obtain ⟨r,e0,i0⟩:=h.1 r1 e1
  exact ⟨r,e0,i1.N.trans i0.N,i1.tmps.trans i0.tmps,i1.params.trans i0.params,i1.assign.trans i0.assign,i1.body.trans i0.body,i1.defers.trans i0.defers⟩
structure Mono (st st':St):Prop where
  nx:st.nx≤st'.nx
  base:st'.base=st.base
  R:∀ x,x∈st.R→x∈st'.R
  lp:∀ x,x<st.nx→KeepL (st.h.get x) (st'.h.get x)
variable {P:Program} {T n:Nat} {ps:List (Nat × SV)} {st st' st1:St} {v x y z:SV} {ox lo hi mx:Option SV} {ok:Bool}
theorem Mono.refl (st:St):Mono st st:=⟨Nat.le_refl _,rfl,fun _ h=>h,fun _ _=>KeepL.refl _⟩
theorem Mono.trans (h:Mono st st1) (h':Mono st1 st'):Mono st st':=⟨Nat.le_trans h.nx h'.nx,h'.base.trans h.base,fun x hx=>h'.R x (h.R x hx),fun x hx=>(h.lp x hx).trans (h'.lp x (Nat.lt_of_lt_of_le hx h.nx))⟩
theorem Mono.fin {v v':SV} (h:some (v,st)=some (v',st')):Mono st st':=by
  simp only [Option.some.injEq,Prod.mk.injEq] at h
  rw [h.2];exact Mono.refl _
theorem KeepL.set {h:Tr SO} {x:Nat} {o:SO} (hx:h.get x≠none) (ho:∀ r',o=.loop r'→∃ r,h.get x=some (.loop r)∧Imm r r') (y:Nat):KeepL (h.get y) ((h.set x (some o)).get y):=by
  rw [Tr.get_set]
  by_cases e:y=x
  · subst e
    rw [if_pos rfl]
    refine ⟨fun r' e=>?_,fun e=>absurd e hx⟩
    simp only [Option.some.injEq] at e
    exact ho r' e
  · rw [if_neg e];exact KeepL.refl _
theorem KeepL.new {h:Tr SO} {n x:Nat} {o:Option SO} (hx:x<n):KeepL (h.get x) ((h.set n o).get x):=by
  rw [Tr.get_set,if_neg (by omega)];exact KeepL.refl _
theorem Mono.rd {β:Type} {x:Nat} {k:List SV→TypeId→Bool→St→Option β} {r:β} (h:rdK st x k=some r) (hk:∀ l e op s,s.h=st.h→st.h.get x=some (.cells l e op)→k l e op s=some r→Mono s st'):Mono st st':=by
  obtain ⟨l,e,op,hg,h⟩:=rdK_some h
  have h2:=hk l e op ⟨st.h,st.nx,st.base,ins st.base x st.R,st.W⟩ rfl hg h
  exact ⟨h2.nx,h2.base,fun y hy=>h2.R y (ins_sub _ _ _ y hy),h2.lp⟩
theorem Mono.rdM {β:Type} {x:Nat} {k:List SEnt→Nat→St→Option β} {r:β} (h:rdMK st x k=some r) (hk:∀ l c s,s.h=st.h→st.h.get x=some (.map l c)→k l c s=some r→Mono s st'):Mono st st':=by
  obtain ⟨l,c,hg,h⟩:=rdMK_some h
  have h2:=hk l c ⟨st.h,st.nx,st.base,ins st.base x st.R,st.W⟩ rfl hg h
  exact ⟨h2.nx,h2.base,fun y hy=>h2.R y (ins_sub _ _ _ y hy),h2.lp⟩
theorem Mono.wt {β:Type} {x:Nat} {o:SO} {k:St→Option β} {r:β} (h:wtK st x o k=some r) (hx:st.h.get x≠none) (ho:∀ r',o=.loop r'→∃ r,st.h.get x=some (.loop r)∧Imm r r') (hk:∀ s,k s=some r→Mono s st'):Mono st st':=by
  rw [wtK_eq] at h
  have h2:=hk _ h
  exact ⟨h2.nx,h2.base,fun y hy=>h2.R y (ins_sub _ _ _ y hy),fun y hy=>(KeepL.set hx ho y).trans (h2.lp y hy)⟩
theorem Mono.new {β:Type} {o:SO} {k:Nat→St→Option β} {r:β} (h:newK st o k=some r) (hk:∀ n s,k n s=some r→Mono s st'):Mono st st':=by
  rw [newK_eq] at h
  have h2:=hk _ _ h
  exact ⟨Nat.le_trans (Nat.le_succ _) h2.nx,h2.base,h2.R,fun x hx=>(KeepL.new hx).trans (h2.lp x (Nat.lt_succ_of_lt hx))⟩
theorem Mono.src {β:Type} {sz:Nat} {k:Nat→List SV→St→Option β} {r:β} (h:srcK sz y st k=some r) (hk:∀ n l s,k n l s=some r→Mono s st'):Mono st st':=by
  unfold srcK at h
  split at h
  · exact hk _ _ _ h
  · exact hk _ _ _ h
  · refine Mono.rd h ?_
    intro l _ _ s hsh hg h
    obtain ⟨_,h⟩:=subK_some h
    exact hk _ _ _ h
  · cases h
theorem Mono.bif {α:Type} {b:Bool} {p q:Option α} {r:α} {G:Prop} (h:(bif b then p else q)=some r) (hp:p=some r→G) (hq:q=some r→G):G:=by
  cases b with
  | true=>exact hp h
  | false=>exact hq h
theorem Mono.sub {α β:Type} {l:List α} {o n:Nat} {k:List α→Option β} {r:β} {G:Prop} (h:subK l o n k=some r) (hk:∀ l',k l'=some r→G):G:=hk _ (subK_some h).2
theorem Mono.wr {α β:Type} {l vs:List α} {o:Nat} {k:List α→Option β} {r:β} {G:Prop} (h:wrK l o vs k=some r) (hk:∀ l',k l'=some r→G):G:=hk _ (wrK_some h).2
theorem Mono.putE {β:Type} {es:List SEnt} {j:Nat} {e:SEnt} {k:List SEnt→Option β} {r:β} {G:Prop} (h:putEK es j e k=some r) (hk:∀ l',k l'=some r→G):G:=hk _ (putEK_some h).2
theorem Mono.delE {β:Type} {es:List SEnt} {j:Nat} {k:List SEnt→Option β} {r:β} {G:Prop} (h:delEK es j k=some r) (hk:∀ l',k l'=some r→G):G:=hk _ (delEK_some h).2
theorem apC_mono {e sz by' m:Nat} {news:List SV} (h:apC e sz by' x m news st=some (v,st')):Mono st st':=by
  unfold apC at h
  split at h
  · split at h
    · exact Mono.fin h
    · refine Mono.bif h ?_ ?_ <;> intro h
      · exact Mono.fin h
      · cases h
    · cases h
  · refine Mono.bif h ?_ ?_ <;> intro h
    · split at h
      · refine Mono.bif h ?_ ?_ <;> intro h
        · refine Mono.new h ?_
          intro _ _ h
          rw [natK_eq] at h
          exact Mono.fin h
        · cases h
      · refine Mono.bif h ?_ ?_ <;> intro h
        · refine Mono.rd h ?_
          intro _ _ _ _ hsh hg h
          refine Mono.wr h ?_
          intro _ h
          refine Mono.wt h (by rw [hsh,hg];simp) (fun _ e=>by cases e) ?_
          intro _ h
          rw [natK_eq] at h
          exact Mono.fin h
        · refine Mono.bif h ?_ ?_ <;> intro h
          · refine Mono.rd h ?_
            intro _ _ _ _ hsh hg h
            refine Mono.sub h ?_
            intro _ h
            rw [appK_eq] at h
            refine Mono.new h ?_
            intro _ _ h
            rw [natK_eq] at h
            exact Mono.fin h
          · cases h
      · refine Mono.bif h ?_ ?_ <;> intro h
        · refine Mono.bif h ?_ ?_ <;> intro h
          · refine Mono.rd h ?_
            intro _ _ _ s hsh hg h
            refine Mono.bif h ?_ ?_ <;> intro h
            · refine Mono.bif h ?_ ?_ <;> intro h
              · cases h
              · refine Mono.sub h ?_
                intro _ h
                rw [appK_eq] at h
                obtain ⟨h0,n0,b0,R0,W0⟩:=s
                simp only [Tr.setK_eq,natK_eq,insK_eq,Option.some.injEq,Prod.mk.injEq] at h
                rw [← h.2]
                refine ⟨Nat.le_succ _,rfl,fun _ h=>h,fun x hx=>?_⟩
                have hx:x<n0:=hx
                have hsh:h0=_:=hsh
                show KeepL (h0.get x) (((h0.set _ none).set n0 _).get x)
                rw [Tr.get_set,if_neg (by omega),Tr.get_set]
                split
                · rename_i e
                  refine ⟨fun r' q=>(by cases q),fun _=>rfl⟩
                · exact KeepL.refl _
            · cases h
          · cases h
        · cases h
      · cases h
    · cases h
theorem apS_mono {T':TypeId} (h:apS P T T' x y st=some (v,st')):Mono st st':=by
  unfold apS at h
  refine Mono.bif h ?_ ?_ <;> intro h
  · split at h
    · refine Mono.src h ?_
      intro _ _ _ h
      exact apC_mono h
    · cases h
  · cases h
theorem lnS_mono (h:lnS P T x st=some (v,st')):Mono st st':=by
  unfold lnS at h
  split at h
  · split at h <;> first | exact Mono.fin h | cases h
  · split at h
    · exact Mono.fin h
    · obtain ⟨h0,n0,b0,R0,W0⟩:=st
      simp only at h
      split at h
      · rw [insK_eq,natK_eq] at h
        simp only [Option.some.injEq,Prod.mk.injEq] at h
        rw [← h.2]
        exact ⟨Nat.le_refl _,rfl,ins_sub _ _ _,fun _ _=>KeepL.refl _⟩
      · cases h
    · cases h
  · cases h
theorem withS_mono (h:withS ox st=some (v,st')):Mono st st':=by
  rw [(withS_some h).2];exact Mono.refl _
theorem alS_mono (h:alS P T st=some (v,st')):Mono st st':=by
  unfold alS at h
  repeat' (first
    | (cases h;done)
    | exact Mono.fin h
    | (refine Mono.rd h ?_;intro _ _ _ _ hsh hg h)
    | (refine Mono.rdM h ?_;intro _ _ _ hsh hg h)
    | (refine Mono.wt h (by rw [hsh,hg];simp) (fun _ e=>by cases e) ?_;intro _ h)
    | (refine Mono.new h ?_;intro _ _ h)
    | (refine Mono.src h ?_;intro _ _ _ h)
    | (rw [natK_eq] at h)
    | (rw [appK_eq] at h)
    | (refine Mono.bif h ?_ ?_ <;> intro h)
    | (refine Mono.sub h ?_;intro _ h)
    | (refine Mono.wr h ?_;intro _ h)
    | (refine Mono.putE h ?_;intro _ h)
    | (refine Mono.delE h ?_;intro _ h)
    | split at h)
theorem bxS_mono (h:bxS T x st=some (v,st')):Mono st st':=by
  unfold bxS at h
  repeat' (first
    | (cases h;done)
    | exact Mono.fin h
    | (refine Mono.rd h ?_;intro _ _ _ _ hsh hg h)
    | (refine Mono.rdM h ?_;intro _ _ _ hsh hg h)
    | (refine Mono.wt h (by rw [hsh,hg];simp) (fun _ e=>by cases e) ?_;intro _ h)
    | (refine Mono.new h ?_;intro _ _ h)
    | (refine Mono.src h ?_;intro _ _ _ h)
    | (rw [natK_eq] at h)
    | (rw [appK_eq] at h)
    | (refine Mono.bif h ?_ ?_ <;> intro h)
    | (refine Mono.sub h ?_;intro _ h)
    | (refine Mono.wr h ?_;intro _ h)
    | (refine Mono.putE h ?_;intro _ h)
    | (refine Mono.delE h ?_;intro _ h)
    | split at h)
theorem bsS_mono (h:bsS P T n ps st=some (v,st')):Mono st st':=by
  unfold bsS at h
  repeat' (first
    | (cases h;done)
    | exact Mono.fin h
    | (refine Mono.rd h ?_;intro _ _ _ _ hsh hg h)
    | (refine Mono.rdM h ?_;intro _ _ _ hsh hg h)
    | (refine Mono.wt h (by rw [hsh,hg];simp) (fun _ e=>by cases e) ?_;intro _ h)
    | (refine Mono.new h ?_;intro _ _ h)
    | (refine Mono.src h ?_;intro _ _ _ h)
    | (rw [natK_eq] at h)
    | (rw [appK_eq] at h)
    | (refine Mono.bif h ?_ ?_ <;> intro h)
    | (refine Mono.sub h ?_;intro _ h)
    | (refine Mono.wr h ?_;intro _ h)
    | (refine Mono.putE h ?_;intro _ h)
    | (refine Mono.delE h ?_;intro _ h)
    | split at h)
theorem ldS_mono (h:ldS P T x st=some (v,st')):Mono st st':=by
  unfold ldS at h
  repeat' (first
    | (cases h;done)
    | exact Mono.fin h
    | (refine Mono.rd h ?_;intro _ _ _ _ hsh hg h)
    | (refine Mono.rdM h ?_;intro _ _ _ hsh hg h)
    | (refine Mono.wt h (by rw [hsh,hg];simp) (fun _ e=>by cases e) ?_;intro _ h)
    | (refine Mono.new h ?_;intro _ _ h)
    | (refine Mono.src h ?_;intro _ _ _ h)
    | (rw [natK_eq] at h)
    | (rw [appK_eq] at h)
    | (refine Mono.bif h ?_ ?_ <;> intro h)
    | (refine Mono.sub h ?_;intro _ h)
    | (refine Mono.wr h ?_;intro _ h)
    | (refine Mono.putE h ?_;intro _ h)
    | (refine Mono.delE h ?_;intro _ h)
    | split at h)
theorem stS_mono (h:stS P T x y st=some (v,st')):Mono st st':=by
  unfold stS at h
  repeat' (first
    | (cases h;done)
    | exact Mono.fin h
    | (refine Mono.rd h ?_;intro _ _ _ _ hsh hg h)
    | (refine Mono.rdM h ?_;intro _ _ _ hsh hg h)
    | (refine Mono.wt h (by rw [hsh,hg];simp) (fun _ e=>by cases e) ?_;intro _ h)
    | (refine Mono.new h ?_;intro _ _ h)
    | (refine Mono.src h ?_;intro _ _ _ h)
    | (rw [natK_eq] at h)
    | (rw [appK_eq] at h)
    | (refine Mono.bif h ?_ ?_ <;> intro h)
    | (refine Mono.sub h ?_;intro _ h)
    | (refine Mono.wr h ?_;intro _ h)
    | (refine Mono.putE h ?_;intro _ h)
    | (refine Mono.delE h ?_;intro _ h)
    | split at h)
theorem mmS_mono (h:mmS ox st=some (v,st')):Mono st st':=by
  unfold mmS at h
  repeat' (first
    | (cases h;done)
    | exact Mono.fin h
    | (refine Mono.rd h ?_;intro _ _ _ _ hsh hg h)
    | (refine Mono.rdM h ?_;intro _ _ _ hsh hg h)
    | (refine Mono.wt h (by rw [hsh,hg];simp) (fun _ e=>by cases e) ?_;intro _ h)
    | (refine Mono.new h ?_;intro _ _ h)
    | (refine Mono.src h ?_;intro _ _ _ h)
    | (rw [natK_eq] at h)
    | (rw [appK_eq] at h)
    | (refine Mono.bif h ?_ ?_ <;> intro h)
    | (refine Mono.sub h ?_;intro _ h)
    | (refine Mono.wr h ?_;intro _ h)
    | (refine Mono.putE h ?_;intro _ h)
    | (refine Mono.delE h ?_;intro _ h)
    | split at h)
theorem mkS_mono (h:mkS P T x y st=some (v,st')):Mono st st':=by
  unfold mkS at h
  repeat' (first
    | (cases h;done)
    | exact Mono.fin h
    | (refine Mono.rd h ?_;intro _ _ _ _ hsh hg h)
    | (refine Mono.rdM h ?_;intro _ _ _ hsh hg h)
    | (refine Mono.wt h (by rw [hsh,hg];simp) (fun _ e=>by cases e) ?_;intro _ h)
    | (refine Mono.new h ?_;intro _ _ h)
    | (refine Mono.src h ?_;intro _ _ _ h)
    | (rw [natK_eq] at h)
    | (rw [appK_eq] at h)
    | (refine Mono.bif h ?_ ?_ <;> intro h)
    | (refine Mono.sub h ?_;intro _ h)
    | (refine Mono.wr h ?_;intro _ h)
    | (refine Mono.putE h ?_;intro _ h)
    | (refine Mono.delE h ?_;intro _ h)
    | split at h)
theorem slS_mono (h:slS P T x lo hi mx st=some (v,st')):Mono st st':=by
  unfold slS at h
  repeat' (first
    | (cases h;done)
    | exact Mono.fin h
    | (refine Mono.rd h ?_;intro _ _ _ _ hsh hg h)
    | (refine Mono.rdM h ?_;intro _ _ _ hsh hg h)
    | (refine Mono.wt h (by rw [hsh,hg];simp) (fun _ e=>by cases e) ?_;intro _ h)
    | (refine Mono.new h ?_;intro _ _ h)
    | (refine Mono.src h ?_;intro _ _ _ h)
    | (rw [natK_eq] at h)
    | (rw [appK_eq] at h)
    | (refine Mono.bif h ?_ ?_ <;> intro h)
    | (refine Mono.sub h ?_;intro _ h)
    | (refine Mono.wr h ?_;intro _ h)
    | (refine Mono.putE h ?_;intro _ h)
    | (refine Mono.delE h ?_;intro _ h)
    | split at h)
theorem lkS_mono (h:lkS P T x y ok st=some (v,st')):Mono st st':=by
  unfold lkS at h
  repeat' (first
    | (cases h;done)
    | exact Mono.fin h
    | (refine Mono.rd h ?_;intro _ _ _ _ hsh hg h)
    | (refine Mono.rdM h ?_;intro _ _ _ hsh hg h)
    | (refine Mono.wt h (by rw [hsh,hg];simp) (fun _ e=>by cases e) ?_;intro _ h)
    | (refine Mono.new h ?_;intro _ _ h)
    | (refine Mono.src h ?_;intro _ _ _ h)
    | (rw [natK_eq] at h)
    | (rw [appK_eq] at h)
    | (refine Mono.bif h ?_ ?_ <;> intro h)
    | (refine Mono.sub h ?_;intro _ h)
    | (refine Mono.wr h ?_;intro _ h)
    | (refine Mono.putE h ?_;intro _ h)
    | (refine Mono.delE h ?_;intro _ h)
    | split at h)
theorem muS_mono (h:muS P T x y z st=some (v,st')):Mono st st':=by
  unfold muS at h
  repeat' (first
    | (cases h;done)
    | exact Mono.fin h
    | (refine Mono.rd h ?_;intro _ _ _ _ hsh hg h)
    | (refine Mono.rdM h ?_;intro _ _ _ hsh hg h)
    | (refine Mono.wt h (by rw [hsh,hg];simp) (fun _ e=>by cases e) ?_;intro _ h)
    | (refine Mono.new h ?_;intro _ _ h)
    | (refine Mono.src h ?_;intro _ _ _ h)
    | (rw [natK_eq] at h)
    | (rw [appK_eq] at h)
    | (refine Mono.bif h ?_ ?_ <;> intro h)
    | (refine Mono.sub h ?_;intro _ h)
    | (refine Mono.wr h ?_;intro _ h)
    | (refine Mono.putE h ?_;intro _ h)
    | (refine Mono.delE h ?_;intro _ h)
    | split at h)
theorem meS_mono (h:meS P T x y st=some (v,st')):Mono st st':=by
  unfold meS at h
  repeat' (first
    | (cases h;done)
    | exact Mono.fin h
    | (refine Mono.rd h ?_;intro _ _ _ _ hsh hg h)
    | (refine Mono.rdM h ?_;intro _ _ _ hsh hg h)
    | (refine Mono.wt h (by rw [hsh,hg];simp) (fun _ e=>by cases e) ?_;intro _ h)
    | (refine Mono.new h ?_;intro _ _ h)
    | (refine Mono.src h ?_;intro _ _ _ h)
    | (rw [natK_eq] at h)
    | (rw [appK_eq] at h)
    | (refine Mono.bif h ?_ ?_ <;> intro h)
    | (refine Mono.sub h ?_;intro _ h)
    | (refine Mono.wr h ?_;intro _ h)
    | (refine Mono.putE h ?_;intro _ h)
    | (refine Mono.delE h ?_;intro _ h)
    | split at h)
theorem esS_mono (h:esS x y z st=some (v,st')):Mono st st':=by
  unfold esS at h
  repeat' (first
    | (cases h;done)
    | exact Mono.fin h
    | (refine Mono.rd h ?_;intro _ _ _ _ hsh hg h)
    | (refine Mono.rdM h ?_;intro _ _ _ hsh hg h)
    | (refine Mono.wt h (by rw [hsh,hg];simp) (fun _ e=>by cases e) ?_;intro _ h)
    | (refine Mono.new h ?_;intro _ _ h)
    | (refine Mono.src h ?_;intro _ _ _ h)
    | (rw [natK_eq] at h)
    | (rw [appK_eq] at h)
    | (refine Mono.bif h ?_ ?_ <;> intro h)
    | (refine Mono.sub h ?_;intro _ h)
    | (refine Mono.wr h ?_;intro _ h)
    | (refine Mono.putE h ?_;intro _ h)
    | (refine Mono.delE h ?_;intro _ h)
    | split at h)
theorem deS_mono (h:deS P T x y st=some (v,st')):Mono st st':=by
  unfold deS at h
  repeat' (first
    | (cases h;done)
    | exact Mono.fin h
    | (refine Mono.rd h ?_;intro _ _ _ _ hsh hg h)
    | (refine Mono.rdM h ?_;intro _ _ _ hsh hg h)
    | (refine Mono.wt h (by rw [hsh,hg];simp) (fun _ e=>by cases e) ?_;intro _ h)
    | (refine Mono.new h ?_;intro _ _ h)
    | (refine Mono.src h ?_;intro _ _ _ h)
    | (rw [natK_eq] at h)
    | (rw [appK_eq] at h)
    | (refine Mono.bif h ?_ ?_ <;> intro h)
    | (refine Mono.sub h ?_;intro _ h)
    | (refine Mono.wr h ?_;intro _ h)
    | (refine Mono.putE h ?_;intro _ h)
    | (refine Mono.delE h ?_;intro _ h)
    | split at h)
theorem clS_mono (h:clS P T x st=some (v,st')):Mono st st':=by
  unfold clS at h
  repeat' (first
    | (cases h;done)
    | exact Mono.fin h
    | (refine Mono.rd h ?_;intro _ _ _ _ hsh hg h)
    | (refine Mono.rdM h ?_;intro _ _ _ hsh hg h)
    | (refine Mono.wt h (by rw [hsh,hg];simp) (fun _ e=>by cases e) ?_;intro _ h)
    | (refine Mono.new h ?_;intro _ _ h)
    | (refine Mono.src h ?_;intro _ _ _ h)
    | (rw [natK_eq] at h)
    | (rw [appK_eq] at h)
    | (refine Mono.bif h ?_ ?_ <;> intro h)
    | (refine Mono.sub h ?_;intro _ h)
    | (refine Mono.wr h ?_;intro _ h)
    | (refine Mono.putE h ?_;intro _ h)
    | (refine Mono.delE h ?_;intro _ h)
    | split at h)
theorem cpS_mono (h:cpS P T x y st=some (v,st')):Mono st st':=by
  unfold cpS at h
  repeat' (first
    | (cases h;done)
    | exact Mono.fin h
    | (refine Mono.rd h ?_;intro _ _ _ _ hsh hg h)
    | (refine Mono.rdM h ?_;intro _ _ _ hsh hg h)
    | (refine Mono.wt h (by rw [hsh,hg];simp) (fun _ e=>by cases e) ?_;intro _ h)
    | (refine Mono.new h ?_;intro _ _ h)
    | (refine Mono.src h ?_;intro _ _ _ h)
    | (rw [natK_eq] at h)
    | (rw [appK_eq] at h)
    | (refine Mono.bif h ?_ ?_ <;> intro h)
    | (refine Mono.sub h ?_;intro _ h)
    | (refine Mono.wr h ?_;intro _ h)
    | (refine Mono.putE h ?_;intro _ h)
    | (refine Mono.delE h ?_;intro _ h)
    | split at h)
theorem rgS_mono (h:rgS P T x st=some (v,st')):Mono st st':=by
  unfold rgS at h
  repeat' (first
    | (cases h;done)
    | exact Mono.fin h
    | (refine Mono.rd h ?_;intro _ _ _ _ hsh hg h)
    | (refine Mono.rdM h ?_;intro _ _ _ hsh hg h)
    | (refine Mono.wt h (by rw [hsh,hg];simp) (fun _ e=>by cases e) ?_;intro _ h)
    | (refine Mono.new h ?_;intro _ _ h)
    | (refine Mono.src h ?_;intro _ _ _ h)
    | (rw [natK_eq] at h)
    | (rw [appK_eq] at h)
    | (refine Mono.bif h ?_ ?_ <;> intro h)
    | (refine Mono.sub h ?_;intro _ h)
    | (refine Mono.wr h ?_;intro _ h)
    | (refine Mono.putE h ?_;intro _ h)
    | (refine Mono.delE h ?_;intro _ h)
    | split at h)
theorem enS_mono (h:enS x st=some (v,st')):Mono st st':=by
  unfold enS at h
  split at h
  · split at h
    · refine Mono.rdM h ?_
      intro _ _ s hsh hg h
      refine Mono.bif h ?_ ?_ <;> intro h
      · split at h
        · rw [insK_eq] at h
          simp only [Option.some.injEq,Prod.mk.injEq] at h
          rw [← h.2]
          exact ⟨Nat.le_refl _,rfl,ins_sub _ _ _,fun _ _=>KeepL.refl _⟩
        · cases h
      · cases h
    · refine Mono.rdM h ?_
      intro _ _ s hsh hg h
      refine Mono.bif h ?_ ?_ <;> intro h
      · split at h
        · rw [insK_eq] at h
          simp only [Option.some.injEq,Prod.mk.injEq] at h
          rw [← h.2]
          exact ⟨Nat.le_refl _,rfl,ins_sub _ _ _,fun _ _=>KeepL.refl _⟩
        · cases h
      · cases h
    · cases h
  · cases h
theorem outsS_mono {q m since clk:Nat} {seen:List Nat} (hq:st.h.get q≠none):∀ {l:List SEnt} {L:List (SV × St)},outsS q m since clk seen st l=some L→∀ p∈L,Mono st p.2
  | [],L,h,p,hp=>by simp only [outsS,Option.some.injEq] at h;subst h;cases hp
  | a::l,L,h,p,hp=>by
    simp only [outsS,wtK_eq] at h
    split at h
    · rename_i L' hL
      simp only [Option.some.injEq] at h
      subst h
      rcases List.mem_cons.1 hp with rfl | hp
      · exact ⟨Nat.le_refl _,rfl,ins_sub _ _ _,fun y _=>KeepL.set hq (fun _ e=>by cases e) y⟩
      · exact outsS_mono hq hL p hp
    · cases h
theorem nxS_mono {L:List (SV × St)} (h:nxS x st=some L):∀ p∈L,Mono st p.2:=by
  unfold nxS at h
  split at h
  · split at h
    · rw [insK_eq] at h
      simp only [Option.some.injEq] at h
      subst h
      intro p hp
      rw [List.mem_singleton] at hp
      subst hp
      exact ⟨Nat.le_refl _,rfl,ins_sub _ _ _,fun _ _=>KeepL.refl _⟩
    · rename_i m since seen last hg
      replace h:=(bif_of h).2
      obtain ⟨es,c,_,h⟩:=rdMK_some h
      replace h:=(bif_of h).2
      intro p hp
      refine (fun (h2:Mono (⟨st.h,st.nx,st.base,ins st.base m st.R,st.W⟩:St) p.2)=>(⟨h2.nx,h2.base,fun y hy=>h2.R y (ins_sub _ _ _ y hy),h2.lp⟩:Mono st p.2)) ?_
      split at h
      · rw [insK_eq] at h
        simp only [Option.some.injEq] at h
        subst h
        rw [List.mem_singleton] at hp
        subst hp
        exact ⟨Nat.le_refl _,rfl,ins_sub _ _ _,fun _ _=>KeepL.refl _⟩
      · exact outsS_mono (by show st.h.get _≠none;rw [hg];simp) h p hp
    · cases h
  · cases h
theorem biS_mono {b:Builtin} {ats:List TypeId} {ty:TypeId} {xs:List SV} (h:biS P b ats ty xs st=some (v,st')):Mono st st':=by
  unfold biS at h
  split at h
  · split at h
    · split at h
      · exact lnS_mono h
      · cases h
    · cases h
  · split at h
    · split at h
      · exact apS_mono h
      · cases h
    · cases h
  · split at h
    · split at h
      · exact cpS_mono h
      · cases h
    · cases h
  · exact withS_mono h
  · exact withS_mono h
  · split at h
    · split at h
      · exact deS_mono h
      · cases h
    · cases h
  · split at h
    · split at h
      · exact clS_mono h
      · cases h
    · cases h
  · cases h
theorem opS_mono {env:Tr SV} {op:Op} (h:opS P env op st=some (v,st')):Mono st st':=by
  cases op <;> simp only [opS] at h <;> first
    | (cases h;done)
    | exact Mono.fin h
    | exact withS_mono h
    | exact alS_mono h
    | exact bxS_mono h
    | exact bsS_mono h
    | exact ldS_mono h
    | exact stS_mono h
    | exact mkS_mono h
    | exact slS_mono h
    | exact lkS_mono h
    | exact muS_mono h
    | exact meS_mono h
    | exact esS_mono h
    | exact rgS_mono h
    | exact enS_mono h
    | (split at h <;> first | exact Mono.fin h | exact mmS_mono h | cases h)
end
end Go.TX
namespace Go.TX
open Go Go.TH
noncomputable section
variable {P:Program} {sm:Sums} {rec:Rec} {st st' st1:St} {v:SV}
def RecMono (rec:Rec):Prop:=∀ ro N c env ds st L,rec ro N c env ds st=some L→∀ o∈L,Mono st o.2.2.2
def SumMono (sm:Sums):Prop:=∀ f s args st v st',sm f=some s→s args st=some (v,st')→Mono st st'
theorem mapB_mem {α β:Type} {f:α→Option (List β)}:∀ {l:List α} {L:List β},mapB f l=some L→(∀ x∈l,∃ lx,f x=some lx∧∀ y∈lx,y∈L)∧∀ y∈L,∃ x∈l,∃ lx,f x=some lx∧y∈lx
  | [],L,h=>by unfold mapB at h;simp only [Option.some.injEq] at h;subst h;exact ⟨fun x hx=>(by cases hx),fun y hy=>(by cases hy)⟩
  | x::r,L,h=>by
    unfold mapB at h
    split at h
    case h_2=>cases h
    rename_i l hl
    split at h
    · simp only [Option.some.injEq] at h
      subst h
      refine ⟨fun y hy=>?_,fun y hy=>⟨x,by simp,l,hl,hy⟩⟩
      rw [List.mem_singleton] at hy
      subst hy
      exact ⟨l,hl,fun _ h=>h⟩
    · rename_i y r' 
      split at h
      case h_2=>cases h
      rename_i l' hl'
      simp only [Option.some.injEq] at h
      subst h
      obtain ⟨h1,h2⟩:=mapB_mem hl'
      refine ⟨fun z hz=>?_,fun z hz=>?_⟩
      · rcases List.mem_cons.1 hz with rfl | hz
        · exact ⟨l,hl,fun y hy=>by simp [hy]⟩
        · obtain ⟨lz,e1,e2⟩:=h1 z hz
          exact ⟨lz,e1,fun y hy=>by simp [e2 y hy]⟩
      · rcases List.mem_append.1 hz with hz | hz
        · exact ⟨x,by simp,l,hl,hz⟩
        · obtain ⟨a,ha,la,e1,e2⟩:=h2 z hz
          exact ⟨a,List.mem_cons_of_mem _ ha,la,e1,e2⟩
theorem oneL_some {α:Type} {r:Option α} {L:List α} (h:oneL r=some L):∃ p,r=some p∧L=[p]:=by
  unfold oneL at h
  split at h
  · rename_i p
    simp only [Option.some.injEq] at h
    exact ⟨p,rfl,h.symm⟩
  · cases h
theorem Mono.shut {β:Type} {r:β}:∀ {ds:List Nat} {st:St} {k:St→Option β},shutK ds st k=some r→(∀ s,k s=some r→Mono s st')→Mono st st'
  | [],st,k,h,hk=>hk st h
  | d::ds,st,k,h,hk=>by
    simp only [shutK] at h
    split at h
    · rename_i hg
      refine Mono.wt h (by rw [hg];simp) (fun _ e=>by cases e) ?_
      intro s h
      exact Mono.shut h hk
    · cases h
theorem rvK_mono {env:Tr SV} {r:ResultVar} (h:rvK P env r st=some (v,st')):Mono st st':=by
  cases r with
  | tmp t=>simp only [rvK] at h;exact Mono.fin h
  | cell a T=>simp only [rvK] at h;exact ldS_mono h
theorem Mono.res {env:Tr SV} {r:SV × St}:∀ {rs:List ResultVar} {st:St} {k:List SV→St→Option (SV × St)},resK P env rs st k=some r→(∀ l s,k l s=some r→Mono s st')→Mono st st'
  | [],st,k,h,hk=>hk _ st h
  | x::rs,st,k,h,hk=>by
    simp only [resK] at h
    split at h
    · rename_i v1 st1 h1
      exact (rvK_mono h1).trans (Mono.res h fun l s hs=>hk _ s hs)
    · cases h
theorem finS_mono {fn:Func} {e:Ex} {env:Tr SV} {ds:List Nat} (h:finS P fn (e,env,ds,st)=some (v,st')):Mono st st':=by
  unfold finS at h
  simp only at h
  cases e <;> simp only at h
  · refine Mono.shut h ?_
    intro s h
    refine Mono.res h ?_
    intro l s h
    exact Mono.fin h
  · cases h
  · cases h
  · refine Mono.shut h ?_
    intro s h
    refine Mono.res h ?_
    intro l s h
    exact Mono.fin h
theorem envK_some {β:Type} {r:β}:∀ {l:List SV} {i:Nat} {env:Tr SV} {k:Tr SV→Option β},envK l i env k=some r→∃ env',k env'=some r
  | [],_,env,k,h=>⟨env,h⟩
  | x::l,i,env,k,h=>by
    simp only [envK,Tr.setK_eq] at h
    exact envK_some h

/-! ### Outcomes that are the same -/
theorem eqC_eq {a b:Cap} (h:eqC a b=true):a=b:=by
  cases a <;> cases b <;> simp only [eqC] at h <;> first | (cases h;done) | rw [Nat.eq_of_beq_eq_true h]
theorem eqW_eq {a b:Value} (h:eqW a b=true):a=b:=by
  unfold eqW at h
  split at h
  · rfl
  · rw [Bool.and_eq_true] at h
    rw [Nat.eq_of_beq_eq_true h.1,Nat.eq_of_beq_eq_true h.2]
  · rfl
  · rfl
  · rfl
  · rfl
  · exact veq_eq h
mutual
theorem eqV_eq:∀ {a b:SV},eqV a b=true→a=b
  | .raw v,b,h=>by cases b <;> simp only [eqV] at h <;> first | (cases h;done) | rw [eqW_eq h]
  | .ptr x o,b,h=>by
    cases b <;> simp only [eqV] at h <;> try (cases h;done)
    rw [Bool.and_eq_true] at h
    rw [Nat.eq_of_beq_eq_true h.1,Nat.eq_of_beq_eq_true h.2]
  | .sl x o n c,b,h=>by
    cases b <;> simp only [eqV] at h <;> try (cases h;done)
    simp only [Bool.and_eq_true] at h
    rw [Nat.eq_of_beq_eq_true h.1.1.1,Nat.eq_of_beq_eq_true h.1.1.2,Nat.eq_of_beq_eq_true h.1.2,eqC_eq h.2]
  | .sl0,b,h=>by cases b <;> simp only [eqV] at h <;> first | (cases h;done) | rfl
  | .map x,b,h=>by cases b <;> simp only [eqV] at h <;> first | (cases h;done) | rw [Nat.eq_of_beq_eq_true h]
  | .fn f l m,b,h=>by
    cases b <;> simp only [eqV] at h <;> try (cases h;done)
    simp only [Bool.and_eq_true] at h
    rw [Nat.eq_of_beq_eq_true h.1.1,eqVs_eq h.1.2,eqVs_eq h.2]
  | .yield x,b,h=>by cases b <;> simp only [eqV] at h <;> first | (cases h;done) | rw [Nat.eq_of_beq_eq_true h]
  | .agg l,b,h=>by cases b <;> simp only [eqV] at h <;> first | (cases h;done) | rw [eqVs_eq h]
  | .tup l,b,h=>by cases b <;> simp only [eqV] at h <;> first | (cases h;done) | rw [eqVs_eq h]
theorem eqVs_eq:∀ {a b:List SV},eqVs a b=true→a=b
  | [],b,h=>by cases b <;> simp only [eqVs] at h <;> first | (cases h;done) | rfl
  | x::l,b,h=>by
    cases b with
    | nil=>simp only [eqVs] at h;cases h
    | cons y r =>
      simp only [eqVs] at h
      cases hx:eqV x y with
      | false=>rw [hx] at h;cases h
      | true=>rw [hx,cond_true] at h;rw [eqV_eq hx,eqVs_eq h]
end
theorem eqL_eq {α:Type} {f:α→α→Bool} (hf:∀ a b,f a b=true→a=b):∀ {l r:List α},eqL f l r=true→l=r
  | [],r,h=>by cases r <;> simp only [eqL] at h <;> first | (cases h;done) | rfl
  | x::l,r,h=>by
    cases r with
    | nil=>simp only [eqL] at h;cases h
    | cons y r =>
      simp only [eqL] at h
      cases hx:f x y with
      | false=>rw [hx] at h;cases h
      | true=>rw [hx,cond_true] at h;rw [hf _ _ hx,eqL_eq hf h]
theorem eqE_eq {a b:SEnt} (h:eqE a b=true):a=b:=by
  obtain ⟨k,v,n⟩:=a
  obtain ⟨k',v',n'⟩:=b
  simp only [eqE,Bool.and_eq_true] at h
  rw [eqV_eq h.1.1,eqV_eq h.1.2,Nat.eq_of_beq_eq_true h.2]
theorem eqB_eq {a b:Bool} (h:eqB a b=true):a=b:=by cases a <;> cases b <;> first | rfl | cases h
theorem eqO_eq {a b:SO} (h:eqO a b=true):a=b:=by
  have hn:∀ {x y:Nat},Nat.beq x y=true→x=y:=fun h=>Nat.eq_of_beq_eq_true h
  unfold eqO at h
  split at h
  · simp only [Bool.and_eq_true] at h
    rw [eqVs_eq h.1.1,hn h.1.2,eqB_eq h.2]
  · simp only [Bool.and_eq_true] at h
    rw [eqL_eq (fun _ _=>eqE_eq) h.1,hn h.2]
  · rw [eqB_eq h]
  · simp only [Bool.and_eq_true] at h
    rw [hn h.1.1.1,hn h.1.1.2,eqL_eq (fun _ _=>hn) h.1.2,hn h.2]
  · simp only [Bool.and_eq_true] at h
    rw [hn h.1.1,eqL_eq (fun _ _=>hn) h.1.2,hn h.2]
  · cases h
theorem eqS_eq {a b:LoopState} (h:eqS a b=true):a=b:=by cases a <;> cases b <;> first | rfl | cases h
theorem eqJ_eq {a b:Option Code} (h:eqJ a b=true):a=b:=by
  unfold eqJ at h
  split at h
  · rfl
  · rw [Nat.eq_of_beq_eq_true h]
  · rw [Nat.eq_of_beq_eq_true h]
  · rfl
  · cases h
theorem eqLp_eq {a b:SO} (h:eqLp a b=true) (hi:∀ r r',a=.loop r→b=.loop r'→Imm r r'):a=b:=by
  cases a <;> cases b <;> simp only [eqLp] at h <;> try (cases h;done)
  rename_i r r'
  have i:=hi r r' rfl rfl
  rw [Bool.and_eq_true] at h
  have e1:=eqS_eq h.1
  have e2:=eqJ_eq h.2
  obtain ⟨s,p,N,tm,ps,as9,bd,df⟩:=r
  obtain ⟨s',p',N',tm',ps',as9',bd',df'⟩:=r'
  obtain ⟨i1,i2,i3,i4,i5,i6⟩:=i
  simp only at e1 e2 i1 i2 i3 i4 i5 i6
  rw [e1,e2,i1,i2,i3,i4,i5,i6]
theorem meetK_some {β:Type} {n0:Nat} {h1 h2:Tr SO} (hI:∀ x,x<n0→∀ r r',h1.get x=some (.loop r)→h2.get x=some (.loop r')→Imm r r'):∀ {n:Nat} {h:Tr SO} {k:Tr SO→Option β} {r:β},(∀ x,x<n→h.get x=none)→meetK n0 h1 h2 n h k=some r→∃ h',k h'=some r∧(∀ x,x<n→(h'.get x=h1.get x∧h'.get x=h2.get x)∨(n0≤x∧h'.get x=none))∧∀ x,n≤x→h'.get x=h.get x
  | 0,h,k,r,_,hh=>⟨h,hh,fun x hx=>absurd hx (Nat.not_lt_zero _),fun _ _=>rfl⟩
  | n+1,h,k,r,hl,hh=>by
    simp only [meetK] at hh
    have skip:(n0≤n∨(h1.get n=none∧h2.get n=none))→meetK n0 h1 h2 n h k=some r→∃ h',k h'=some r∧(∀ x,x<n+1→(h'.get x=h1.get x∧h'.get x=h2.get x)∨(n0≤x∧h'.get x=none))∧∀ x,n+1≤x→h'.get x=h.get x:=by
      intro hb hh
      obtain ⟨h',e1,e2,e3⟩:=meetK_some hI (fun x hx=>hl x (by omega)) hh
      refine ⟨h',e1,fun x hx=>?_,fun x hx=>e3 x (by omega)⟩
      by_cases e:x=n
      · subst e
        have hn:h'.get x=none:=by rw [e3 x (Nat.le_refl _)];exact hl x (by omega)
        rcases hb with hb | ⟨hb1,hb2⟩
        · exact .inr ⟨hb,hn⟩
        · left;rw [hn,hb1,hb2];exact ⟨rfl,rfl⟩
      · exact e2 x (by omega)
    split at hh
    · rename_i o1 ho1
      split at hh
      · rename_i o2 ho2
        cases hq:(eqO o1 o2||(Nat.blt n n0&&eqLp o1 o2)) with
        | true =>
          have heq:o1=o2:=by
            rw [Bool.or_eq_true,Bool.and_eq_true] at hq
            rcases hq with q | ⟨q1,q2⟩
            · exact eqO_eq q
            · exact eqLp_eq q2 fun r r' e1 e2=>hI n (Nat.blt_eq.mp q1) r r' (by rw [ho1,e1]) (by rw [ho2,e2])
          rw [hq,cond_true,Tr.setK_eq] at hh
          obtain ⟨h',e1,e2,e3⟩:=meetK_some hI (fun x hx=>by rw [Tr.get_set,if_neg (by omega)];exact hl x (by omega)) hh
          refine ⟨h',e1,fun x hx=>?_,fun x hx=>?_⟩
          · by_cases e:x=n
            · subst e
              have:h'.get x=some o1:=by rw [e3 x (Nat.le_refl _),Tr.get_set,if_pos rfl]
              left;rw [this,ho1,ho2,heq];exact ⟨rfl,rfl⟩
            · exact e2 x (by omega)
          · rw [e3 x (by omega),Tr.get_set,if_neg (by omega)]
        | false=>rw [hq,cond_false] at hh;exact skip (.inl (Nat.ble_eq.mp (bif_of hh).1)) (bif_of hh).2
      · exact skip (.inl (Nat.ble_eq.mp (bif_of hh).1)) (bif_of hh).2
    · rename_i ho1
      split at hh
      · exact skip (.inl (Nat.ble_eq.mp (bif_of hh).1)) (bif_of hh).2
      · rename_i ho2
        exact skip (.inr ⟨ho1,ho2⟩) hh
/-- what is known of both is known of one -/
structure Sub2 (n0:Nat) (J p:SV × St):Prop where
  v:J.1=p.1
  nx:J.2.nx=p.2.nx
  base:J.2.base=p.2.base
  R:∀ x,x∈p.2.R→x∈J.2.R
  W:∀ x,x∈p.2.W→x∈J.2.W
  h:∀ x,x<J.2.nx→J.2.h.get x=p.2.h.get x∨(n0≤x∧J.2.h.get x=none)
theorem Sub2.refl (n0:Nat) (p:SV × St):Sub2 n0 p p:=⟨rfl,rfl,rfl,fun _ h=>h,fun _ h=>h,fun _ _=>.inl rfl⟩
theorem Sub2.trans {n0:Nat} {a b c:SV × St} (h:Sub2 n0 a b) (h':Sub2 n0 b c):Sub2 n0 a c :=
  ⟨h.v.trans h'.v,h.nx.trans h'.nx,h.base.trans h'.base,fun x hx=>h.R x (h'.R x hx),fun x hx=>h.W x (h'.W x hx),fun x hx=>by
    rcases h.h x hx with q | q
    · rcases h'.h x (by rw [← h.nx];exact hx) with r | r
      · exact .inl (q.trans r)
      · exact .inr ⟨r.1,q.trans r.2⟩
    · exact .inr q⟩
theorem Imm.of {r r1 r2:SLoop} (h1:Imm r r1) (h2:Imm r r2):Imm r1 r2 :=
  ⟨h2.N.trans h1.N.symm,h2.tmps.trans h1.tmps.symm,h2.params.trans h1.params.symm,h2.assign.trans h1.assign.symm,h2.body.trans h1.body.symm,h2.defers.trans h1.defers.symm⟩
theorem Mono.sub2 {p J:SV × St} (hp:Mono st p.2) (s:Sub2 st.nx J p):Mono st J.2:=by
  refine ⟨by rw [s.nx];exact hp.nx,s.base.trans hp.base,fun x hx=>s.R x (hp.R x hx),fun x hx=>?_⟩
  rcases s.h x (by rw [s.nx];exact Nat.lt_of_lt_of_le hx hp.nx) with q | q
  · rw [q];exact hp.lp x hx
  · omega
theorem join2_some {p q J:SV × St} (hp:Mono st p.2) (hq:Mono st q.2) (h:join2 st.nx p q=some J):Sub2 st.nx J p∧Sub2 st.nx J q∧∀ x,J.2.nx≤x→J.2.h.get x=none:=by
  obtain ⟨v,h1,nx,b,R,W⟩:=p
  obtain ⟨v',h2,nx',b',R',W'⟩:=q
  simp only [join2] at h
  have e1:=eqV_eq (bif_of h).1
  replace h:=(bif_of h).2
  have e2:=Nat.eq_of_beq_eq_true (bif_of h).1
  replace h:=(bif_of h).2
  have e3:=Nat.eq_of_beq_eq_true (bif_of h).1
  replace h:=(bif_of h).2
  obtain ⟨h',e4,e5,e6⟩:=meetK_some (fun x hx r r' g1 g2=>by
    obtain ⟨r0,k1,i1⟩:=(hp.lp x hx).1 r g1
    obtain ⟨r0',k2,i2⟩:=(hq.lp x hx).1 r' g2
    rw [k1] at k2
    simp only [Option.some.injEq,SO.loop.injEq] at k2
    subst k2
    exact i1.of i2) (fun x _=>Tr.get_lf x) h
  rw [appK_eq,appK_eq] at e4
  simp only [Option.some.injEq] at e4
  subst e4;subst e1;subst e2;subst e3
  refine ⟨⟨rfl,rfl,rfl,fun x hx=>List.mem_append_left _ hx,fun x hx=>List.mem_append_left _ hx,fun x hx=>?_⟩,⟨rfl,rfl,rfl,fun x hx=>List.mem_append_right _ hx,fun x hx=>List.mem_append_right _ hx,fun x hx=>?_⟩,fun x hx=>by show h'.get x=none;rw [e6 x hx];exact Tr.get_lf x⟩
  · rcases e5 x hx with q | q
    · exact .inl q.1
    · exact .inr q
  · rcases e5 x hx with q | q
    · exact .inl q.2
    · exact .inr q
theorem joinA_some:∀ {l:List (SV × St)} {p J:SV × St},Mono st p.2→(∀ q∈l,Mono st q.2)→(∀ x,p.2.nx≤x→p.2.h.get x=none)→joinA st.nx p l=some J→(∀ q,q∈p::l→Sub2 st.nx J q)∧∀ x,J.2.nx≤x→J.2.h.get x=none
  | [],p,J,_,_,hp,h=>by
    simp only [joinA,Option.some.injEq] at h
    subst h
    exact ⟨fun q hq=>by rw [List.mem_singleton] at hq;subst hq;exact Sub2.refl _ _,hp⟩
  | q::r,p,J,mp,ml,hp,h=>by
    simp only [joinA] at h
    split at h
    case h_2=>cases h
    rename_i p' hj
    obtain ⟨g1,g2,g3⟩:=join2_some mp (ml q (by simp)) hj
    obtain ⟨k1,k2⟩:=joinA_some (mp.sub2 g1) (fun z hz=>ml z (by simp [hz])) g3 h
    have hJ:=k1 p' List.mem_cons_self
    refine ⟨fun z hz=>?_,k2⟩
    rcases List.mem_cons.1 hz with rfl | hz
    · exact hJ.trans g1
    · rcases List.mem_cons.1 hz with rfl | hz
      · exact hJ.trans g2
      · exact k1 z (List.mem_cons_of_mem _ hz)
/-- each outcome is one that is left, or is known less of -/
theorem joinL_ok {l:List (SV × St)} (hm:∀ p∈l,Mono st p.2):(∀ p∈l,∃ J∈joinL st.nx l,J=p∨(Sub2 st.nx J p∧∀ x,J.2.nx≤x→J.2.h.get x=none))∧∀ J∈joinL st.nx l,∃ p∈l,J=p∨Sub2 st.nx J p:=by
  match l,hm with
  | [],_=>exact ⟨fun p hp=>(by cases hp),fun p hp=>(by cases hp)⟩
  | [p],_=>exact ⟨fun q hq=>⟨q,hq,.inl rfl⟩,fun q hq=>⟨q,hq,.inl rfl⟩⟩
  | p::q::r,hm =>
    simp only [joinL]
    split
    · rename_i J hJ
      simp only [joinA] at hJ
      split at hJ
      case h_2=>cases hJ
      rename_i p' hj
      obtain ⟨g1,g2,g3⟩:=join2_some (hm p (by simp)) (hm q (by simp)) hj
      obtain ⟨k1,k2⟩:=joinA_some ((hm p (by simp)).sub2 g1) (fun z hz=>hm z (by simp [hz])) g3 hJ
      have hJ':=k1 p' List.mem_cons_self
      refine ⟨fun z hz=>⟨J,by simp,.inr ⟨?_,k2⟩⟩,fun z hz=>?_⟩
      · rcases List.mem_cons.1 hz with rfl | hz
        · exact hJ'.trans g1
        · rcases List.mem_cons.1 hz with rfl | hz
          · exact hJ'.trans g2
          · exact k1 z (List.mem_cons_of_mem _ hz)
      · rw [List.mem_singleton] at hz
        subst hz
        exact ⟨p,by simp,.inr (hJ'.trans g1)⟩
    · exact ⟨fun z hz=>⟨z,hz,.inl rfl⟩,fun z hz=>⟨z,hz,.inl rfl⟩⟩
theorem joinL_ne {n0:Nat} {l:List (SV × St)} (h:l≠[]):joinL n0 l≠[]:=by
  match l,h with
  | [p],_=>simp [joinL]
  | p::q::r,_ =>
    simp only [joinL]
    split <;> simp

/-! ### Growth -/
theorem exF_mono (hr:RecMono rec) (hsm:SumMono sm) {f:FuncId} {args:List SV} {L:List (SV × St)} (h:exF P sm rec f args st=some L):∀ p∈L,Mono st p.2:=by
  unfold exF at h
  split at h
  · rename_i s hs
    obtain ⟨p,hp,rfl⟩:=oneL_some h
    intro q hq
    rw [List.mem_singleton] at hq
    subst hq
    exact hsm f s args st _ _ hs hp
  · split at h
    · split at h
      · refine Mono.bif h ?_ ?_ <;> intro h
        · obtain ⟨env,h⟩:=envK_some h
          split at h
          · rename_i L0 hL0
            split at h
            · rename_i R hR
              simp only [Option.some.injEq] at h
              subst h
              intro J hJ
              have hmR:∀ p∈R,Mono st p.2:=by
                intro p hp
                obtain ⟨o,ho,lx,e1,e2⟩:=(mapB_mem hR).2 p hp
                obtain ⟨p',hp',rfl⟩:=oneL_some e1
                rw [List.mem_singleton] at e2
                subst e2
                obtain ⟨e,env',ds',st2⟩:=o
                exact (hr _ _ _ _ _ _ _ hL0 _ ho).trans (finS_mono hp')
              obtain ⟨p,hp,hj⟩:=(joinL_ok hmR).2 J hJ
              rcases hj with rfl | hj
              · exact hmR _ hp
              · exact (hmR p hp).sub2 hj
            · cases h
          · cases h
        · cases h
      · cases h
    · cases h
theorem putsK_some {β:Type} {N:Nat} {r:β}:∀ {ts:List Tmp} {xs:List SV} {env:Tr SV} {k:Tr SV→Option β},putsK ts xs N env k=some r→∃ env',k env'=some r
  | [],[],env,k,h=>⟨env,h⟩
  | [],_::_,env,k,h=>by simp [putsK] at h
  | _::_,[],env,k,h=>by simp [putsK] at h
  | t::ts,x::xs,env,k,h=>by
    simp only [putsK] at h
    replace h:=(bif_of h).2
    rw [Tr.setK_eq] at h
    exact putsK_some h
theorem yEnd_some {l:Nat} {o:Out} (h:yEnd l o=some (v,st')):∃ r3 jump,o.2.2.2.h.get l=some (.loop r3)∧jmpOf o.1=jump∧v=.raw (.bool jump.isNone) ∧
    st'=⟨o.2.2.2.h.set l (some (.loop { r3 with state:=if jump.isNone then .ready else .done,pending:=jump })),o.2.2.2.nx,o.2.2.2.base,ins o.2.2.2.base l o.2.2.2.R,ins o.2.2.2.base l o.2.2.2.W⟩:=by
  obtain ⟨e3,env3,ds3,st3⟩:=o
  simp only [yEnd] at h
  split at h
  case h_2=>cases h
  rename_i r3 hg3
  split at h
  · rename_i hj
    rw [wtK_eq] at h
    simp only [Option.some.injEq,Prod.mk.injEq] at h
    exact ⟨r3,none,hg3,hj,h.1.symm,h.2.symm⟩
  · rename_i c hj
    rw [wtK_eq] at h
    simp only [Option.some.injEq,Prod.mk.injEq] at h
    exact ⟨r3,some c,hg3,hj,h.1.symm,h.2.symm⟩
theorem exYb_some {l:Nat} {r:SLoop} {env:Tr SV} {L:List (SV × St)} (hx:exYb rec l r env st=some L):∃ env1 ds1 st1 r1 L3,rec (some l) r.N r.assign env [] st=some [(.nrm,env1,ds1,st1)]∧st1.h.get l=some (.loop r1)∧r1.state=.ready ∧
    rec (some l) r.N r.body env1 ds1 ⟨st1.h.set l (some (.loop { r1 with state:=.busy })),st1.nx,st1.base,ins st1.base l st1.R,ins st1.base l st1.W⟩=some L3∧mapB (fun o=>oneL (yEnd l o)) L3=some L:=by
  unfold exYb at hx
  split at hx
  case h_2=>cases hx
  rename_i e env1 ds1 st1 h1
  cases e <;> simp only at hx <;> try (cases hx;done)
  split at hx
  case h_2=>cases hx
  rename_i r1 hg1
  split at hx
  case h_2=>cases hx
  rename_i hready
  rw [wtK_eq] at hx
  split at hx
  case h_2=>cases hx
  rename_i L3 h3
  exact ⟨env1,ds1,st1,r1,L3,h1,hg1,hready,h3,hx⟩
theorem exYb_mono (hr:RecMono rec) {l:Nat} {r:SLoop} {env:Tr SV} {L:List (SV × St)} (h:exYb rec l r env st=some L):∀ p∈L,Mono st p.2∧(l∈p.2.R∨st.base≤l):=by
  obtain ⟨env1,ds1,st1,r1,L3,h1,hg1,hready,h3,h4⟩:=exYb_some h
  intro p hp
  obtain ⟨o,ho,lx,e1,e2⟩:=(mapB_mem h4).2 p hp
  obtain ⟨p',hp',rfl⟩:=oneL_some e1
  rw [List.mem_singleton] at e2
  subst e2
  obtain ⟨v,s⟩:=p
  obtain ⟨r3,jump,hg3,hj,hv,rfl⟩:=yEnd_some hp'
  have m1:=hr _ _ _ _ _ _ _ h1 _ List.mem_cons_self
  have m3:=hr _ _ _ _ _ _ _ h3 _ ho
  have mset:∀ {s:St} {r r':SLoop},s.h.get l=some (.loop r)→Imm r r'→Mono s ⟨s.h.set l (some (.loop r')),s.nx,s.base,ins s.base l s.R,ins s.base l s.W⟩:=fun hg i=>⟨Nat.le_refl _,rfl,ins_sub _ _ _,fun y _=>KeepL.set (by rw [hg];simp) (fun q e=>by
    simp only [SO.loop.injEq] at e
    subst e
    exact ⟨_,hg,i⟩) y⟩
  have m13:Mono st o.2.2.2:=m1.trans ((mset (r':={ r1 with state:=.busy }) hg1 ⟨rfl,rfl,rfl,rfl,rfl,rfl⟩).trans m3)
  refine ⟨m13.trans (mset hg3 ⟨rfl,rfl,rfl,rfl,rfl,rfl⟩),?_⟩
  rcases ins_has o.2.2.2.base l o.2.2.2.R with q | q
  · exact .inl q
  · exact .inr (m13.base▸q)
theorem exY_mono (hr:RecMono rec) {l:Nat} {args:List SV} {L:List (SV × St)} (h:exY rec l args st=some L):∀ p∈L,Mono st p.2:=by
  unfold exY at h
  split at h
  · obtain ⟨env,h⟩:=putsK_some h
    exact fun p hp=>(exYb_mono hr h p hp).1
  · cases h
theorem oneL_mono {r:Option (SV × St)} {L:List (SV × St)} (h:oneL r=some L) (hm:∀ v s,r=some (v,s)→Mono st s):∀ p∈L,Mono st p.2:=by
  obtain ⟨p,hp,rfl⟩:=oneL_some h
  intro q hq
  rw [List.mem_singleton] at hq
  subst hq
  exact hm _ _ hp
theorem exO_mono (hr:RecMono rec) (hsm:SumMono sm) {env:Tr SV} {o:Oper} {L:List (SV × St)} (h:exO P sm rec env o st=some L):∀ p∈L,Mono st p.2:=by
  unfold exO at h
  split at h
  · split at h
    · exact oneL_mono h fun _ _=>biS_mono
    · split at h
      · exact exF_mono hr hsm h
      · exact exY_mono hr h
      · cases h
    · cases h
  · split at h
    · exact nxS_mono h
    · cases h
  · exact oneL_mono h fun _ _=>opS_mono
theorem exL_mono (hr:RecMono rec) (hsm:SumMono sm) {N:Nat} {ops:List Oper}:∀ {l:List Oper} {env:Tr SV} {st:St} {L:List (Tr SV × St)},exL P sm rec N ops l env st=some L→∀ p∈L,Mono st p.2
  | [],env,st,L,h=>by
    simp only [exL,Option.some.injEq] at h
    subst h
    intro p hp
    rw [List.mem_singleton] at hp
    subst hp
    exact Mono.refl _
  | o::l,env,st,L,h=>by
    simp only [exL] at h
    split at h
    · split at h
      · rename_i L1 h1
        intro p hp
        obtain ⟨q,hq,lx,e1,e2⟩:=(mapB_mem h).2 p hp
        obtain ⟨env1,_,e1⟩:=putK_some e1
        exact (exO_mono hr hsm h1 q hq).trans (exL_mono hr hsm e1 p e2)
      · cases h
    · obtain ⟨env1,_,h⟩:=putK_some h
      exact exL_mono hr hsm h
    · cases h
theorem exD_mono (hr:RecMono rec) (hsm:SumMono sm) {N:Nat} {ops:Array Oper} {env env':Tr SV} (h:exD P sm rec N ops env st=some (env',st')):Mono st st':=by
  obtain ⟨h0,nx0,bs,R0,W0⟩:=st
  simp only [exD] at h
  replace h:=(bif_of h).2
  split at h
  case h_2=>cases h
  rename_i envE hE nxE ts hR
  replace h:=(bif_of h).2
  obtain ⟨Rf,Wf,ht,hRf0,hWf0,htold⟩:=tellK_eq (b:=bs) (ts:=ts) (R:=R0) (W:=W0) (k:=fun R' W'=>some (envE,(⟨hE,nxE,bs,R',W'⟩:St)))
  rw [ht] at h
  simp only [Option.some.injEq,Prod.mk.injEq] at h
  obtain ⟨rfl,rfl⟩:=h
  obtain ⟨E,H,X,T,hE0,hH0,hX0,hEn,hHn,hXn,hts,hst⟩:=exR_seq hR
  have hXs:∀ i,i<ops.toList.length→X i≤X (i+1):=fun i hi=>(hst i ops.toList[i] (by simp)).le
  have:=mono_nat hXs (i:=0) (j:=ops.toList.length) (by omega) (Nat.le_refl _)
  rw [hX0,hXn] at this
  refine ⟨this,rfl,hRf0,fun x hx=>?_⟩
  have key:∀ i,i≤ops.toList.length→KeepL ((H 0).get x) ((H i).get x):=by
    intro i
    induction i with
    | zero=>exact fun _=>KeepL.refl _
    | succ i ih =>
      intro hi
      refine (ih (by omega)).trans ?_
      have s:=hst i ops.toList[i] (by simp)
      have hxi:x<X i:=by
        have:=mono_nat hXs (i:=0) (j:=i) (by omega) (by omega)
        rw [hX0] at this
        exact Nat.lt_of_lt_of_le hx this
      by_cases ht:x∈(T i).W∨(X i≤x∧x<X (i+1))
      · rcases s.is with ⟨_,q1,q2,_⟩ | ⟨_,v,hq,b,hx',q1,_⟩
        · rcases ht with r | r
          · rw [q1] at r;cases r
          · omega
        · rw [q1 x ht]
          exact (exO_mono hr hsm hx' _ List.mem_cons_self).lp x hxi
      · rw [s.out x ht];exact KeepL.refl _
  have:=key ops.toList.length (Nat.le_refl _)
  rw [hH0,hHn] at this
  exact this
theorem rfE_some {ro:Option Nat} {N:Nat} {env:Tr SV} {ds0:List Nat} {l:Nat} {L:List Out} (h:rfE rec ro N env ds0 l st=some L):∃ r,st.h.get l=some (.loop r)∧r.state≠.busy ∧
    (match r.pending with
      | none=>some [(.nrm,env,ds0,⟨st.h.set l (some (.loop { r with state:=.exhausted })),st.nx,st.base,ins st.base l st.R,ins st.base l st.W⟩)]
      | some c=>rec ro N c env ds0 ⟨st.h.set l (some (.loop { r with state:=.exhausted })),st.nx,st.base,ins st.base l st.R,ins st.base l st.W⟩)=some L:=by
  unfold rfE at h
  split at h
  case h_2=>cases h
  rename_i r hg
  refine ⟨r,hg,?_,?_⟩
  · intro q;rw [q] at h;cases h
  · split at h
    · cases h
    · rw [wtK_eq] at h;exact h
theorem rfE_mono (hr:RecMono rec) {ro:Option Nat} {N:Nat} {env:Tr SV} {ds0:List Nat} {l:Nat} {L:List Out} (h:rfE rec ro N env ds0 l st=some L):∀ o∈L,Mono st o.2.2.2∧(l∈o.2.2.2.R∨st.base≤l):=by
  obtain ⟨r,h1,h2,h3⟩:=rfE_some h
  intro o ho
  have m:Mono (⟨st.h.set l (some (.loop { r with state:=.exhausted })),st.nx,st.base,ins st.base l st.R,ins st.base l st.W⟩:St) o.2.2.2:=by
    split at h3
    · simp only [Option.some.injEq] at h3
      subst h3
      rw [List.mem_singleton] at ho
      subst ho
      exact Mono.refl _
    · exact hr _ _ _ _ _ _ _ h3 o ho
  have ms:Mono st ⟨st.h.set l (some (.loop { r with state:=.exhausted })),st.nx,st.base,ins st.base l st.R,ins st.base l st.W⟩:=⟨Nat.le_refl _,rfl,ins_sub _ _ _,fun y _=>KeepL.set (by rw [h1];simp) (fun q e=>by
    simp only [SO.loop.injEq] at e
    subst e
    exact ⟨_,h1,rfl,rfl,rfl,rfl,rfl,rfl⟩) y⟩
  refine ⟨ms.trans m,?_⟩
  rcases ins_has st.base l st.R with q | q
  · exact .inl (m.R l q)
  · exact .inr q
theorem rfB_some {ro:Option Nat} {N:Nat} {g:Operand} {env:Tr SV} {ds0:List Nat} {l:Nat} {L:List Out} (h:rfB P sm rec ro N g env ds0 l st=some L):∃ f first cap L3,svOp env g=.fn f first cap∧exF P sm rec f (appS first (.yield l::cap)) st=some L3∧mapB (fun p=>rfE rec ro N env ds0 l p.2) L3=some L:=by
  unfold rfB at h
  split at h
  case h_2=>cases h
  rename_i f first cap hsv
  split at h
  case h_2=>cases h
  rename_i L3 h3
  exact ⟨f,first,cap,L3,hsv,h3,h⟩
theorem rfB_mono (hr:RecMono rec) (hsm:SumMono sm) {ro:Option Nat} {N:Nat} {g:Operand} {env:Tr SV} {ds0:List Nat} {l:Nat} {L:List Out} (h:rfB P sm rec ro N g env ds0 l st=some L):∀ o∈L,Mono st o.2.2.2∧(l∈o.2.2.2.R∨st.base≤l):=by
  obtain ⟨f,first,cap,L3,h1,h2,h3⟩:=rfB_some h
  intro o ho
  obtain ⟨p,hp,lx,e1,e2⟩:=(mapB_mem h3).2 o ho
  have m:=exF_mono hr hsm h2 p hp
  obtain ⟨g1,g2⟩:=rfE_mono hr e1 o e2
  exact ⟨m.trans g1,by rw [← m.base];exact g2⟩
theorem rfS_mono (hr:RecMono rec) (hsm:SumMono sm) {ro:Option Nat} {N:Nat} {g:Operand} {ps:Array Tmp} {assign body:Code} {env:Tr SV} {ds:List Nat} {L:List Out} (h:rfS P sm rec ro N g ps assign body env ds st=some L):∀ o∈L,Mono st o.2.2.2:=by
  intro o ho
  unfold rfS at h
  split at h
  · refine Mono.new h ?_
    intro d st1 h
    refine Mono.new h ?_
    intro l st2 h
    exact (rfB_mono hr hsm h o ho).1
  · rename_i l0
    split at h
    · rename_i r0 hg
      rw [insK_eq,newK_eq] at h
      have:=(rfB_mono hr hsm h o ho).1
      exact ⟨Nat.le_trans (Nat.le_succ _) this.nx,this.base,fun x hx=>this.R x (ins_sub _ _ _ x hx),fun x hx=>(KeepL.new hx).trans (this.lp x (Nat.lt_succ_of_lt hx))⟩
    · cases h
theorem outs1 {o o':Out} {L:List Out} (h:some [o']=some L) (ho:o∈L):o=o':=by
  simp only [Option.some.injEq] at h
  subst h
  rwa [List.mem_singleton] at ho
theorem thnS_mono (hr:RecMono rec) {ro:Option Nat} {N:Nat} {y:Code} {o:Out} {L:List Out} (h:thnS rec ro N y o=some L):∀ o'∈L,Mono o.2.2.2 o'.2.2.2:=by
  obtain ⟨e,env',ds',st1⟩:=o
  intro o' ho'
  cases e <;> simp only [thnS] at h
  · exact hr _ _ _ _ _ _ _ h o' ho'
  all_goals (rw [outs1 h ho'];exact Mono.refl _)
theorem stepC_mono (hr:RecMono rec) (hsm:SumMono sm):RecMono (stepC P sm rec):=by
  intro ro N c env ds st L h o ho
  cases c <;> simp only [stepC] at h
  case skip=>rw [outs1 h ho];exact Mono.refl _
  case region id ops draw =>
    split at h
    · split at h
      · rename_i L1 h1
        obtain ⟨p,hp,lx,e1,e2⟩:=(mapB_mem h).2 o ho
        rw [outs1 e1 e2]
        exact exL_mono hr hsm h1 p hp
      · cases h
    · split at h
      · rename_i p h1
        rw [outs1 h ho]
        exact exD_mono hr hsm h1
      · cases h
  case seq x y =>
    split at h
    · rename_i L1 h1
      obtain ⟨p,hp,lx,e1,e2⟩:=(mapB_mem h).2 o ho
      exact (hr _ _ _ _ _ _ _ h1 p hp).trans (thnS_mono hr e1 o e2)
    · cases h
  case cond c x y =>
    split at h
    · exact hr _ _ _ _ _ _ _ h o ho
    · exact hr _ _ _ _ _ _ _ h o ho
    · cases h
  case block id b =>
    split at h
    · rename_i L1 h1
      obtain ⟨p,hp,lx,e1,e2⟩:=(mapB_mem h).2 o ho
      refine (hr _ _ _ _ _ _ _ h1 p hp).trans ?_
      obtain ⟨e,env',ds',st1⟩:=p
      cases e <;> simp only [blkS] at e1
      case ext i =>
        refine Mono.bif e1 ?_ ?_ <;> intro h <;> (rw [outs1 h e2];exact Mono.refl _)
      all_goals (rw [outs1 e1 e2];exact Mono.refl _)
    · cases h
  case loop b =>
    split at h
    · rename_i L1 h1
      obtain ⟨p,hp,lx,e1,e2⟩:=(mapB_mem h).2 o ho
      exact (hr _ _ _ _ _ _ _ h1 p hp).trans (thnS_mono hr e1 o e2)
    · cases h
  case rangeFunc g ps assign body=>exact rfS_mono hr hsm h o ho
  case exit id=>rw [outs1 h ho];exact Mono.refl _
  case scope b =>
    split at h
    · rename_i L1 h1
      obtain ⟨p,hp,lx,e1,e2⟩:=(mapB_mem h).2 o ho
      refine (hr _ _ _ _ _ _ _ h1 p hp).trans ?_
      obtain ⟨e,env',ds',st1⟩:=p
      cases e <;> simp only [scoS] at e1 <;> first
        | (cases e1;done)
        | (rw [outs1 e1 e2];exact Mono.refl _)
    · cases h
  case label l=>rw [outs1 h ho];exact Mono.refl _
  case goto l=>rw [outs1 h ho];exact Mono.refl _
  case ret=>rw [outs1 h ho];exact Mono.refl _
  case refuse=>cases h
/-! ### There is an outcome -/
def RecNE (rec:Rec):Prop:=∀ ro N c env ds st L,rec ro N c env ds st=some L→L≠[]
theorem mapB_ne {α β:Type} {f:α→Option (List β)} {l:List α} {L:List β} (h:mapB f l=some L) (hl:l≠[]) (hf:∀ x lx,f x=some lx→lx≠[]):L≠[]:=by
  obtain ⟨x,r,rfl⟩:=List.exists_cons_of_ne_nil hl
  obtain ⟨lx,e1,e2⟩:=(mapB_mem h).1 x (by simp)
  obtain ⟨y,ry,rfl⟩:=List.exists_cons_of_ne_nil (hf x lx e1)
  exact List.ne_nil_of_mem (e2 y (by simp))
theorem oneL_ne {α:Type} {r:Option α} {L:List α} (h:oneL r=some L):L≠[]:=by
  obtain ⟨p,_,rfl⟩:=oneL_some h
  simp
theorem nxS_ne {x:SV} {L:List (SV × St)} (h:nxS x st=some L):L≠[]:=by
  unfold nxS at h
  split at h
  · split at h
    · rw [insK_eq] at h
      simp only [Option.some.injEq] at h
      subst h;simp
    · replace h:=(bif_of h).2
      obtain ⟨es,c,_,h⟩:=rdMK_some h
      replace h:=(bif_of h).2
      split at h
      · rw [insK_eq] at h
        simp only [Option.some.injEq] at h
        subst h;simp
      · exact List.ne_nil_of_mem (outsS_at h _ List.mem_cons_self)
    · cases h
  · cases h
theorem exF_ne (hr:RecNE rec) {f:FuncId} {args:List SV} {L:List (SV × St)} (h:exF P sm rec f args st=some L):L≠[]:=by
  unfold exF at h
  split at h
  · exact oneL_ne h
  · split at h
    · split at h
      · refine Mono.bif h ?_ ?_ <;> intro h
        · obtain ⟨env,h⟩:=envK_some h
          split at h
          · rename_i L0 hL0
            split at h
            · rename_i R hR
              simp only [Option.some.injEq] at h
              subst h
              exact joinL_ne (mapB_ne hR (hr _ _ _ _ _ _ _ hL0) fun _ _=>oneL_ne)
            · cases h
          · cases h
        · cases h
      · cases h
    · cases h
theorem exYb_ne (hr:RecNE rec) {l:Nat} {r:SLoop} {env:Tr SV} {L:List (SV × St)} (h:exYb rec l r env st=some L):L≠[]:=by
  obtain ⟨env1,ds1,st1,r1,L3,h1,hg1,hready,h3,h4⟩:=exYb_some h
  exact mapB_ne h4 (hr _ _ _ _ _ _ _ h3) fun _ _=>oneL_ne
theorem exO_ne (hr:RecNE rec) {env:Tr SV} {o:Oper} {L:List (SV × St)} (h:exO P sm rec env o st=some L):L≠[]:=by
  unfold exO at h
  split at h
  · split at h
    · exact oneL_ne h
    · split at h
      · exact exF_ne hr h
      · unfold exY at h
        split at h
        · obtain ⟨env,h⟩:=putsK_some h
          exact exYb_ne hr h
        · cases h
      · cases h
    · cases h
  · split at h
    · exact nxS_ne h
    · cases h
  · exact oneL_ne h
theorem exL_ne (hr:RecNE rec) {N:Nat} {ops:List Oper}:∀ {l:List Oper} {env:Tr SV} {st:St} {L:List (Tr SV × St)},exL P sm rec N ops l env st=some L→L≠[]
  | [],env,st,L,h=>by
    simp only [exL,Option.some.injEq] at h
    subst h;simp
  | o::l,env,st,L,h=>by
    simp only [exL] at h
    split at h
    · split at h
      · rename_i L1 h1
        refine mapB_ne h (exO_ne hr h1) ?_
        intro p lx e1
        obtain ⟨env1,_,e1⟩:=putK_some e1
        exact exL_ne hr e1
      · cases h
    · obtain ⟨env1,_,h⟩:=putK_some h
      exact exL_ne hr h
    · cases h
theorem rfE_ne (hr:RecNE rec) {ro:Option Nat} {N:Nat} {env:Tr SV} {ds0:List Nat} {l:Nat} {L:List Out} (h:rfE rec ro N env ds0 l st=some L):L≠[]:=by
  obtain ⟨r,h1,h2,h3⟩:=rfE_some h
  split at h3
  · simp only [Option.some.injEq] at h3
    subst h3;simp
  · exact hr _ _ _ _ _ _ _ h3
theorem rfB_ne (hr:RecNE rec) {ro:Option Nat} {N:Nat} {g:Operand} {env:Tr SV} {ds0:List Nat} {l:Nat} {L:List Out} (h:rfB P sm rec ro N g env ds0 l st=some L):L≠[]:=by
  obtain ⟨f,first,cap,L3,h1,h2,h3⟩:=rfB_some h
  exact mapB_ne h3 (exF_ne hr h2) fun _ _=>rfE_ne hr
theorem one_ne {α:Type} {p:α} {L:List α} (h:some [p]=some L):L≠[]:=by
  simp only [Option.some.injEq] at h
  subst h;simp
theorem thnS_ne (hr:RecNE rec) {ro:Option Nat} {N:Nat} {y:Code} {o:Out} {L:List Out} (h:thnS rec ro N y o=some L):L≠[]:=by
  obtain ⟨e,env',ds',st1⟩:=o
  cases e <;> simp only [thnS] at h
  · exact hr _ _ _ _ _ _ _ h
  all_goals exact one_ne h
theorem blkS_ne {id:Nat} {o:Out} {L:List Out} (h:blkS id o=some L):L≠[]:=by
  obtain ⟨e,env',ds',st1⟩:=o
  cases e <;> simp only [blkS] at h
  case ext i=>refine Mono.bif h ?_ ?_ <;> intro h <;> exact one_ne h
  all_goals exact one_ne h
theorem scoS_ne {o:Out} {L:List Out} (h:scoS o=some L):L≠[]:=by
  obtain ⟨e,env',ds',st1⟩:=o
  cases e <;> simp only [scoS] at h <;> first
    | (cases h;done)
    | exact one_ne h
theorem stepC_ne (hr:RecNE rec):RecNE (stepC P sm rec):=by
  intro ro N c env ds st L h
  cases c <;> simp only [stepC] at h
  case skip=>exact one_ne h
  case region id ops draw =>
    split at h
    · split at h
      · rename_i L1 h1
        exact mapB_ne h (exL_ne hr h1) fun _ _=>one_ne
      · cases h
    · split at h
      · exact one_ne h
      · cases h
  case seq x y =>
    split at h
    · rename_i L1 h1
      exact mapB_ne h (hr _ _ _ _ _ _ _ h1) fun _ _=>thnS_ne hr
    · cases h
  case cond c x y =>
    split at h
    · exact hr _ _ _ _ _ _ _ h
    · exact hr _ _ _ _ _ _ _ h
    · cases h
  case block id b =>
    split at h
    · rename_i L1 h1
      exact mapB_ne h (hr _ _ _ _ _ _ _ h1) fun _ _=>blkS_ne
    · cases h
  case loop b =>
    split at h
    · rename_i L1 h1
      exact mapB_ne h (hr _ _ _ _ _ _ _ h1) fun _ _=>thnS_ne hr
    · cases h
  case rangeFunc g ps assign body =>
    unfold rfS at h
    split at h
    · simp only [newK_eq] at h
      exact rfB_ne hr h
    · split at h
      · rw [insK_eq,newK_eq] at h
        exact rfB_ne hr h
      · cases h
  case exit id=>exact one_ne h
  case scope b =>
    split at h
    · rename_i L1 h1
      exact mapB_ne h (hr _ _ _ _ _ _ _ h1) fun _ _=>scoS_ne
    · cases h
  case label l=>exact one_ne h
  case goto l=>exact one_ne h
  case ret=>exact one_ne h
  case refuse=>cases h
end
end Go.TX
namespace Go.TX
open Go Go.TH
noncomputable section
variable {P:Program} {sm:Sums} {rec:Rec} {D:Nat→Prop} {ρ ρ' ρ1:Ren} {st st' st1 st2:St} {w w' w1:World}

def DsR (ρ:Ren):List Nat→List Deferred→Prop
  | [],l=>l=[]
  | d::ds,l=>∃ x s r,l=TH.mark x::r∧ρ d=some (x,s)∧DsR ρ ds r
theorem DsR.mono (h:ρ.Le ρ'):∀ {ds:List Nat} {l:List Deferred},DsR ρ ds l→DsR ρ' ds l
  | [],_,hd=>hd
  | _::_,_,⟨x,s,r,e1,e2,e3⟩=>⟨x,s,r,e1,h _ _ e2,e3.mono h⟩
def RoR (ρ:Ren):Option Nat→Option Nat→Prop
  | none,rb=>rb=none
  | some l,rb=>∃ b s,ρ l=some (b,s)∧rb=some b
theorem RoR.mono (h:ρ.Le ρ'):∀ {ro rb:Option Nat},RoR ρ ro rb→RoR ρ' ro rb
  | none,_,hr=>hr
  | some _,_,⟨b,s,e1,e2⟩=>⟨b,s,h _ _ e1,e2⟩
def fwd (r:Option Nat):Fence:={ Fence.wide with round:=r }
def exOf:Ex→Exit
  | .nrm=>.normal
  | .ext id=>.exit id
  | .gto l=>.goto l
  | .ret=>.ret
/-- what is asked behind a code, of an outcome -/
def PostC (ρ:Ren) (D:Nat→Prop) (N:Nat) (st:St) (w:World) (o:Out) (e':Exit) (a':Act) (w':World):Prop :=
  e'=exOf o.1∧∃ ρ',EnvR ρ' N o.2.1 a'.tmps∧DsR ρ' o.2.2.1 a'.defers∧Step ρ ρ' D st o.2.2.2 w w'
def CodeOK (P:Program) (rec:Rec):Prop:=∀ ro N c env ds st L,rec ro N c env ds st=some L →
  ∀ (ρ:Ren) (D:Nat→Prop) (w:World) (a:Act) (rb:Option Nat),EnvR ρ N env a.tmps→DsR ρ ds a.defers→RoR ρ ro rb→Sim ρ D st w→(∀ o∈L,∀ x,x∈o.2.2.2.R∨st.base≤x→D x)→(∀ o∈L,Free ρ st.nx o.2.2.2.nx) →
    c.wpIn (fwd rb) 0 P (fun e' a' w'=>∃ o∈L,PostC ρ D N st w o e' a' w') a w
def FunOK (P:Program) (f:FuncId) (args:List SV) (st:St) (L:List (SV × St)):Prop :=
  ∀ (ρ:Ren) (D:Nat→Prop) (w:World) (us:List Value),RelL ρ args us→Sim ρ D st w→(∀ p∈L,∀ x,x∈p.2.R∨st.base≤x→D x)→(∀ p∈L,Free ρ st.nx p.2.nx) →
    CallsIn Fence.wide 0 P f us.toArray w (fun e w'=>∃ p∈L,∃ u ρ',e=.returned u∧Rel ρ' p.1 u∧Step ρ ρ' D st p.2 w w')
def HasBody (P:Program) (f:FuncId):Prop:=∃ fn c,P.funcs[f]?=some fn∧fn.body=some c
def SumOK (P:Program) (sm:Sums):Prop:=SumMono sm∧∀ f s args st v st',sm f=some s→s args st=some (v,st')→FunOK P f args st [(v,st')]∧HasBody P f
/-- a call of a function with a body enters it -/
def Enters (P:Program):Prop:=∀ f,HasBody P f→∀ (args:Array Value) (w:World),(callFunc f args).run P w=.ok (.enter f args) w

/-! ### One behind the other -/
theorem Step.fst (m:Mono st1 st2) (hD:∀ x,x∈st2.R∨st.base≤x→D x) (hf:Free ρ st.nx st2.nx):(∀ x,x∈st1.R∨st.base≤x→D x)∧Free ρ st.nx st1.nx :=
  ⟨fun x hx=>hD x (by rcases hx with q | q;exact .inl (m.R x q);exact .inr q),fun x h1 h2=>hf x h1 (Nat.lt_of_lt_of_le h2 m.nx)⟩
theorem Step.snd (h:Step ρ ρ1 D st st1 w w1) (hD:∀ x,x∈st2.R∨st.base≤x→D x) (hf:Free ρ st.nx st2.nx):(∀ x,x∈st2.R∨st1.base≤x→(D x∨st.nx≤x))∧Free ρ1 st1.nx st2.nx :=
  ⟨fun x hx=>.inl (hD x (by rw [h.base] at hx;exact hx)),h.free hf⟩

theorem mapB_fst {α β:Type} {f:α→Option (List β)} {s:α→St} {t:β→St} {l:List α} {L:List β} (h:mapB f l=some L) (hne:∀ a lx,f a=some lx→lx≠[]) (hm:∀ a lx,f a=some lx→∀ b∈lx,Mono (s a) (t b)) (hD:∀ b∈L,∀ x,x∈(t b).R∨st.base≤x→D x) (hf:∀ b∈L,Free ρ st.nx (t b).nx) :
    (∀ a∈l,∀ x,x∈(s a).R∨st.base≤x→D x)∧∀ a∈l,Free ρ st.nx (s a).nx:=by
  have key:∀ a∈l,∃ b∈L,Mono (s a) (t b):=by
    intro a ha
    obtain ⟨lx,e1,e2⟩:=(mapB_mem h).1 a ha
    obtain ⟨b,r,rfl⟩:=List.exists_cons_of_ne_nil (hne a lx e1)
    exact ⟨b,e2 b (by simp),hm a _ e1 b (by simp)⟩
  constructor
  · intro a ha
    obtain ⟨b,hb,m⟩:=key a ha
    exact (Step.fst m (hD b hb) (hf b hb)).1
  · intro a ha
    obtain ⟨b,hb,m⟩:=key a ha
    exact (Step.fst m (hD b hb) (hf b hb)).2
/-- less is known -/
theorem Step.weaken {p J:SV × St} (h:Step ρ ρ' D st p.2 w w') (s:Sub2 st.nx J p) (hz:∀ x,J.2.nx≤x→J.2.h.get x=none):Step ρ ρ' D st J.2 w w':=by
  have hnx:=s.nx
  have hold:∀ x,x<st.nx→J.2.h.get x=p.2.h.get x:=fun x hx=>by
    rcases s.h x (by have:=h.nx;omega) with q | q
    · exact q
    · omega
  have hsome:∀ x,J.2.h.get x≠none→J.2.h.get x=p.2.h.get x:=fun x hx=>by
    by_cases hl:x<J.2.nx
    · rcases s.h x hl with q | q
      · exact q
      · exact absurd q.2 hx
    · exact absurd (hz x (by omega)) hx
  refine ⟨h.os,h.tape,h.output,h.size,by rw [hnx];exact h.nx,s.base.trans h.base,fun x hx=>s.R x (h.sR x hx),fun x hx=>s.W x (h.sW x hx),fun x hx=>h.ext x (by rw [← hnx];exact hx),?_,?_,?_,?_,?_⟩
  · intro b hb
    rcases h.keep b hb with q | ⟨x,z,q1,q2,q3,q4⟩
    · exact .inl q
    · exact .inr ⟨x,z,q1,q2,q3,by rcases q4 with q | q;exact .inl (s.W x q);exact .inr q⟩
  · intro x hx hn
    rw [hold x hx];exact h.dead x hx hn
  · intro x hx
    rw [hold x hx]
    rcases h.same x hx with q | q
    · exact .inl (by rcases q with q | q;exact .inl (s.W x q);exact .inr q)
    · exact .inr q
  · intro x b z hx hg hr
    rw [hsome x hg] at hg
    rcases h.fresh x b z hx hg hr with q | ⟨y,z',q1,q2,q3,q4,q5,q6⟩
    · exact .inl q
    · exact .inr ⟨y,z',q1,q2,q3,q4,by rw [hold y q1];exact q5,by rcases q6 with q | q;exact .inl (s.W y q);exact .inr q⟩
  · refine ⟨fun x o d g=>?_,fun x y b z z' d d' g g'=>?_,fun x g=>?_⟩
    · have hs:=hsome x (by rw [g];simp)
      exact h.sim.live x o d (by rw [← hs];exact g)
    · rw [hsome x g] at g
      rw [hsome y g'] at g'
      exact h.sim.inj x y b z z' d d' g g'
    · rw [hsome x g] at g
      rw [hnx];exact h.sim.lt x g

/-! ### Arguments -/
theorem envK_get {β:Type} {r:β}:∀ {l:List SV} {i:Nat} {env:Tr SV} {k:Tr SV→Option β},envK l i env k=some r→∃ env',k env'=some r∧∀ t,env'.get t=if i≤t∧t<i+l.length then l[t-i]? else env.get t
  | [],i,env,k,h=>⟨env,h,fun t=>by rw [if_neg (by simp)]⟩
  | x::l,i,env,k,h=>by
    simp only [envK,Tr.setK_eq] at h
    obtain ⟨env',h1,h2⟩:=envK_get h
    refine ⟨env',h1,fun t=>?_⟩
    rw [h2 t,Tr.get_set]
    by_cases e:t=i
    · subst e
      rw [if_neg (by omega),if_pos rfl,if_pos (by simp)]
      simp
    · by_cases hr:i+1≤t∧t<i+1+l.length
      · rw [if_pos (by simp;omega),if_pos (by simp;omega)]
        have:t-i=(t-(i+1))+1:=by omega
        rw [this,List.getElem?_cons_succ]
      · rw [if_neg (by simp;omega),if_neg e,if_neg (by simp;omega)]
theorem envR_args {args:List SV} {us:List Value} {n:Nat} {env':Tr SV} (h:RelL ρ args us) (hn:args.length≤n) (he:∀ t,env'.get t=if 0≤t∧t<0+args.length then args[t-0]? else (Tr.lf:Tr SV).get t):EnvR ρ n env' (us.toArray++Array.replicate (n-us.toArray.size) undef):=by
  have hl:=h.len
  refine ⟨by simp;omega,fun t=>?_⟩
  rw [he t]
  by_cases ht:t<args.length
  · rw [if_pos (by omega)]
    have hlt:t<us.length:=by omega
    have e1:(us.toArray++Array.replicate (n-us.toArray.size) undef).getD t undef=us[t]:=by
      rw [Array.getD_eq_getD_getElem?,Array.getElem?_append_left (by simpa using hlt)]
      simp [hlt]
    rw [e1,Nat.sub_zero,List.getElem?_eq_getElem ht]
    exact (RelL.iff.1 h).2 t _ _ (by simp [ht]) (by simp [hlt])
  · rw [if_neg (by omega),Tr.get_lf]
    have e1:(us.toArray++Array.replicate (n-us.toArray.size) undef).getD t undef=undef:=by
      rw [Array.getD_eq_getD_getElem?,Array.getElem?_append_right (by simp;omega)]
      rw [Array.getElem?_replicate]
      split <;> rfl
    rw [e1]
    show Rel ρ (.raw undef) undef
    rw [Rel]

/-! ### What a function hands back -/
theorem ldS_ptr {T:TypeId} {p v:SV} (h:ldS P T p st=some (v,st')):∃ x o,p=.ptr x o:=by
  cases p <;> simp only [ldS] at h <;> first | (cases h;done) | exact ⟨_,_,rfl⟩
theorem rvK_ok {N:Nat} {env:Tr SV} {r:ResultVar} {v:SV} {tmps:Array Value} (he:EnvR ρ N env tmps) (h:rvK P env r st=some (v,st')) (hs:Sim ρ D st w) (hD:∀ x,x∈st'.R∨st.base≤x→D x):∃ u,(rvS tmps r).run P w=.ok u w∧Rel ρ v u∧Step ρ ρ D st st' w w:=by
  have hsv:∀ t,Rel ρ (svOp env (.tmp t)) (tmps.getD t undef):=fun t=>svOp_rel (a:=⟨tmps,[]⟩) he (.tmp t)
  cases r with
  | tmp t =>
    simp only [rvK,Option.some.injEq,Prod.mk.injEq] at h
    obtain ⟨rfl,rfl⟩:=h
    exact ⟨_,rfl,hsv t,Step.refl hs⟩
  | cell b T =>
    simp only [rvK] at h
    obtain ⟨x,o,hx⟩:=ldS_ptr h
    have hr:=hsv b
    have hd:=ldS_ok1 hr h hs hD
    rw [hx,Rel] at hr
    obtain ⟨B,s,_,hu⟩:=hr
    obtain ⟨u,h1,h2,h3⟩:=hd
    refine ⟨u,?_,h2,h3⟩
    rw [hu] at h1
    simp only [rvS,hu]
    simpa [Instr.loadAt,Instr.sureAddr,asAddr] using h1
theorem resK_ok {N:Nat} {env:Tr SV} {r:SV × St} {tmps:Array Value}:∀ {rs:List ResultVar} {D:Nat→Prop} {st:St} {k:List SV→St→Option (SV × St)},(∀ l s,k l s=some r→s=r.2)→resK P env rs st k=some r→EnvR ρ N env tmps→Sim ρ D st w→(∀ x,x∈r.2.R∨st.base≤x→D x)→Free ρ st.nx r.2.nx →
    ∃ l us,k l r.2=some r∧(rs.mapM (rvS tmps)).run P w=.ok us w∧RelL ρ l us∧Step ρ ρ D st r.2 w w
  | [],D,st,k,hk,h,he,hs,hD,hf=>by
    simp only [resK] at h
    have:=hk _ _ h
    subst this
    exact ⟨[],[],h,by simp,RelL.nil,Step.refl hs⟩
  | x::rs,D,st,k,hk,h,he,hs,hD,hf=>by
    simp only [resK] at h
    split at h
    case h_2=>cases h
    rename_i v1 st1 h1
    have hm:Mono st1 r.2:=Mono.res h fun l s hs=>by have:=hk _ _ hs;rw [this];exact Mono.refl _
    obtain ⟨d1,f1⟩:=Step.fst (D:=D) (ρ:=ρ) (st:=st) hm hD hf
    obtain ⟨u,e1,e2,e3⟩:=rvK_ok he h1 hs d1
    obtain ⟨d2,f2⟩:=e3.snd hD hf
    obtain ⟨l,us,g1,g2,g3,g4⟩:=resK_ok (D:=fun x=>D x∨st.nx≤x) (k:=fun vs st2=>k (v1::vs) st2) (fun l s hs=>hk _ _ hs) h he e3.sim d2 f2
    refine ⟨v1::l,u::us,g1,?_,RelL.cons e2 g3,e3.trans g4⟩
    rw [List.mapM_cons]
    simp [e1,g2]
/-- at the end: the marks, then the results -/
theorem shut_ok {N:Nat} {env:Tr SV} {fn:Func} {tmps:Array Value} {r:SV × St} {R:Ending→World→Prop} {D:Nat→Prop} {k:St→Option (SV × St)} (hkm:∀ s,k s=some r→Mono s r.2):∀ {ds:List Nat} {dl:List Deferred} {st:St} {w:World},shutK ds st k=some r→DsR ρ ds dl→EnvR ρ N env tmps→Sim ρ D st w→(∀ x,x∈r.2.R∨st.base≤x→D x)→Free ρ st.nx r.2.nx →
    (∀ st3 w3,k st3=some r→Step ρ ρ D st st3 w w3→∃ u,(results fn tmps).run P w3=.ok u w3∧R (.returned u) w3)→LeavesInM Fence.wide 0 P fn tmps R dl .returning w
  | [],dl,st,w,h,hd,he,hs,hD,hf,hfin=>by
    simp only [DsR] at hd
    subst hd
    exact hfin st w h (Step.refl hs)
  | d::ds,dl,st,w,h,hd,he,hs,hD,hf,hfin=>by
    obtain ⟨x,s,rl,rfl,e2,e3⟩:=hd
    simp only [shutK] at h
    split at h
    case h_2=>cases h
    rename_i hg
    rw [wtK_eq] at h
    have hm:=Mono.shut h hkm
    have hdd:D d:=hD d (by
      rcases ins_has st.base d st.R with q | q
      · exact .inl (hm.R d q)
      · exact .inr q)
    obtain ⟨b,s',ob,q1,q2,q3⟩:=hs.live d _ hdd hg
    rw [e2] at q1;cases q1
    simp only [ORel,cond_false] at q3
    subst q3
    have hlt:x<w.heap.size:=(Array.getElem?_eq_some_iff.1 q2).1
    have hstep:Step ρ ρ D st ⟨st.h.set d (some (.dfr true)),st.nx,st.base,ins st.base d st.R,ins st.base d st.W⟩ w { w with heap:=w.heap.setIfInBounds x (.deferred none) } :=
      Step.upd hs hdd (by rw [hg];simp) e2 (o:=.dfr true) (ob:=.deferred none) rfl (ins_sub _ _ _) (ins_sub _ _ _) (ins_has _ _ _) rfl rfl rfl (by simp) (by simp [hlt]) (fun k hk=>by simp [Ne.symm hk])
    refine ⟨by simp,.inl ⟨x,{ w with heap:=w.heap.setIfInBounds x (.deferred none) },rfl,?_,?_⟩⟩
    · simp only [Instr.takeDeferred,Sem.run_bind]
      simp [getObj,setObj,Sem.run,q2,Result.andThen]
    · have hs2:Sim ρ D ⟨st.h.set d (some (.dfr true)),st.nx,st.base,ins st.base d st.R,ins st.base d st.W⟩ { w with heap:=w.heap.setIfInBounds x (.deferred none) }:=hstep.sim.sub fun x d=>.inl d
      refine shut_ok hkm h e3 he hs2 hD hf ?_
      intro st3 w3 hk3 h3
      refine hfin st3 w3 hk3 (hstep.trans ⟨h3.os,h3.tape,h3.output,h3.size,h3.nx,h3.base,h3.sR,h3.sW,h3.ext,fun b hb=>?_,h3.dead,h3.same,fun x b s hx hg hr=>?_,?_⟩)
      · rcases h3.keep b hb with q | ⟨y,s,q1,q2,q3,q4⟩
        · exact .inl q
        · exact .inr ⟨y,s,q1,.inl q2,q3,q4⟩
      · rcases h3.fresh x b s hx hg hr with q | ⟨z,s',q1,q2,q3,q4,q5,q6⟩
        · exact .inl q
        · exact .inr ⟨z,s',q1,q2,.inl q3,q4,q5,q6⟩
      · exact h3.sim.sub fun x d=>by
          rcases d with (d | d) | d
          · exact .inl d
          · exact .inr (Nat.le_trans (Nat.le_refl _) d)
          · exact .inr d
theorem oneOf_rel {l:List SV} {us:List Value} (h:RelL ρ l us):Rel ρ (oneOf l) (if h:us.toArray.size=1 then us.toArray[0] else .tuple us.toArray):=by
  have hl:=h.len
  match l,us,h with
  | [s],[u],h =>
    rw [RelL] at h
    obtain ⟨v,r,e,h1,h2⟩:=h
    cases e
    exact h1
  | [],[],h=>simp only [oneOf,Rel];exact ⟨[],RelL.nil,rfl⟩
  | a::b::l,us,h =>
    have:¬ us.toArray.size=1:=by simp at hl ⊢;omega
    rw [dif_neg this]
    simp only [oneOf,Rel]
    exact ⟨us,h,rfl⟩
  | [],_::_,h=>simp at hl
  | [_],[],h=>simp at hl
  | [_],_::_::_,h=>simp at hl
theorem results_ok {N:Nat} {env:Tr SV} {fn:Func} {tmps:Array Value} {v:SV} (h:(resK P env fn.results.toList st fun vs st3=>some (oneOf vs,st3))=some (v,st')) (he:EnvR ρ N env tmps) (hs:Sim ρ D st w) (hD:∀ x,x∈st'.R∨st.base≤x→D x) (hf:Free ρ st.nx st'.nx) :
    ∃ u,(results fn tmps).run P w=.ok u w∧Rel ρ v u∧Step ρ ρ D st st' w w:=by
  obtain ⟨l,us,g1,g2,g3,g4⟩:=resK_ok (D:=D) (tmps:=tmps) (fun l s hs=>by simp only [Option.some.injEq] at hs;rw [← hs]) h he hs hD hf
  simp only [Option.some.injEq,Prod.mk.injEq] at g1
  refine ⟨_,?_,by rw [← g1.1];exact oneOf_rel g3,g4⟩
  rw [results_rvS]
  have e:fn.results=fn.results.toList.toArray:=rfl
  rw [e,List.mapM_toArray]
  simp [g2]
theorem finS_ok {N:Nat} {fn:Func} {o:Out} {v:SV} {a':Act} {w0:World} {st0:St} {ρ0:Ren} (h:finS P fn o=some (v,st')) (he:EnvR ρ N o.2.1 a'.tmps) (hds:DsR ρ o.2.2.1 a'.defers) (hst:Step ρ0 ρ D st0 o.2.2.2 w0 w) (hD:∀ x,x∈st'.R∨st0.base≤x→D x) (hf:Free ρ0 st0.nx st'.nx)
    {R:Ending→World→Prop} (hR:∀ u w',Rel ρ v u→Step ρ0 ρ D st0 st' w0 w'→R (.returned u) w'):(o.1=.nrm∨o.1=.ret)∧LeavesInM Fence.wide 0 P fn a'.tmps R a'.defers .returning w:=by
  obtain ⟨e,env',ds',st1⟩:=o
  obtain ⟨d2,f2⟩:=hst.snd hD hf
  have tail:∀ {k:St→Option (SV × St)},k=(fun st2=>resK P env' fn.results.toList st2 fun vs st3=>some (oneOf vs,st3))→shutK ds' st1 k=some (v,st')→LeavesInM Fence.wide 0 P fn a'.tmps R a'.defers .returning w:=by
    intro k hk h
    subst hk
    refine shut_ok (r:=(v,st')) (fun s hs=>Mono.res hs fun l s hs=>Mono.fin hs) h hds he hst.sim d2 f2 ?_
    intro st3 w3 h3 hst3
    obtain ⟨d4,f4⟩:=(hst.trans hst3).snd hD hf
    obtain ⟨u,g1,g2,g3⟩:=results_ok h3 he (hst.trans hst3).sim d4 f4
    exact ⟨u,g1,hR u w3 g2 ((hst.trans hst3).trans g3)⟩
  unfold finS at h
  simp only at h
  cases e <;> simp only at h
  · exact ⟨.inl rfl,tail rfl h⟩
  · cases h
  · cases h
  · exact ⟨.inr rfl,tail rfl h⟩
theorem exF_ok (hrm:RecMono rec) (hrn:RecNE rec) (hr:CodeOK P rec) (hsm:SumOK P sm) {f:FuncId} {args:List SV} {L:List (SV × St)} (h:exF P sm rec f args st=some L):FunOK P f args st L∧HasBody P f:=by
  unfold exF at h
  split at h
  · rename_i s hs
    obtain ⟨p,hp,rfl⟩:=oneL_some h
    exact hsm.2 f s args st p.1 p.2 hs hp
  · split at h
    case h_2=>cases h
    rename_i fn hfn
    split at h
    case h_2=>cases h
    rename_i c hb
    refine ⟨?_,fn,c,hfn,hb⟩
    have hlen:=Nat.ble_eq.mp (bif_of h).1
    replace h:=(bif_of h).2
    rw [llen_eq] at hlen
    obtain ⟨env,h,henv⟩:=envK_get h
    split at h
    case h_2=>cases h
    rename_i L0 hL0
    split at h
    case h_2=>cases h
    rename_i R hR
    simp only [Option.some.injEq] at h
    subst h
    intro ρ D w us hrel hs hD hf
    -- before the outcomes are brought together
    have hmR:∀ p∈R,Mono st p.2:=by
      intro p hp
      obtain ⟨o,ho,lx,e1,e2⟩:=(mapB_mem hR).2 p hp
      obtain ⟨p',hp',rfl⟩:=oneL_some e1
      rw [List.mem_singleton] at e2
      subst e2
      obtain ⟨e,env',ds',st2⟩:=o
      exact (hrm _ _ _ _ _ _ _ hL0 _ ho).trans (finS_mono hp')
    have hRD:(∀ p∈R,∀ x,x∈p.2.R∨st.base≤x→D x)∧∀ p∈R,Free ρ st.nx p.2.nx:=by
      constructor
      · intro p hp x hx
        obtain ⟨J,hJ,q⟩:=(joinL_ok hmR).1 p hp
        rcases q with rfl | ⟨q,_⟩
        · exact hD _ hJ x hx
        · exact hD J hJ x (by rcases hx with hx | hx;exact .inl (q.R x hx);exact .inr hx)
      · intro p hp
        obtain ⟨J,hJ,q⟩:=(joinL_ok hmR).1 p hp
        rcases q with rfl | ⟨q,_⟩
        · exact hf _ hJ
        · rw [← q.nx];exact hf J hJ
    obtain ⟨d1,f1⟩:=mapB_fst (s:=fun o:Out=>o.2.2.2) (t:=fun p:SV × St=>p.2) hR (fun _ _=>oneL_ne) (fun o lx e1 b hb=>by
      obtain ⟨p',hp',rfl⟩:=oneL_some e1
      rw [List.mem_singleton] at hb
      subst hb
      obtain ⟨e,env',ds',st2⟩:=o
      exact finS_mono hp') hRD.1 hRD.2
    have hE:=envR_args (n:=fn.ntmps) hrel hlen henv
    refine callsIn_of_wp_marks hfn hb trivial ?_
    have hc:=hr none fn.ntmps c env [] st L0 hL0 ρ D w { tmps:=us.toArray++Array.replicate (fn.ntmps-us.toArray.size) undef,defers:=[] } none hE rfl rfl hs d1 f1
    refine wpIn_mono hc ?_
    rintro e' a' w' ⟨o,ho,he',ρ1,he1,hd1,hst1⟩
    obtain ⟨lx,e1,e2⟩:=(mapB_mem hR).1 o ho
    obtain ⟨p,hp,rfl⟩:=oneL_some e1
    have hpR:p∈R:=e2 p (by simp)
    obtain ⟨hx,hl⟩:=finS_ok (a':=a') (w:=w') (D:=D) (R:=fun e w'=>∃ p∈joinL st.nx R,∃ u ρ',e=.returned u∧Rel ρ' p.1 u∧Step ρ ρ' D st p.2 w w') hp he1 hd1 hst1 (hRD.1 p hpR) (hRD.2 p hpR) (by
      intro u w3 hu hst3
      obtain ⟨J,hJ,q⟩:=(joinL_ok hmR).1 p hpR
      rcases q with rfl | ⟨q,hz⟩
      · exact ⟨_,hJ,u,ρ1,rfl,hu,hst3⟩
      · exact ⟨J,hJ,u,ρ1,rfl,by rw [q.v];exact hu,hst3.weaken q hz⟩)
    rcases hx with hx | hx <;> rw [hx] at he' <;> subst he' <;> exact hl
end
end Go.TX
namespace Go.TX
open Go Go.TH
noncomputable section
variable {P:Program} {sm:Sums} {rec:Rec} {D:Nat→Prop} {ρ ρ' ρ1:Ren} {st st' st1 st2:St} {w w' w1:World} {N:Nat}

/-! ### Operations -/
theorem OpOK.of_did {F:Fence} (hF:∀ f,F.fn f) {o:Oper} {env:Tr SV} {L:List (SV × St)} (hd:∀ c,o.op≠.defer c) (h:∀ (ρ:Ren) (D:Nat→Prop) (w:World) (a:Act),EnvR ρ N env a.tmps→Sim ρ D st w→(∀ p∈L,∀ x,x∈p.2.R∨st.base≤x→D x)→(∀ p∈L,Free ρ st.nx p.2.nx)→∃ p∈L,OpDid P ρ D st p.2 w p.1 (execOp a.eval o)):OpOK P F N o env st L:=by
  intro ρ D w a K Q he hs hD hf hK
  refine ⟨fun f _=>hF f,?_⟩
  rw [Oper.semAt_eq _ _ _ hd]
  obtain ⟨p,hp,u,w',ρ',h1,h2,h3⟩:=h ρ D w a he hs hD hf
  rcases h1 with h1 | ⟨h1,rfl⟩
  · rw [h1];exact hK p hp u w' ρ' h2 h3
  · rw [h1];exact hK p hp undef w' ρ' h2 h3
theorem OpOK.of_one {F:Fence} (hF:∀ f,F.fn f) {o:Oper} {env:Tr SV} {r:Option (SV × St)} {L:List (SV × St)} (hd:∀ c,o.op≠.defer c) (hL:oneL r=some L) (h:∀ (v:SV) (st':St) (ρ:Ren) (D:Nat→Prop) (w:World) (a:Act),r=some (v,st')→EnvR ρ N env a.tmps→Sim ρ D st w→(∀ x,x∈st'.R∨st.base≤x→D x)→Free ρ st.nx st'.nx→OpDid P ρ D st st' w v (execOp a.eval o)):OpOK P F N o env st L:=by
  obtain ⟨p,hp,rfl⟩:=oneL_some hL
  exact OpOK.of_did hF hd fun ρ D w a he hs hD hf=>⟨p,by simp,h p.1 p.2 ρ D w a hp he hs (hD p (by simp)) (hf p (by simp))⟩
theorem appS_eq:∀ (l r:List SV),appS l r=l++r
  | [],_=>rfl
  | x::l,r=>by simp [appS,appS_eq l r]
theorem upon_enter {ro:Option Nat} {o:Oper} {a:Act} {K:Act→World→Prop} {Q:Exit→Act→World→Prop} {f:FuncId} {args:Array Value} {w:World} {R:Ending→World→Prop} (h:CallsIn Fence.wide 0 P f args w R) (hR:∀ e w',R e w'→∃ v,e=.returned v∧K (a.put o.dst v) w'):o.uponIn (fwd ro) 0 P a K Q (.ok (.enter f args) w):=by
  refine ⟨fun h=>by simp [fwd,Fence.wide] at h,?_⟩
  refine CallsIn.mono (callsIn_round (ro:=ro) h) ?_
  intro e w' hr
  obtain ⟨v,rfl,hk⟩:=hR e w' hr
  exact hk
/-- a step of which only a loop's record is changed -/
theorem Step.loop (hs:Sim ρ D st w) {l b:Nat} {s:Nat × Nat} {r r':SLoop} {q q':Loop} {R W:List Nat} (hd:D l) (hg:st.h.get l=some (.loop r)) (hx:ρ l=some (b,s)) (hb:w.heap[b]?=some (.loop q)) (ho:ORel ρ s (.loop r') (.loop q')) (hR:∀ x,x∈st.R→x∈R) (hW:∀ x,x∈st.W→x∈W) (hxW:l∈W∨st.base≤l) :
    Step ρ ρ D st ⟨st.h.set l (some (.loop r')),st.nx,st.base,R,W⟩ w (w.putObj b (.loop q')):=by
  have hlt:b<w.heap.size:=(Array.getElem?_eq_some_iff.1 hb).1
  exact Step.upd hs hd (by rw [hg];simp) hx ho hR hW hxW rfl rfl rfl (by simp) (World.putObj_heap_same hlt) (fun k hk=>World.putObj_heap_other hk)
theorem putsK_get {β:Type} {r:β}:∀ {ts:List Tmp} {xs:List SV} {us:List Value} {env:Tr SV} {tmps:Array Value} {k:Tr SV→Option β},putsK ts xs N env k=some r→RelL ρ xs us→EnvR ρ N env tmps→∃ env',k env'=some r∧xs.length=ts.length∧EnvR ρ N env' ((ts.zip us).foldl (fun tmps (t,a)=>tmps.setIfInBounds t a) tmps)
  | [],[],us,env,tmps,k,h,hr,he=>by
    rw [RelL] at hr;subst hr
    exact ⟨env,h,rfl,he⟩
  | [],_::_,_,env,tmps,k,h,_,_=>by simp [putsK] at h
  | _::_,[],_,env,tmps,k,h,_,_=>by simp [putsK] at h
  | t::ts,x::xs,us,env,tmps,k,h,hr,he=>by
    rw [RelL] at hr
    obtain ⟨u,us',rfl,h1,h2⟩:=hr
    simp only [putsK] at h
    have ht:=Nat.blt_eq.mp (bif_of h).1
    replace h:=(bif_of h).2
    rw [Tr.setK_eq] at h
    have he':=EnvR.put (a:=⟨tmps,[]⟩) he ht h1
    simp only [Act.put] at he'
    obtain ⟨env',g1,g2,g3⟩:=putsK_get h h2 he'
    exact ⟨env',g1,by simp [g2],by simpa using g3⟩
/-- a round -/
theorem exY_ok (hrm:RecMono rec) (hrn:RecNE rec) (hr:CodeOK P rec) {l:Nat} {args:List SV} {L:List (SV × St)} (h:exY rec l args st=some L) {us:List Value} {lb:Nat} {s:Nat × Nat} (hl:ρ l=some (lb,s)) (hrel:RelL ρ args us) (hs:Sim ρ D st w) (hD:∀ p∈L,∀ x,x∈p.2.R∨st.base≤x→D x) (hf:∀ p∈L,Free ρ st.nx p.2.nx) :
    ∃ f tmps assign body,(Instr.yield lb us.toArray).run P w=.ok (.round lb f tmps assign body) w∧RoundIn Fence.wide 0 P lb f tmps assign body w (fun e w'=>∃ p∈L,∃ u ρ',e=.returned u∧Rel ρ' p.1 u∧Step ρ ρ' D st p.2 w w'):=by
  unfold exY at h
  split at h
  case h_2=>cases h
  rename_i r hg
  obtain ⟨envx,hx⟩:=putsK_some h
  obtain ⟨p0,rp,hL0⟩:=List.exists_cons_of_ne_nil (exYb_ne hrn hx)
  have hp0:p0∈L:=by rw [hL0];simp
  have hDl:D l:=hD p0 hp0 l (exYb_mono hrm hx p0 hp0).2
  obtain ⟨b0,s0,ob,q1,q2,q3⟩:=hs.live l _ hDl hg
  rw [hl] at q1;cases q1
  obtain ⟨fn,tmps,dx,sx,rfl,qe,qd⟩:=q3
  obtain ⟨env0,hk,hlen,hE⟩:=putsK_get h hrel qe
  obtain ⟨env1,ds1,st1,r1,L3,h1,hg1,hready,h3,h4⟩:=exYb_some hk
  have m1:=hrm _ _ _ _ _ _ _ h1 _ List.mem_cons_self
  obtain ⟨stb,hstb⟩:∃ stb:St,stb=⟨st1.h.set l (some (.loop { r1 with state:=.busy })),st1.nx,st1.base,ins st1.base l st1.R,ins st1.base l st1.W⟩:=⟨_,rfl⟩
  rw [← hstb] at h3
  have mset:∀ {s:St} {r r':SLoop},s.h.get l=some (.loop r)→Imm r r'→Mono s ⟨s.h.set l (some (.loop r')),s.nx,s.base,ins s.base l s.R,ins s.base l s.W⟩:=fun hg i=>⟨Nat.le_refl _,rfl,ins_sub _ _ _,fun y _=>KeepL.set (by rw [hg];simp) (fun q e=>by
    simp only [SO.loop.injEq] at e
    subst e
    exact ⟨_,hg,i⟩) y⟩
  have m2:Mono st1 stb:=by rw [hstb];exact mset (r':={ r1 with state:=.busy }) hg1 ⟨rfl,rfl,rfl,rfl,rfl,rfl⟩
  have hend:∀ (o:Out) (lx:List (SV × St)),oneL (yEnd l o)=some lx→∀ p∈lx,Mono o.2.2.2 p.2:=by
    intro o lx e1 p hp
    obtain ⟨p',hp',rfl⟩:=oneL_some e1
    rw [List.mem_singleton] at hp
    subst hp
    obtain ⟨v,s'⟩:=p
    obtain ⟨r3,jump,hg3,hj,hv,rfl⟩:=yEnd_some hp'
    exact mset hg3 ⟨rfl,rfl,rfl,rfl,rfl,rfl⟩
  obtain ⟨d3,f3⟩:=mapB_fst (s:=fun o:Out=>o.2.2.2) (t:=fun p:SV × St=>p.2) h4 (fun _ _=>oneL_ne) hend hD hf
  obtain ⟨o0,ro,hL3⟩:=List.exists_cons_of_ne_nil (hrn _ _ _ _ _ _ _ h3)
  have ho0:o0∈L3:=by rw [hL3];simp
  have mb:Mono st1 o0.2.2.2:=m2.trans (hrm _ _ _ _ _ _ _ h3 o0 ho0)
  obtain ⟨d1,f1⟩:=Step.fst (D:=D) (ρ:=ρ) (st:=st) mb (d3 o0 ho0) (f3 o0 ho0)
  have hul:=hrel.len
  refine ⟨_,_,_,_,run_yield q2 (by simp only [List.size_toArray];rw [← Array.length_toList];omega),roundIn_of_wpIn trivial ?_⟩
  have hz:(r.params.zip us.toArray).foldl (fun tmps (t,a)=>tmps.setIfInBounds t a) tmps=(r.params.toList.zip us).foldl (fun tmps (t,a)=>tmps.setIfInBounds t a) tmps:=by
    rw [← Array.foldl_toList,Array.toList_zip]
  rw [hz]
  refine wpIn_mono (hr (some l) r.N r.assign env0 [] st _ h1 ρ D w ⟨_,[]⟩ (some lb) hE rfl ⟨lb,s,hl,rfl⟩ hs (fun o ho=>by rw [List.mem_singleton] at ho;subst ho;exact d1) (fun o ho=>by rw [List.mem_singleton] at ho;subst ho;exact f1)) ?_
  rintro e' a1 w1 ⟨o1,ho1,he',ρ1,he1,hd1,hst1⟩
  rw [List.mem_singleton] at ho1
  subst ho1
  subst he'
  show ∃ w₂,_∧_
  have hle1:=hst1.le f1
  obtain ⟨b1,s1,ob1,q4,q5,q6⟩:=hst1.sim.live l _ (.inl hDl) hg1
  rw [hle1 _ _ hl] at q4;cases q4
  obtain ⟨fn1,tmps1,dx1,sx1,rfl,qe1,qd1⟩:=q6
  obtain ⟨wb,hwb⟩:∃ wb,wb=w1.putObj lb (.loop { (⟨r1.state,r1.pending,fn1,tmps1,r1.params,r1.assign,r1.body,dx1⟩:Loop) with state:=.busy }):=⟨_,rfl⟩
  refine ⟨wb,by rw [hwb];exact run_beginRound q5 hready,?_⟩
  have hs2:Step ρ1 ρ1 (fun x=>D x∨st.nx≤x) st1 stb w1 wb:=by
    rw [hstb,hwb]
    exact Step.loop hst1.sim (.inl hDl) hg1 (hle1 _ _ hl) q5 (r':={ r1 with state:=.busy }) ⟨fn1,tmps1,dx1,sx1,rfl,qe1,qd1⟩ (ins_sub _ _ _) (ins_sub _ _ _) (ins_has _ _ _)
  have hst2:=hst1.trans hs2
  refine wpIn_mono (hr (some l) r.N r.body env1 ds1 stb L3 h3 ρ1 _ _ a1 (some lb) he1 hd1 ⟨lb,s,hle1 _ _ hl,rfl⟩ hst2.sim (fun o ho=>(hst2.snd (d3 o ho) (f3 o ho)).1) (fun o ho=>(hst2.snd (d3 o ho) (f3 o ho)).2)) ?_
  rintro e' a3 w3 ⟨o3,ho3,rfl,ρ3,he3,hd3,hst3⟩
  have hle3:=hst3.le (hst2.snd (d3 o3 ho3) (f3 o3 ho3)).2
  have hst23:=hst2.trans hst3
  obtain ⟨lx,e1,e2⟩:=(mapB_mem h4).1 o3 ho3
  obtain ⟨p,hp,rfl⟩:=oneL_some e1
  have hpL:p∈L:=e2 p (by simp)
  obtain ⟨v,stp⟩:=p
  obtain ⟨r3,jump,hg3,hj,rfl,hst'⟩:=yEnd_some hp
  obtain ⟨b3,s3,ob3,q7,q8,q9⟩:=hst23.sim.live l _ (.inl hDl) hg3
  rw [hle3 _ _ (hle1 _ _ hl)] at q7;cases q7
  obtain ⟨fn3,tmps3,dx3,sx3,rfl,qe3,qd3⟩:=q9
  have hend:∃ v w',(Instr.endRound lb jump).run P w3=.ok v w'∧∃ p∈L,∃ u ρ',Ending.returned v=.returned u∧Rel ρ' p.1 u∧Step ρ ρ' D st p.2 w w':=by
    refine ⟨_,_,run_endRound jump q8,_,hpL,_,ρ3,rfl,by rw [Rel],?_⟩
    refine hst23.trans ?_
    show Step ρ3 ρ3 _ _ stp _ _
    rw [hst']
    exact Step.loop hst23.sim (.inl hDl) hg3 (hle3 _ _ (hle1 _ _ hl)) q8 (r':={ r3 with state:=if jump.isNone then .ready else .done,pending:=jump }) ⟨fn3,tmps3,dx3,sx3,rfl,qe3,qd3⟩ (ins_sub _ _ _) (ins_sub _ _ _) (ins_has _ _ _)
  obtain ⟨e3,env3,ds3,st3⟩:=o3
  cases e3 <;> simp only [jmpOf] at hj <;> subst hj <;> exact hend
/-- one operation -/
theorem exO_ok (hen:Enters P) (hrm:RecMono rec) (hrn:RecNE rec) (hr:CodeOK P rec) (hsm:SumOK P sm) {ro:Option Nat} {o:Oper} {env:Tr SV} {L:List (SV × St)} (h:exO P sm rec env o st=some L):OpOK P (fwd ro) N o env st L:=by
  obtain ⟨dst,op,ty,pos,af,g⟩:=o
  cases op with
  | call c =>
    obtain ⟨callee,args,ats⟩:=c
    cases callee with
    | builtin b =>
      simp only [exO] at h
      refine OpOK.of_one (fun _=>trivial) (by simp) h fun v st' ρ D w a h he hs hD hf=>?_
      have:=biS_ok (cs:=(args.map fun | .const _=>true | _=>false)) (svOps_rel he args.toList) h hs hD hf
      have hmap:args.map a.eval=(args.toList.map a.eval).toArray:=by apply Array.ext';simp
      rw [← hmap] at this
      exact this
    | invoke r n=>simp [exO] at h
    | value x =>
      simp only [exO] at h
      intro ρ D w a K Q he hs hD hf hK
      have hx:=svOp_rel he x
      have hargs:=svOps_rel he args.toList
      have hmap:args.map a.eval=(args.toList.map a.eval).toArray:=by apply Array.ext';simp
      refine ⟨fun _ _=>trivial,?_⟩
      rw [Oper.semAt_eq _ _ _ (by simp)]
      split at h
      · rename_i f first cap hsv
        rw [hsv,Rel] at hx
        obtain ⟨us,vs,h1,h2,h3⟩:=hx
        rw [appS_eq,appS_eq] at h
        obtain ⟨hfun,hbody⟩:=exF_ok hrm hrn hr hsm h
        have hev:(execOp a.eval ⟨dst,.call ⟨.value x,args,ats⟩,ty,pos,af,g⟩).run P w=.ok (.enter f (us++(args.toList.map a.eval++vs)).toArray) w:=by
          have:=hen f hbody (us++(args.toList.map a.eval++vs)).toArray w
          simp [execOp,resolve,h3,Deferred.ofValue,invoke,hmap]
          simpa [Array.append_assoc] using this
        rw [hev]
        refine upon_enter (hfun ρ D w _ (h1.app (hargs.app h2)) hs hD hf) ?_
        rintro e w' ⟨p,hp,u,ρ',rfl,g1,g2⟩
        exact ⟨u,rfl,hK p hp u w' ρ' g1 g2⟩
      · rename_i l hsv
        rw [hsv,Rel] at hx
        obtain ⟨lb,s,h1,h3⟩:=hx
        obtain ⟨f,tmps,assign,body,hy,hround⟩:=exY_ok hrm hrn hr h h1 hargs hs hD hf
        have hev:(execOp a.eval ⟨dst,.call ⟨.value x,args,ats⟩,ty,pos,af,g⟩).run P w=.ok (.round lb f tmps assign body) w:=by
          simp only [execOp,resolve,h3,Deferred.ofValue,invoke,hmap]
          simpa using hy
        rw [hev]
        refine uponIn_round_of (r:=ro) rfl rfl hround ?_
        rintro e w' ⟨p,hp,u,ρ',rfl,g1,g2⟩
        exact ⟨u,rfl,hK p hp u w' ρ' g1 g2⟩
      · cases h
  | defer c=>simp [exO,opS,oneL] at h
  | next x s =>
    cases s with
    | true=>simp [exO] at h
    | false =>
      simp only [exO] at h
      refine OpOK.of_did (fun _=>trivial) (by simp) fun ρ D w a he hs hD hf=>?_
      obtain ⟨p,hp,hd⟩:=nxS_ok (P:=P) (ty:=ty) (svOp_rel he x) h hs hD
      exact ⟨p,hp,OpDid.of hd⟩
  | _ =>
    simp only [exO] at h
    exact OpOK.of_one (fun _=>trivial) (by simp) h fun v st' ρ D w a h he hs hD hf=>opS_ok he h hs hD hf
end
end Go.TX
namespace Go.TX
open Go Go.TH
noncomputable section
variable {P:Program} {sm:Sums} {rec:Rec} {D:Nat→Prop} {ρ ρ' ρ1:Ren} {st st' st1 st2:St} {w w' w1:World} {N:Nat}

/-! ### Regions in their order -/
theorem exL_ok (hen:Enters P) (hrm:RecMono rec) (hrn:RecNE rec) (hr:CodeOK P rec) (hsm:SumOK P sm) {ro:Option Nat} {ops:List Oper}:∀ {l:List Oper} {env:Tr SV} {L:List (Tr SV × St)} {st:St} {ρ:Ren} {D:Nat→Prop} {w:World} {a:Act} {Q:Exit→Act→World→Prop},
    exL P sm rec N ops l env st=some L→EnvR ρ N env a.tmps→Sim ρ D st w→(∀ p∈L,∀ x,x∈p.2.R∨st.base≤x→D x)→(∀ p∈L,Free ρ st.nx p.2.nx) →
    (∀ p∈L,∀ a' w' ρ',a'.defers=a.defers→EnvR ρ' N p.1 a'.tmps→Step ρ ρ' D st p.2 w w'→Q .normal a' w')→wpListIn (fwd ro) 0 P ops.toArray Q l a w
  | [],env,L,st,ρ,D,w,a,Q,h,he,hs,hD,hf,hQ=>by
    simp only [exL,Option.some.injEq] at h
    subst h
    exact hQ _ List.mem_cons_self a w ρ rfl he (Step.refl hs)
  | o::l,env,L,st,ρ,D,w,a,Q,h,he,hs,hD,hf,hQ=>by
    have hdf:∀ u,(a.put o.dst u).defers=a.defers:=fun u=>by cases o.dst <;> rfl
    simp only [exL] at h
    simp only [wpListIn]
    split at h
    · rename_i hw
      rw [if_pos (by rw [wantS_ok he hw])]
      split at h
      case h_2=>cases h
      rename_i L1 h1
      obtain ⟨d1,f1⟩:=mapB_fst (s:=fun p:SV × St=>p.2) (t:=fun p:Tr SV × St=>p.2) h (fun p lx e1=>by
        obtain ⟨env1,_,e1⟩:=putK_some e1
        exact exL_ne hrn e1) (fun p lx e1 b hb=>by
        obtain ⟨env1,_,e1⟩:=putK_some e1
        exact exL_mono hrm hsm.1 e1 b hb) hD hf
      refine exO_ok hen hrm hrn hr hsm h1 ρ D w a _ _ he hs d1 f1 ?_
      intro p hp u w1 ρ1 hv hst1
      obtain ⟨lx,e1,e2⟩:=(mapB_mem h).1 p hp
      obtain ⟨env1,p1,e1⟩:=putK_some e1
      refine exL_ok hen hrm hrn hr hsm e1 (p1.envR (he.mono (hst1.le (f1 p hp))) hv) hst1.sim (fun b hb=>(hst1.snd (hD b (e2 b hb)) (hf b (e2 b hb))).1) (fun b hb=>(hst1.snd (hD b (e2 b hb)) (hf b (e2 b hb))).2) ?_
      intro b hb a' w' ρ' hd' he' hst'
      exact hQ b (e2 b hb) a' w' ρ' (hd'.trans (hdf u)) he' (hst1.trans hst')
    · rename_i hw
      rw [if_neg (by rw [wantS_ok he hw];simp)]
      obtain ⟨env1,p1,h⟩:=putK_some h
      refine ⟨fun _ _=>trivial,exL_ok hen hrm hrn hr hsm h (p1.envR he (by rw [Rel])) hs hD hf ?_⟩
      intro b hb a' w' ρ' hd' he' hst'
      exact hQ b hb a' w' ρ' (hd'.trans (hdf undef)) he' hst'
    · cases h

/-! ### Loops over iterators -/
theorem run_enter_in {l0:Nat} {r0:Loop} (h:w.heap[l0]?=some (.loop r0)) (fn:FuncId) (tmps:Array Value) (ps:Array Tmp) (assign body:Code) :
    (Instr.enterLoop fn tmps ps assign body (some l0)).run P w=.ok (w.heap.size,[]) (w.alloc (.loop { state:=.ready,pending:=none,fn,tmps,params:=ps,assign,body,defers:=r0.defers })):=by
  unfold Instr.enterLoop
  simp only [Sem.run_bind,run_getLoop h,run_newObj_alloc,Result.andThen,Sem.run_pure]
/-- the loop's record is laid: the call, and the jump that is pending -/
theorem rfB_ok (hen:Enters P) (hrm:RecMono rec) (hrn:RecNE rec) (hr:CodeOK P rec) (hsm:SumOK P sm) {ro rb:Option Nat} {g:Operand} {env:Tr SV} {ds0:List Nat} {l lb:Nat} {s:Nat × Nat} {L:List Out} {a:Act} {Q:Exit→Act→World→Prop} {tmps:Array Value}
    (h:rfB P sm rec ro N g env ds0 l st=some L) (he:EnvR ρ N env tmps) (hl:ρ l=some (lb,s)) (hs:Sim ρ D st w) (hD:∀ o∈L,∀ x,x∈o.2.2.2.R∨st.base≤x→D x) (hf:∀ o∈L,Free ρ st.nx o.2.2.2.nx) (hro:RoR ρ ro rb) (ht:a.tmps=tmps) (hds:DsR ρ ds0 a.defers)
    (hQ:∀ o∈L,∀ e' a' w',PostC ρ D N st w o e' a' w'→Q e' a' w') :
    ∃ (d:Deferred) (f:FuncId) (args:Array Value),(∀ a0:Act,a0.tmps=tmps→(resolve a0.eval (rangeCall g lb) 0).run P w=.ok d w)∧(invoke d.target d.args).run P w=.ok (.enter f args) w∧CallsIn Fence.wide 0 P f args w (rangePost (fwd rb) 0 P lb Q a):=by
  obtain ⟨o0,ro0,hL0⟩:=List.exists_cons_of_ne_nil (rfB_ne hrn h)
  have ho0:o0∈L:=by rw [hL0];simp
  have hDl:D l:=hD o0 ho0 l (rfB_mono hrm hsm.1 h o0 ho0).2
  obtain ⟨f,first,cap,L3,h1,h2,h3⟩:=rfB_some h
  rw [appS_eq] at h2
  obtain ⟨hfun,hbody⟩:=exF_ok hrm hrn hr hsm h2
  have hx:=svOp_rel (a:=⟨tmps,[]⟩) he g
  rw [h1,Rel] at hx
  obtain ⟨us,vs,g1,g2,g3⟩:=hx
  have hy:Rel ρ (.yield l) (.func (.yield lb) #[] #[]):=by rw [Rel];exact ⟨lb,s,hl,rfl⟩
  refine ⟨{ target:=.fn (.func f) vs.toArray,args:=us.toArray++#[.func (.yield lb) #[] #[]] },f,(us++(.func (.yield lb) #[] #[]::vs)).toArray,?_,?_,?_⟩
  · intro a0 ha0
    have e0:a0.eval g=.func (.func f) us.toArray vs.toArray:=by
      rw [← g3]
      cases g <;> simp only [Act.eval,ha0]
    simp only [resolve,rangeCall,e0]
    simp [go_sem,Deferred.ofValue,Act.eval]
  · have:=hen f hbody (us++(.func (.yield lb) #[] #[]::vs)).toArray w
    simp only [invoke]
    simpa [Array.append_assoc] using this
  · obtain ⟨d1,f1⟩:=mapB_fst (s:=fun p:SV × St=>p.2) (t:=fun o:Out=>o.2.2.2) h3 (fun _ _=>rfE_ne hrn) (fun p lx e1 b hb=>(rfE_mono hrm e1 b hb).1) hD hf
    refine CallsIn.mono (hfun ρ D w _ (g1.app (RelL.cons hy g2)) hs d1 f1) ?_
    rintro e3 w3 ⟨p,hp,u,ρ3,rfl,_,hst3⟩
    have hle:=hst3.le (f1 p hp)
    obtain ⟨lx,e1,e2⟩:=(mapB_mem h3).1 p hp
    obtain ⟨r,k1,k2,k3⟩:=rfE_some e1
    obtain ⟨b3,s3,ob3,q7,q8,q9⟩:=hst3.sim.live l _ (.inl hDl) k1
    rw [hle _ _ hl] at q7;cases q7
    obtain ⟨fn3,tmps3,dx3,sx3,rfl,qe3,qd3⟩:=q9
    obtain ⟨w4,hw4⟩:∃ w4,w4=w3.putObj lb (.loop { (⟨r.state,r.pending,fn3,tmps3,r.params,r.assign,r.body,dx3⟩:Loop) with state:=.exhausted }):=⟨_,rfl⟩
    have hst4:Step ρ3 ρ3 (fun x=>D x∨st.nx≤x) p.2 ⟨p.2.h.set l (some (.loop { r with state:=.exhausted })),p.2.nx,p.2.base,ins p.2.base l p.2.R,ins p.2.base l p.2.W⟩ w3 w4:=by
      rw [hw4]
      exact Step.loop hst3.sim (.inl hDl) k1 (hle _ _ hl) q8 (r':={ r with state:=.exhausted }) (q':={ (⟨r.state,r.pending,fn3,tmps3,r.params,r.assign,r.body,dx3⟩:Loop) with state:=.exhausted }) ⟨fn3,tmps3,dx3,sx3,rfl,qe3,qd3⟩ (ins_sub _ _ _) (ins_sub _ _ _) (ins_has _ _ _)
    have hst:=hst3.trans hst4
    refine ⟨r.pending,w4,by rw [hw4];exact run_endLoop q8 k2,?_⟩
    have he3:EnvR ρ3 N env a.tmps:=by rw [ht];exact he.mono hle
    have hd3:=hds.mono hle
    split at k3
    · rename_i hpe
      simp only [Option.some.injEq] at k3
      subst k3
      rw [hpe]
      exact hQ _ (e2 _ List.mem_cons_self) _ _ _ ⟨rfl,ρ3,he3,hd3,hst⟩
    · rename_i c hpe
      rw [hpe]
      refine wpIn_mono (hr _ _ _ _ _ _ _ k3 ρ3 _ _ a rb he3 hd3 (hro.mono hle) hst.sim (fun o ho=>(hst.snd (hD o (e2 o ho)) (hf o (e2 o ho))).1) (fun o ho=>(hst.snd (hD o (e2 o ho)) (hf o (e2 o ho))).2)) ?_
      rintro e' a' w' ⟨o,ho,he',ρ',p1,p2,p3⟩
      exact hQ o (e2 o ho) _ _ _ ⟨he',ρ',p1,p2,hst.trans p3⟩
end
end Go.TX
namespace Go.TX
open Go Go.TH
noncomputable section
variable {P:Program} {sm:Sums} {rec:Rec} {D:Nat→Prop} {ρ ρ' ρ1:Ren} {st st' st1 st2:St} {w w' w1:World} {N:Nat}

theorem rfS_ok (hen:Enters P) (hrm:RecMono rec) (hrn:RecNE rec) (hr:CodeOK P rec) (hsm:SumOK P sm) {ro rb:Option Nat} {g:Operand} {ps:Array Tmp} {assign body:Code} {env:Tr SV} {ds:List Nat} {L:List Out} {a:Act}
    (h:rfS P sm rec ro N g ps assign body env ds st=some L) (he:EnvR ρ N env a.tmps) (hds:DsR ρ ds a.defers) (hro:RoR ρ ro rb) (hs:Sim ρ D st w) (hD:∀ o∈L,∀ x,x∈o.2.2.2.R∨st.base≤x→D x) (hf:∀ o∈L,Free ρ st.nx o.2.2.2.nx) :
    (Code.rangeFunc g ps assign body).wpIn (fwd rb) 0 P (fun e' a' w'=>∃ o∈L,PostC ρ D N st w o e' a' w') a w:=by
  refine wpIn_rangeFunc ?_
  intro fn _
  unfold rfS at h
  cases ro with
  | none =>
    simp only [RoR] at hro
    subst hro
    simp only [newK_eq] at h
    obtain ⟨o0,ro0,hL0⟩:=List.exists_cons_of_ne_nil (rfB_ne hrn h)
    have ho0:o0∈L:=by rw [hL0];simp
    have hn1:st.nx+1+1≤o0.2.2.2.nx:=(rfB_mono hrm hsm.1 h o0 ho0).1.nx
    have f0:ρ st.nx=none:=hf o0 ho0 _ (Nat.le_refl _) (by omega)
    have hst1:=Step.new (o:=.dfr false) (ob:=.deferred (some [])) (s:=(0,0)) (w':=w.alloc (.deferred (some []))) hs f0 rfl rfl rfl rfl rfl
    have f1:(ρ.put st.nx w.heap.size (0,0)) (st.nx+1)=none:=by
      unfold Ren.put;rw [if_neg (by omega)];exact hf o0 ho0 _ (by omega) (by omega)
    have hle1:ρ.Le (ρ.put st.nx w.heap.size (0,0)):=Ren.put_le f0
    obtain ⟨lp,hlp⟩:∃ lp:Loop,lp={ state:=.ready,pending:=none,fn,tmps:=a.tmps,params:=ps,assign,body,defers:=w.heap.size }:=⟨_,rfl⟩
    have hle2:=Ren.put_le (b:=(w.alloc (.deferred (some []))).heap.size) (s:=(0,0)) f1
    have hdr:((ρ.put st.nx w.heap.size (0,0)).put (st.nx+1) (w.alloc (.deferred (some []))).heap.size (0,0)) st.nx=some (w.heap.size,(0,0)):=hle2 _ _ Ren.put_at
    have hst2:=Step.new (o:=.loop ⟨.ready,none,N,env,ps,assign,body,st.nx⟩) (ob:=.loop lp) (s:=(0,0)) (w':=(w.alloc (.deferred (some []))).alloc (.loop lp)) hst1.sim f1 ⟨fn,a.tmps,w.heap.size,(0,0),by rw [hlp],(he.mono hle1).mono hle2,hdr⟩ rfl rfl rfl rfl
    have hst:=hst1.trans hst2
    have hlb:((ρ.put st.nx w.heap.size (0,0)).put (st.nx+1) (w.alloc (.deferred (some []))).heap.size (0,0)) (st.nx+1)=some ((w.alloc (.deferred (some []))).heap.size,(0,0)):=Ren.put_at
    have hsz:(w.alloc (.deferred (some []))).heap.size=w.heap.size+1:=by simp
    obtain ⟨d,f,args,g1,g2,g3⟩:=rfB_ok hen hrm hrn hr hsm (rb:=none) (a:={ a with defers:=[TH.mark w.heap.size]++a.defers }) (Q:=fun e' a' w'=>∃ o∈L,PostC ρ D N st w o e' a' w') h ((he.mono hle1).mono hle2) hlb hst.sim (fun o ho=>(hst.snd (hD o ho) (hf o ho)).1) (fun o ho=>(hst.snd (hD o ho) (hf o ho)).2) rfl rfl ⟨w.heap.size,(0,0),a.defers,rfl,hdr,(hds.mono hle1).mono hle2⟩ (fun o ho e' a' w'=>by
      rintro ⟨p1,ρ',p2,p3,p4⟩
      exact ⟨o,ho,p1,ρ',p2,p3,hst.trans p4⟩)
    refine ⟨_,[TH.mark w.heap.size],_,d,_,f,args,_,?_,g1 a rfl,fun _ _=>trivial,g2,fun h=>by simp [fwd,Fence.wide] at h,g3⟩
    rw [hlp,hsz]
    exact run_enterLoop_outer fn a.tmps ps assign body
  | some l0 =>
    simp only at h
    split at h
    case h_2=>cases h
    rename_i r0 hg
    rw [insK_eq,newK_eq] at h
    obtain ⟨lb0,s0,hl0,rfl⟩:=hro
    obtain ⟨o0,ro0,hL0⟩:=List.exists_cons_of_ne_nil (rfB_ne hrn h)
    have ho0:o0∈L:=by rw [hL0];simp
    have hmono:=(rfB_mono hrm hsm.1 h o0 ho0).1
    have hn1:st.nx+1≤o0.2.2.2.nx:=hmono.nx
    have hDl:D l0:=hD o0 ho0 l0 (by
      rcases ins_has st.base l0 st.R with q | q
      · exact .inl (hmono.R _ q)
      · exact .inr q)
    obtain ⟨b0,s1,ob,q1,q2,q3⟩:=hs.live l0 _ hDl hg
    rw [hl0] at q1;cases q1
    obtain ⟨fn0,tmps0,dx,sx,rfl,qe,qd⟩:=q3
    have f0:ρ st.nx=none:=hf o0 ho0 _ (Nat.le_refl _) (by omega)
    have hle1:ρ.Le (ρ.put st.nx w.heap.size (0,0)):=Ren.put_le f0
    obtain ⟨lp,hlp⟩:∃ lp:Loop,lp={ state:=.ready,pending:=none,fn,tmps:=a.tmps,params:=ps,assign,body,defers:=dx }:=⟨_,rfl⟩
    have ht:=Step.touch (R:=ins st.base l0 st.R) (W:=st.W) hs (ins_sub _ _ _) fun _ h=>h
    have hst2:=Step.new (st:=⟨st.h,st.nx,st.base,ins st.base l0 st.R,st.W⟩) (o:=.loop ⟨.ready,none,N,env,ps,assign,body,r0.defers⟩) (ob:=.loop lp) (s:=(0,0)) (w':=w.alloc (.loop lp)) ht.sim f0 ⟨fn,a.tmps,dx,sx,by rw [hlp],he.mono hle1,hle1 _ _ qd⟩ rfl rfl rfl rfl
    have hst:=ht.trans hst2
    obtain ⟨d,f,args,g1,g2,g3⟩:=rfB_ok hen hrm hrn hr hsm (rb:=some lb0) (a:={ a with defers:=[]++a.defers }) (Q:=fun e' a' w'=>∃ o∈L,PostC ρ D N st w o e' a' w') h (he.mono hle1) Ren.put_at hst.sim (fun o ho=>(hst.snd (hD o ho) (hf o ho)).1) (fun o ho=>(hst.snd (hD o ho) (hf o ho)).2) ⟨lb0,s0,hle1 _ _ hl0,rfl⟩ rfl (hds.mono hle1) (fun o ho e' a' w'=>by
      rintro ⟨p1,ρ',p2,p3,p4⟩
      exact ⟨o,ho,p1,ρ',p2,p3,hst.trans p4⟩)
    refine ⟨w.heap.size,[],_,d,_,f,args,_,?_,g1 a rfl,fun _ _=>trivial,g2,fun h=>by simp [fwd,Fence.wide] at h,g3⟩
    rw [hlp]
    exact run_enter_in q2 fn a.tmps ps assign body

/-! ### Loops -/
def LoopIn (F:Fence) (P:Program) (c:Code) (Q:Exit→Act→World→Prop) (a:Act) (w:World):Prop :=
  ∀ (b:Frame) (k:List Item) (cs:List Frame),b.roundOf=F.round→F.fn b.fn→F.room (cs.length+1+0) →
    ∃ e a' w',Q e a' w'∧ArrivesIn (Machine.fenced P F) P (lone (b.atR a (.code c::.inLoop c::k)) cs w) b k cs e a' w'
theorem LoopIn.wp {F:Fence} {c:Code} {Q:Exit→Act→World→Prop} {a:Act} (h:LoopIn F P c Q a w):(Code.loop c).wpIn F 0 P Q a w:=by
  intro b k cs hro hb hr
  obtain ⟨e,a',w',hq,harr⟩:=h b k cs hro hb hr
  exact ⟨e,a',w',hq,.of_steps (.one (fenced_calm hb hr rfl) stepR_loop) harr⟩
theorem LoopIn.of {F:Fence} {c:Code} {Q:Exit→Act→World→Prop} {a:Act} (h:c.wpIn F 0 P (Exit.then (LoopIn F P c Q) Q) a w):LoopIn F P c Q a w:=by
  intro b k cs hro hb hr
  obtain ⟨e,a₁,w₁,hq,harr⟩:=h b (.inLoop c::k) cs hro hb hr
  cases e with
  | normal =>
    obtain ⟨e₂,a₂,w₂,hq₂,harr₂⟩:=hq b k cs hro hb hr
    exact ⟨e₂,a₂,w₂,hq₂,.of_steps (StepsIn.trans harr (.one (fenced_calm hb hr rfl) stepR_inLoop)) harr₂⟩
  | exit id=>exact ⟨_,a₁,w₁,hq,.pass (x:=.inLoop c) rfl (fun _ _=>.inl (by simp)) harr⟩
  | goto l=>exact ⟨_,a₁,w₁,hq,.pass (x:=.inLoop c) rfl (fun _ _=>.inl (by simp)) harr⟩
  | ret=>exact ⟨_,a₁,w₁,hq,.pass (x:=.inLoop c) rfl (fun _ _=>.inl (by simp)) harr⟩
  | panic ch=>exact ⟨_,a₁,w₁,hq,.pass (x:=.inLoop c) rfl (fun _ _=>.inl (by simp)) harr⟩
  | outgrown=>exact ⟨_,a₁,w₁,hq,.pass (x:=.inLoop c) rfl (fun _ _=>.inl (by simp)) harr⟩
theorem LoopIn.mono {F:Fence} {c:Code} {Q Q':Exit→Act→World→Prop} {a:Act} (h:LoopIn F P c Q a w) (hq:∀ e a w,Q e a w→Q' e a w):LoopIn F P c Q' a w:=by
  intro b k cs hro hb hr
  obtain ⟨e,a',w',q,harr⟩:=h b k cs hro hb hr
  exact ⟨e,a',w',hq _ _ _ q,harr⟩
def LoopOK (P:Program) (rec:Rec):Prop:=∀ ro N c env ds st L,rec ro N (.loop c) env ds st=some L →
  ∀ (ρ:Ren) (D:Nat→Prop) (w:World) (a:Act) (rb:Option Nat),EnvR ρ N env a.tmps→DsR ρ ds a.defers→RoR ρ ro rb→Sim ρ D st w→(∀ o∈L,∀ x,x∈o.2.2.2.R∨st.base≤x→D x)→(∀ o∈L,Free ρ st.nx o.2.2.2.nx) →
    LoopIn (fwd rb) P c (fun e' a' w'=>∃ o∈L,PostC ρ D N st w o e' a' w') a w

/-! ### Codes -/
theorem wpIn_scope_of {F:Fence} {c:Code} {Q:Exit→Act→World→Prop} {a:Act} (h:c.wpIn F 0 P (fun e a w=>(∀ l,e≠.goto l)∧Q e a w) a w):(Code.scope c).wpIn F 0 P Q a w:=by
  intro b k cs hro hb hr
  obtain ⟨e,a₁,w₁,⟨hg,hq⟩,harr⟩:=h b (.inScope c::k) cs hro hb hr
  cases e with
  | normal=>exact ⟨.normal,a₁,w₁,hq,.of_steps (.one (fenced_calm hb hr rfl) stepR_scope) (StepsIn.trans harr (.one (fenced_calm hb hr rfl) stepR_inScope))⟩
  | exit id=>exact ⟨.exit id,a₁,w₁,hq,.of_steps (.one (fenced_calm hb hr rfl) stepR_scope) ⟨fun k' hk=>harr.1 k' (by simp [exitTo,hk]),fun hr' hk=>harr.2 hr' (by simp [exitTo,hk])⟩⟩
  | goto l=>exact absurd rfl (hg l)
  | ret=>exact ⟨_,a₁,w₁,hq,.of_steps (.one (fenced_calm hb hr rfl) stepR_scope) harr⟩
  | panic ch=>exact ⟨_,a₁,w₁,hq,.of_steps (.one (fenced_calm hb hr rfl) stepR_scope) harr⟩
  | outgrown=>exact ⟨_,a₁,w₁,hq,.of_steps (.one (fenced_calm hb hr rfl) stepR_scope) harr⟩
theorem stepC_ok (hm:P.follows .mixedOrders=true) (hen:Enters P) (hrm:RecMono rec) (hrn:RecNE rec) (hr:CodeOK P rec) (hl:LoopOK P rec) (hsm:SumOK P sm):CodeOK P (stepC P sm rec)∧LoopOK P (stepC P sm rec):=by
  have hthn:∀ {ro:Option Nat} {N:Nat} {y:Code} {L1 L:List Out} {st:St} {ρ:Ren} {D:Nat→Prop},mapB (thnS rec ro N y) L1=some L→(∀ o∈L,∀ x,x∈o.2.2.2.R∨st.base≤x→D x)→(∀ o∈L,Free ρ st.nx o.2.2.2.nx)→(∀ o∈L1,∀ x,x∈o.2.2.2.R∨st.base≤x→D x)∧∀ o∈L1,Free ρ st.nx o.2.2.2.nx :=
    fun h hD hf=>mapB_fst (s:=fun o:Out=>o.2.2.2) (t:=fun o:Out=>o.2.2.2) h (fun _ _=>thnS_ne hrn) (fun _ _=>thnS_mono hrm) hD hf
  have hloop:LoopOK P (stepC P sm rec):=by
    intro ro N c env ds st L h ρ D w a rb he hds hro hs hD hf
    simp only [stepC] at h
    split at h
    case h_2=>cases h
    rename_i L1 h1
    obtain ⟨d1,f1⟩:=hthn h hD hf
    refine LoopIn.of (wpIn_mono (hr _ _ _ _ _ _ _ h1 ρ D w a rb he hds hro hs d1 f1) ?_)
    rintro e' a1 w1 ⟨o1,ho1,rfl,ρ1,he1,hd1,hst1⟩
    obtain ⟨lx,e1,e2⟩:=(mapB_mem h).1 o1 ho1
    have hle:=hst1.le (f1 o1 ho1)
    obtain ⟨ex,env1,ds1,st1⟩:=o1
    cases ex <;> simp only [thnS] at e1
    · refine LoopIn.mono (hl _ _ _ _ _ _ _ e1 ρ1 _ w1 a1 rb he1 hd1 (hro.mono hle) hst1.sim (fun o ho=>(hst1.snd (hD o (e2 o ho)) (hf o (e2 o ho))).1) (fun o ho=>(hst1.snd (hD o (e2 o ho)) (hf o (e2 o ho))).2)) ?_
      rintro e' a2 w2 ⟨o2,ho2,rfl,ρ2,he2,hd2,hst2⟩
      exact ⟨o2,e2 o2 ho2,rfl,ρ2,he2,hd2,hst1.trans hst2⟩
    all_goals
      simp only [Option.some.injEq] at e1
      subst e1
      exact ⟨_,e2 _ List.mem_cons_self,rfl,ρ1,he1,hd1,hst1⟩
  refine ⟨?_,hloop⟩
  intro ro N c env ds st L h ρ D w a rb he hds hro hs hD hf
  have refl:∀ {e0:Ex},some [(e0,env,ds,st)]=some L→∃ o∈L,PostC ρ D N st w o (exOf e0) a w:=by
    intro e0 h
    simp only [Option.some.injEq] at h
    subst h
    exact ⟨_,List.mem_cons_self,rfl,ρ,he,hds,Step.refl hs⟩
  cases c
  case loop b=>exact LoopIn.wp (hloop ro N b env ds st L h ρ D w a rb he hds hro hs hD hf)
  all_goals simp only [stepC] at h
  case skip=>exact wpIn_skip (refl h)
  case region id ops draw =>
    split at h
    · split at h
      case h_2=>cases h
      rename_i L1 h1
      obtain ⟨l⟩:=ops
      have hin:∀ p∈L1,(Ex.nrm,p.1,ds,p.2)∈L:=by
        intro p hp
        obtain ⟨lx,e1,e2⟩:=(mapB_mem h).1 p hp
        simp only [nrmS,Option.some.injEq] at e1
        subst e1
        exact e2 _ List.mem_cons_self
      refine wpIn_region_lit (exL_ok hen hrm hrn hr hsm h1 he hs (fun p hp=>hD _ (hin p hp)) (fun p hp=>hf _ (hin p hp)) ?_)
      intro p hp a' w' ρ' hd' he' hst'
      refine ⟨_,hin p hp,rfl,ρ',he',?_,hst'⟩
      show DsR ρ' ds a'.defers
      rw [hd'];exact hds.mono (hst'.le (hf _ (hin p hp)))
    · split at h
      case h_2=>cases h
      rename_i p h1
      simp only [nrmS,Option.some.injEq] at h
      subst h
      refine wpIn_mono (exD_ok (F:=fwd rb) (fun _=>trivial) hm (fun o env st L h=>exO_ok hen hrm hrn hr hsm h) h1 he hs (hD _ List.mem_cons_self) (hf _ List.mem_cons_self)) ?_
      rintro e' a' w' ⟨rfl,ρ',hd',he',hst'⟩
      refine ⟨_,List.mem_cons_self,rfl,ρ',he',?_,hst'⟩
      show DsR ρ' ds a'.defers
      rw [hd'];exact hds.mono (hst'.le (hf _ List.mem_cons_self))
  case seq x y =>
    split at h
    case h_2=>cases h
    rename_i L1 h1
    obtain ⟨d1,f1⟩:=hthn h hD hf
    refine wpIn_seq (wpIn_mono (hr _ _ _ _ _ _ _ h1 ρ D w a rb he hds hro hs d1 f1) ?_)
    rintro e' a1 w1 ⟨o1,ho1,rfl,ρ1,he1,hd1,hst1⟩
    obtain ⟨lx,e1,e2⟩:=(mapB_mem h).1 o1 ho1
    have hle:=hst1.le (f1 o1 ho1)
    obtain ⟨ex,env1,ds1,st1⟩:=o1
    cases ex <;> simp only [thnS] at e1
    · refine wpIn_mono (hr _ _ _ _ _ _ _ e1 ρ1 _ w1 a1 rb he1 hd1 (hro.mono hle) hst1.sim (fun o ho=>(hst1.snd (hD o (e2 o ho)) (hf o (e2 o ho))).1) (fun o ho=>(hst1.snd (hD o (e2 o ho)) (hf o (e2 o ho))).2)) ?_
      rintro e' a2 w2 ⟨o2,ho2,rfl,ρ2,he2,hd2,hst2⟩
      exact ⟨o2,e2 o2 ho2,rfl,ρ2,he2,hd2,hst1.trans hst2⟩
    all_goals
      simp only [Option.some.injEq] at e1
      subst e1
      exact ⟨_,e2 _ List.mem_cons_self,rfl,ρ1,he1,hd1,hst1⟩
  case cond c x y =>
    have hc:=svOp_rel he c
    split at h
    · rename_i hv
      rw [hv,Rel] at hc
      exact wpIn_cond_true hc (hr _ _ _ _ _ _ _ h ρ D w a rb he hds hro hs hD hf)
    · rename_i hv
      rw [hv,Rel] at hc
      exact wpIn_cond_false hc (hr _ _ _ _ _ _ _ h ρ D w a rb he hds hro hs hD hf)
    · cases h
  case block id b =>
    split at h
    case h_2=>cases h
    rename_i L1 h1
    obtain ⟨d1,f1⟩:=mapB_fst (ρ:=ρ) (D:=D) (st:=st) (s:=fun o:Out=>o.2.2.2) (t:=fun o:Out=>o.2.2.2) h (fun _ _=>blkS_ne) (fun o lx e1 b hb=>by
      obtain ⟨e,env',ds',st1⟩:=o
      cases e <;> simp only [blkS] at e1
      case ext i=>refine Mono.bif e1 ?_ ?_ <;> intro h <;> (rw [outs1 h hb];exact Mono.refl _)
      all_goals (rw [outs1 e1 hb];exact Mono.refl _)) hD hf
    refine wpIn_block (wpIn_mono (hr _ _ _ _ _ _ _ h1 ρ D w a rb he hds hro hs d1 f1) ?_)
    rintro e' a1 w1 ⟨o1,ho1,rfl,ρ1,he1,hd1,hst1⟩
    obtain ⟨lx,e1,e2⟩:=(mapB_mem h).1 o1 ho1
    obtain ⟨ex,env1,ds1,st1⟩:=o1
    cases ex <;> simp only [blkS] at e1
    case ext i =>
      simp only [exOf,Exit.inBlock]
      cases hb:Nat.beq i id with
      | true =>
        rw [hb,cond_true] at e1
        simp only [Option.some.injEq] at e1
        subst e1
        rw [if_pos (Nat.eq_of_beq_eq_true hb)]
        exact ⟨_,e2 _ List.mem_cons_self,rfl,ρ1,he1,hd1,hst1⟩
      | false =>
        rw [hb,cond_false] at e1
        simp only [Option.some.injEq] at e1
        subst e1
        rw [if_neg (fun q=>by rw [q,Nat.beq_refl] at hb;cases hb)]
        exact ⟨_,e2 _ List.mem_cons_self,rfl,ρ1,he1,hd1,hst1⟩
    all_goals
      simp only [Option.some.injEq] at e1
      subst e1
      exact ⟨_,e2 _ List.mem_cons_self,rfl,ρ1,he1,hd1,hst1⟩
  case rangeFunc g ps assign body=>exact rfS_ok hen hrm hrn hr hsm h he hds hro hs hD hf
  case exit id=>exact wpIn_exit (refl h)
  case scope b =>
    split at h
    case h_2=>cases h
    rename_i L1 h1
    obtain ⟨d1,f1⟩:=mapB_fst (ρ:=ρ) (D:=D) (st:=st) (s:=fun o:Out=>o.2.2.2) (t:=fun o:Out=>o.2.2.2) h (fun _ _=>scoS_ne) (fun o lx e1 b hb=>by
      obtain ⟨e,env',ds',st1⟩:=o
      cases e <;> simp only [scoS] at e1 <;> first
        | (cases e1;done)
        | (rw [outs1 e1 hb];exact Mono.refl _)) hD hf
    refine wpIn_scope_of (wpIn_mono (hr _ _ _ _ _ _ _ h1 ρ D w a rb he hds hro hs d1 f1) ?_)
    rintro e' a1 w1 ⟨o1,ho1,rfl,ρ1,he1,hd1,hst1⟩
    obtain ⟨lx,e1,e2⟩:=(mapB_mem h).1 o1 ho1
    obtain ⟨ex,env1,ds1,st1⟩:=o1
    cases ex <;> simp only [scoS] at e1 <;> first
      | (cases e1;done)
      | (simp only [Option.some.injEq] at e1
         subst e1
         exact ⟨fun l q=>(by cases q),_,e2 _ List.mem_cons_self,rfl,ρ1,he1,hd1,hst1⟩)
  case label l=>exact wpIn_label (refl h)
  case goto l=>exact wpIn_goto (refl h)
  case ret=>exact wpIn_ret (refl h)
  case refuse=>cases h
/-- what there was stays -/
structure Kept (w w':World):Prop where
  os:w'.os=w.os
  tape:w'.tape=w.tape
  output:w'.output=w.output
  size:w.heap.size≤w'.heap.size
  keep:∀ b,b<w.heap.size→w'.heap[b]?=w.heap[b]?
theorem allT_ok:∀ {L:List (SV × St)},allT L=true→∀ p∈L,p.1=.raw (.bool true)
  | [],_,p,hp=>by cases hp
  | q::r,h,p,hp=>by
    simp only [allT] at h
    split at h
    · rename_i hq
      rcases List.mem_cons.1 hp with rfl | hp
      · exact hq
      · exact allT_ok h p hp
    · cases h
end
end Go.TX
namespace Go.TX
open Go Go.TH
noncomputable section
/-- what comes out at the end: a value (of a function), or where a code ends -/
structure Ans where
  v:SV
  e:Ex
  env:Tr SV
  ds:List Nat
  st:St
abbrev RB:=Option (List Ans)
section lists
variable {α:Type}
def nthF (l:List α):Nat→Option α:=List.rec (motive:=fun _=>Nat→Option α) (fun _=>none) (fun x _ ih n=>Nat.rec (motive:=fun _=>Option α) (some x) (fun m _=>ih m) n) l
theorem nthF_eq:∀ (l:List α) (n:Nat),nthF l n=nth l n
  | [],n=>by cases n <;> rfl
  | x::r,0=>rfl
  | x::r,n+1=>nthF_eq r n
def nthV (l:List SV):Nat→Option SV:=List.rec (motive:=fun _=>Nat→Option SV) (fun _=>none) (fun x _ ih n=>Nat.rec (motive:=fun _=>Option SV) (some x) (fun m _=>ih m) n) l
theorem nthV_eq:∀ (l:List SV) (n:Nat),nthV l n=nth l n
  | [],n=>by cases n <;> rfl
  | x::r,0=>rfl
  | x::r,n+1=>nthV_eq r n
def takeF (l:List SV):Nat→(List SV→RB)→RB:=List.rec (motive:=fun _=>Nat→(List SV→RB)→RB) (fun n k=>Nat.rec (motive:=fun _=>RB) (k []) (fun _ _=>none) n) (fun x _ ih n k=>Nat.rec (motive:=fun _=>RB) (k []) (fun m _=>ih m (fun t=>k (x::t))) n) l
theorem takeF_eq:∀ (l:List SV) (n:Nat) (k:List SV→RB),takeF l n k=takeK l n k
  | [],0,k=>by simp [takeK];rfl
  | [],n+1,k=>by simp [takeK];rfl
  | x::r,0,k=>by simp [takeK];rfl
  | x::r,n+1,k=>by simp only [takeK];exact takeF_eq r n _
def subF (l:List SV):Nat→Nat→(List SV→RB)→RB:=List.rec (motive:=fun _=>Nat→Nat→(List SV→RB)→RB) (fun o n k=>Nat.rec (motive:=fun _=>RB) (takeF [] n k) (fun _ _=>none) o) (fun x r ih o n k=>Nat.rec (motive:=fun _=>RB) (takeF (x::r) n k) (fun o' _=>ih o' n k) o) l
theorem subF_eq:∀ (l:List SV) (o n:Nat) (k:List SV→RB),subF l o n k=subK l o n k
  | [],0,n,k=>by simp only [subK];exact takeF_eq [] n k
  | [],o+1,n,k=>by cases n <;> simp [subK] <;> rfl
  | x::r,0,n,k=>by simp only [subK];exact takeF_eq (x::r) n k
  | x::r,o+1,n,k=>by simp only [subK];exact subF_eq r o n k
def preF (l:List SV) (vs:List SV) (k:List SV→RB):RB:=List.rec (motive:=fun _=>List SV→(List SV→RB)→RB) (fun r k=>k r) (fun v _ ih r k=>List.rec (motive:=fun _=>RB) none (fun _ r' _=>ih r' (fun t=>k (v::t))) r) vs l k
theorem preF_eq:∀ (vs l:List SV) (k:List SV→RB),preF l vs k=preK l vs k
  | [],l,k=>by cases l <;> simp [preK] <;> rfl
  | v::vs,[],k=>by simp [preK];rfl
  | v::vs,x::r,k=>by simp only [preK];exact preF_eq vs r _
def wrF (l:List SV):Nat→List SV→(List SV→RB)→RB:=List.rec (motive:=fun _=>Nat→List SV→(List SV→RB)→RB) (fun o vs k=>Nat.rec (motive:=fun _=>RB) (preF [] vs k) (fun _ _=>none) o) (fun x r ih o vs k=>Nat.rec (motive:=fun _=>RB) (preF (x::r) vs k) (fun o' _=>ih o' vs (fun t=>k (x::t))) o) l
theorem wrF_eq:∀ (l:List SV) (o:Nat) (vs:List SV) (k:List SV→RB),wrF l o vs k=wrK l o vs k
  | [],0,vs,k=>by simp [wrK];exact preF_eq _ _ _
  | [],o+1,vs,k=>by simp [wrK];rfl
  | x::r,0,vs,k=>by simp [wrK];exact preF_eq _ _ _
  | x::r,o+1,vs,k=>by simp only [wrK];exact wrF_eq r o vs _
def llenF (l:List SV):Nat:=List.rec (motive:=fun _=>Nat) 0 (fun _ _ ih=>Nat.succ ih) l
theorem llenF_eq:∀ (l:List SV),llenF l=llen l
  | []=>rfl
  | _::r=>congrArg Nat.succ (llenF_eq r)
def membF (x:Nat) (l:List Nat):Bool:=List.rec (motive:=fun _=>Bool) false (fun y _ ih=>Bool.rec (motive:=fun _=>Bool) ih true (Nat.beq x y)) l
theorem membF_eq (x:Nat):∀ (l:List Nat),membF x l=memb x l
  | []=>rfl
  | y::r=>by
    simp only [memb]
    show Bool.rec (motive:=fun _=>Bool) (membF x r) true (Nat.beq x y)=_
    rw [membF_eq x r]
    cases Nat.beq x y <;> rfl
def insF (b x:Nat) (l:List Nat) (k:List Nat→RB):RB:=Bool.rec (motive:=fun _=>RB) (k l) (Bool.rec (motive:=fun _=>RB) (k (x::l)) (k l) (membF x l)) (Nat.ble (Nat.succ x) b)
theorem insF_eq (b x:Nat) (l:List Nat) (k:List Nat→RB):insF b x l k=insK b x l k:=by
  unfold insF insK Nat.blt
  rw [membF_eq]
  cases Nat.ble (Nat.succ x) b <;> cases memb x l <;> rfl
end lists
section
/-! ### Looks at values -/
def ptrF (v:SV) (d:RB) (f:Nat→Nat→RB):RB:=SV.rec (motive_1:=fun _=>RB→(Nat→Nat→RB)→RB) (motive_2:=fun _=>PUnit) (fun _ d _=>d) (fun b o _ f=>f b o) (fun _ _ _ _ d _=>d) (fun d _=>d) (fun _ d _=>d) (fun _ _ _ _ _ d _=>d) (fun _ d _=>d) (fun _ _ d _=>d) (fun _ _ d _=>d) (fun d _=>d) ⟨⟩ (fun _ _ _ _=>⟨⟩) v d f
theorem ptrF_eq (v:SV) (d:RB) (f:Nat→Nat→RB):ptrF v d f=match v with
    | .ptr b o=>f b o
    | _=>d:=by cases v <;> rfl
def valF (v:Value) (d:RB) (f:IntKind→Int→RB):RB:=Value.rec (motive_1:=fun _=>RB→(IntKind→Int→RB)→RB) (motive_2:=fun _=>PUnit) (motive_3:=fun _=>PUnit) (fun _ d _=>d) (fun k n _ f=>f k n) (fun _ _ d _=>d) (fun _ _ _ d _=>d) (fun _ d _=>d) (fun _ d _=>d) (fun _ _ _ d _=>d) (fun _ d _=>d) (fun _ d _=>d) (fun _ _ _ _ _ d _=>d) (fun d _=>d) (fun _ _ _ d _=>d) (fun d _=>d) (fun _ _ d _=>d) (fun _ _ d _=>d) (fun _ _=>⟨⟩) ⟨⟩ (fun _ _ _ _=>⟨⟩) v d f
def intF (v:SV) (d:RB) (f:IntKind→Int→RB):RB:=SV.rec (motive_1:=fun _=>RB→(IntKind→Int→RB)→RB) (motive_2:=fun _=>PUnit) (fun v d f=>valF v d f) (fun _ _ d _=>d) (fun _ _ _ _ d _=>d) (fun d _=>d) (fun _ d _=>d) (fun _ _ _ _ _ d _=>d) (fun _ d _=>d) (fun _ _ d _=>d) (fun _ _ d _=>d) (fun d _=>d) ⟨⟩ (fun _ _ _ _=>⟨⟩) v d f
/-! ### Numbers -/
def nnQ (k:IntKind) (r:Nat) (f:SV→RB):RB:=Nat.rec (motive:=fun _=>RB) (f (.raw (.int k (.ofNat 0)))) (fun r' _=>Bool.rec (motive:=fun _=>RB) (f (.raw (.int k (k.wrap (.ofNat (Nat.succ r')))))) (f (.raw (.int k (.ofNat (Nat.succ r'))))) (Nat.ble (Nat.succ r') (kmax k))) r
theorem nnQ_eq (k:IntKind) (r:Nat) (f:SV→RB):nnQ k r f=f (.raw (.int k (k.wrap (.ofNat r)))):=by
  cases r with
  | zero =>
    show f _=_
    rw [show k.wrap (.ofNat 0)=0 from wrap_pos (k:=k) (m:=0) (Nat.zero_le _)];rfl
  | succ r =>
    show Bool.rec (motive:=fun _=>RB) (f (.raw (.int k (k.wrap (.ofNat (Nat.succ r)))))) (f (.raw (.int k (.ofNat (Nat.succ r))))) (Nat.ble (Nat.succ r) (kmax k))=_
    cases h:Nat.ble (Nat.succ r) (kmax k) with
    | false=>rfl
    | true =>
      show f _=f _
      rw [show k.wrap (.ofNat (r+1))=.ofNat (r+1) from wrap_pos (k:=k) (m:=r+1) (Nat.ble_eq.mp h)]
def ngQ (k:IntKind) (r:Nat) (f:SV→RB):RB:=Bool.rec (motive:=fun _=>RB) (f (.raw (.int k (k.wrap (.negSucc r))))) (Bool.rec (motive:=fun _=>RB) (f (.raw (.int k (k.wrap (.negSucc r))))) (Nat.rec (motive:=fun _=>RB) (f (.raw (.int k (.negSucc 0)))) (fun r' _=>f (.raw (.int k (.negSucc (Nat.succ r'))))) r) (Nat.ble r (kmax k))) (ksg k)
theorem ngQ_eq (k:IntKind) (r:Nat) (f:SV→RB):ngQ k r f=f (.raw (.int k (k.wrap (.negSucc r)))):=by
  unfold ngQ
  cases hk:ksg k with
  | false=>rfl
  | true =>
    cases h:Nat.ble r (kmax k) with
    | false=>rfl
    | true =>
      show Nat.rec (motive:=fun _=>RB) (f (.raw (.int k (.negSucc 0)))) (fun r' _=>f (.raw (.int k (.negSucc (Nat.succ r'))))) r=_
      rw [wrap_neg hk (Nat.ble_eq.mp h)]
      cases r <;> rfl
/-- the difference of two natural numbers -/
def dfQ (k:IntKind) (m n:Nat) (f:SV→RB):RB:=Bool.rec (motive:=fun _=>RB) (ngQ k (Nat.sub n (Nat.succ m)) f) (nnQ k (Nat.sub m n) f) (Nat.ble n m)
theorem dfQ_eq (k:IntKind) (m n:Nat) (f:SV→RB):dfQ k m n f=f (.raw (.int k (k.wrap ((m:Int)-(n:Int))))):=by
  unfold dfQ
  rw [nnQ_eq,ngQ_eq]
  cases h:Nat.ble n m with
  | true =>
    have:=Nat.ble_eq.mp h
    show f (.raw (.int k (k.wrap (.ofNat (m-n)))))=_
    rw [show (Int.ofNat (m-n))=(m:Int)-n by simp;omega]
  | false =>
    have:¬ n≤m:=fun q=>by rw [Nat.ble_eq.mpr q] at h;cases h
    show f (.raw (.int k (k.wrap (.negSucc (n-(m+1))))))=_
    rw [show (Int.negSucc (n-(m+1)))=(m:Int)-n by rw [Int.negSucc_eq];omega]
def addQ (k:IntKind) (x y:Int) (f:SV→RB):RB:=Int.rec (motive:=fun _=>RB) (fun m=>Int.rec (motive:=fun _=>RB) (fun n=>nnQ k (Nat.add m n) f) (fun n=>dfQ k m (Nat.succ n) f) y) (fun m=>Int.rec (motive:=fun _=>RB) (fun n=>dfQ k n (Nat.succ m) f) (fun n=>ngQ k (Nat.succ (Nat.add m n)) f) y) x
theorem addQ_eq (k:IntKind) (x y:Int) (f:SV→RB):addQ k x y f=f (.raw (.int k (k.wrap (x+y)))):=by
  cases x with
  | ofNat m=>cases y with
    | ofNat n=>exact nnQ_eq k (m+n) f
    | negSucc n =>
      refine (dfQ_eq k m (n+1) f).trans ?_
      rw [show (m:Int)-((n+1:Nat):Int)=Int.ofNat m+Int.negSucc n by rw [Int.negSucc_eq];simp;omega]
  | negSucc m=>cases y with
    | ofNat n =>
      refine (dfQ_eq k n (m+1) f).trans ?_
      rw [show (n:Int)-((m+1:Nat):Int)=Int.negSucc m+Int.ofNat n by rw [Int.negSucc_eq];simp;omega]
    | negSucc n=>exact ngQ_eq k (m+n+1) f
def subQ (k:IntKind) (x y:Int) (f:SV→RB):RB:=Int.rec (motive:=fun _=>RB) (fun m=>Int.rec (motive:=fun _=>RB) (fun n=>dfQ k m n f) (fun n=>nnQ k (Nat.succ (Nat.add m n)) f) y) (fun m=>Int.rec (motive:=fun _=>RB) (fun n=>ngQ k (Nat.add m n) f) (fun n=>dfQ k n m f) y) x
theorem subQ_eq (k:IntKind) (x y:Int) (f:SV→RB):subQ k x y f=f (.raw (.int k (k.wrap (x-y)))):=by
  cases x with
  | ofNat m=>cases y with
    | ofNat n=>exact dfQ_eq k m n f
    | negSucc n =>
      refine (nnQ_eq k (m+n+1) f).trans ?_
      rw [show Int.ofNat (m+n+1)=Int.ofNat m-Int.negSucc n by rw [Int.negSucc_eq];simp;omega]
  | negSucc m=>cases y with
    | ofNat n =>
      refine (ngQ_eq k (m+n) f).trans ?_
      rw [show Int.negSucc (m+n)=Int.negSucc m-Int.ofNat n by rw [Int.negSucc_eq,Int.negSucc_eq];simp;omega]
    | negSucc n =>
      refine (dfQ_eq k n m f).trans ?_
      rw [show (n:Int)-(m:Int)=Int.negSucc m-Int.negSucc n by rw [Int.negSucc_eq,Int.negSucc_eq];omega]
def mulQ (k:IntKind) (x y:Int) (f:SV→RB):RB:=Int.rec (motive:=fun _=>RB) (fun m=>Int.rec (motive:=fun _=>RB) (fun n=>nnQ k (Nat.mul m n) f) (fun n=>Nat.rec (motive:=fun _=>RB) (nnQ k 0 f) (fun m' _=>ngQ k (Nat.pred (Nat.mul (Nat.succ m') (Nat.succ n))) f) m) y) (fun m=>Int.rec (motive:=fun _=>RB) (fun n=>Nat.rec (motive:=fun _=>RB) (nnQ k 0 f) (fun n' _=>ngQ k (Nat.pred (Nat.mul (Nat.succ m) (Nat.succ n'))) f) n) (fun n=>nnQ k (Nat.mul (Nat.succ m) (Nat.succ n)) f) y) x
theorem mulQ_eq (k:IntKind) (x y:Int) (f:SV→RB):mulQ k x y f=f (.raw (.int k (k.wrap (x*y)))):=by
  have hm:∀ a b:Nat,Nat.pred (Nat.mul (Nat.succ a) (Nat.succ b))+1=(a+1)*(b+1):=by
    intro a b
    have:0<(a+1)*(b+1):=Nat.mul_pos (by omega) (by omega)
    show (a+1)*(b+1)-1+1=_
    omega
  cases x with
  | ofNat m =>
    cases y with
    | ofNat n=>exact nnQ_eq k (m*n) f
    | negSucc n =>
      cases m with
      | zero =>
        refine (nnQ_eq k 0 f).trans ?_
        rw [show Int.ofNat 0*Int.negSucc n=Int.ofNat 0 by simp]
      | succ m =>
        refine (ngQ_eq k (Nat.pred (Nat.mul (Nat.succ m) (Nat.succ n))) f).trans ?_
        rw [show Int.negSucc (Nat.pred (Nat.mul (Nat.succ m) (Nat.succ n)))=Int.ofNat (m+1)*Int.negSucc n by
          rw [Int.negSucc_eq,Int.negSucc_eq]
          have:=hm m n
          have h2:((Nat.pred (Nat.mul (Nat.succ m) (Nat.succ n)):Nat):Int)+1=((m+1:Nat):Int)*((n+1:Nat):Int):=by rw [← Int.natCast_mul,← this];simp
          rw [h2,Int.mul_neg];simp]
  | negSucc m =>
    cases y with
    | ofNat n =>
      cases n with
      | zero =>
        refine (nnQ_eq k 0 f).trans ?_
        rw [show Int.negSucc m*Int.ofNat 0=Int.ofNat 0 by simp]
      | succ n =>
        refine (ngQ_eq k (Nat.pred (Nat.mul (Nat.succ m) (Nat.succ n))) f).trans ?_
        rw [show Int.negSucc (Nat.pred (Nat.mul (Nat.succ m) (Nat.succ n)))=Int.negSucc m*Int.ofNat (n+1) by
          rw [Int.negSucc_eq,Int.negSucc_eq]
          have:=hm m n
          have h2:((Nat.pred (Nat.mul (Nat.succ m) (Nat.succ n)):Nat):Int)+1=((m+1:Nat):Int)*((n+1:Nat):Int):=by rw [← Int.natCast_mul,← this];simp
          rw [h2,Int.neg_mul];simp]
    | negSucc n=>exact nnQ_eq k (Nat.succ m*Nat.succ n) f
def iltF (x y:Int):Bool:=Int.rec (motive:=fun _=>Bool) (fun m=>Int.rec (motive:=fun _=>Bool) (fun n=>Nat.ble (Nat.succ m) n) (fun _=>false) y) (fun m=>Int.rec (motive:=fun _=>Bool) (fun _=>true) (fun n=>Nat.ble (Nat.succ n) m) y) x
theorem iltF_eq (x y:Int):iltF x y=ilt x y:=by cases x <;> cases y <;> rfl
def ieqF (x y:Int):Bool:=Int.rec (motive:=fun _=>Bool) (fun m=>Int.rec (motive:=fun _=>Bool) (fun n=>Nat.beq m n) (fun _=>false) y) (fun m=>Int.rec (motive:=fun _=>Bool) (fun _=>false) (fun n=>Nat.beq m n) y) x
theorem ieqF_eq (x y:Int):ieqF x y=ieq x y:=by cases x <;> cases y <;> rfl
def tF (b:Bool) (f:SV→RB):RB:=Bool.rec (motive:=fun _=>RB) (f (.raw (.bool false))) (f (.raw (.bool true))) b
def nF (b:Bool) (f:SV→RB):RB:=Bool.rec (motive:=fun _=>RB) (f (.raw (.bool true))) (f (.raw (.bool false))) b
end
/-! ### Outcomes that are the same -/
section
def rawI (v u:Value):Bool:=match v with
  | .int k n=>match u with
    | .int k' n'=>Bool.rec (motive:=fun _=>Bool) false (ieqF n n') (kEq k k')
    | _=>false
  | _=>eqW v u
theorem rawI_eq (v u:Value):rawI v u=eqW v u:=by
  cases v with
  | int k n =>
    cases u with
    | int k' n' =>
      show Bool.rec (motive:=fun _=>Bool) false (ieqF n n') (kEq k k')=(k==k'&&n==n')
      have h1:kEq k k'=(k==k'):=by cases k <;> cases k' <;> rfl
      have h2:ieqF n n'=(n==n'):=by rw [ieqF_eq,ieq_eq];rfl
      rw [h1,h2]
      cases k==k' <;> rfl
    | _=>rfl
  | _=>rfl
def eqVQ (a b:SV):Bool:=match a with
  | .raw v=>match b with
    | .raw u=>rawI v u
    | _=>false
  | .ptr x o=>match b with
    | .ptr x' o'=>Bool.rec (motive:=fun _=>Bool) false (Nat.beq o o') (Nat.beq x x')
    | _=>false
  | .sl x o n c=>match b with
    | .sl x' o' n' c'=>Bool.rec (motive:=fun _=>Bool) false (Bool.rec (motive:=fun _=>Bool) false (Bool.rec (motive:=fun _=>Bool) false (eqC c c') (Nat.beq n n')) (Nat.beq o o')) (Nat.beq x x')
    | _=>false
  | .sl0=>match b with
    | .sl0=>true
    | _=>false
  | a=>eqV a b
theorem eqVQ_eq (a b:SV):eqVQ a b=eqV a b:=by
  cases a with
  | raw v=>cases b <;> simp only [eqVQ,eqV,rawI_eq]
  | ptr x o =>
    cases b with
    | ptr x' o'=>simp only [eqVQ,eqV];cases Nat.beq x x' <;> rfl
    | _=>simp only [eqVQ,eqV]
  | sl x o n c =>
    cases b with
    | sl x' o' n' c' =>
      simp only [eqVQ,eqV]
      cases Nat.beq x x' <;> cases Nat.beq o o' <;> cases Nat.beq n n' <;> rfl
    | _=>simp only [eqVQ,eqV]
  | sl0=>cases b <;> simp only [eqVQ,eqV]
  | _=>rfl
def eqVsQ (l:List SV):List SV→Bool:=List.rec (motive:=fun _=>List SV→Bool) (fun r=>List.rec (motive:=fun _=>Bool) true (fun _ _ _=>false) r) (fun x _ ih r=>List.rec (motive:=fun _=>Bool) false (fun y r' _=>Bool.rec (motive:=fun _=>Bool) false (ih r') (eqVQ x y)) r) l
theorem eqVsQ_eq:∀ (l r:List SV),eqVsQ l r=eqVs l r
  | [],[]=>by simp only [eqVs];rfl
  | [],_::_=>by simp only [eqVs];rfl
  | _::_,[]=>by simp only [eqVs];rfl
  | x::l,y::r=>by
    simp only [eqVs,← eqVsQ_eq l r,← eqVQ_eq]
    show Bool.rec (motive:=fun _=>Bool) false (eqVsQ l r) (eqVQ x y)=_
    cases eqVQ x y <;> rfl
def eqOQ (o o':SO):Bool:=match o with
  | .cells l e op=>match o' with
    | .cells l' e' op'=>Bool.rec (motive:=fun _=>Bool) false (Bool.rec (motive:=fun _=>Bool) false (eqB op op') (Nat.beq e e')) (eqVsQ l l')
    | _=>false
  | o=>eqO o o'
theorem eqOQ_eq (o o':SO):eqOQ o o'=eqO o o':=by
  cases o with
  | cells l e op =>
    cases o' with
    | cells l' e' op' =>
      simp only [eqOQ,eqO,eqVsQ_eq]
      cases eqVs l l' <;> cases Nat.beq e e' <;> rfl
    | _=>rfl
  | _=>rfl
def meetF (n0:Nat) (h1 h2:Tr SO) (n:Nat):Tr SO→(Tr SO→Option (SV × St))→Option (SV × St):=Nat.rec (motive:=fun _=>Tr SO→(Tr SO→Option (SV × St))→Option (SV × St)) (fun h k=>k h) (fun n ih h k=>Option.rec (motive:=fun _=>Option (SV × St)) (Option.rec (motive:=fun _=>Option (SV × St)) (ih h k) (fun _=>Bool.rec (motive:=fun _=>Option (SV × St)) none (ih h k) (Nat.ble n0 n)) (h2.get n)) (fun o1=>Option.rec (motive:=fun _=>Option (SV × St)) (Bool.rec (motive:=fun _=>Option (SV × St)) none (ih h k) (Nat.ble n0 n)) (fun o2=>Bool.rec (motive:=fun _=>Option (SV × St)) (Bool.rec (motive:=fun _=>Option (SV × St)) (Bool.rec (motive:=fun _=>Option (SV × St)) none (ih h k) (Nat.ble n0 n)) (h.setK n (some o1) fun h'=>ih h' k) (Nat.blt n n0&&eqLp o1 o2)) (h.setK n (some o1) fun h'=>ih h' k) (eqOQ o1 o2)) (h2.get n)) (h1.get n)) n
theorem meetF_eq (n0:Nat) (h1 h2:Tr SO):∀ (n:Nat) (h:Tr SO) (k:Tr SO→Option (SV × St)),meetF n0 h1 h2 n h k=meetK n0 h1 h2 n h k
  | 0,_,_=>rfl
  | n+1,h,k=>by
    have ih:=meetF_eq n0 h1 h2 n
    simp only [meetK,← ih,← eqOQ_eq]
    show Option.rec (motive:=fun _=>Option (SV × St)) (Option.rec (motive:=fun _=>Option (SV × St)) (meetF n0 h1 h2 n h k) (fun _=>Bool.rec (motive:=fun _=>Option (SV × St)) none (meetF n0 h1 h2 n h k) (Nat.ble n0 n)) (h2.get n)) (fun o1=>Option.rec (motive:=fun _=>Option (SV × St)) (Bool.rec (motive:=fun _=>Option (SV × St)) none (meetF n0 h1 h2 n h k) (Nat.ble n0 n)) (fun o2=>Bool.rec (motive:=fun _=>Option (SV × St)) (Bool.rec (motive:=fun _=>Option (SV × St)) (Bool.rec (motive:=fun _=>Option (SV × St)) none (meetF n0 h1 h2 n h k) (Nat.ble n0 n)) (h.setK n (some o1) fun h'=>meetF n0 h1 h2 n h' k) (Nat.blt n n0&&eqLp o1 o2)) (h.setK n (some o1) fun h'=>meetF n0 h1 h2 n h' k) (eqOQ o1 o2)) (h2.get n)) (h1.get n)=_
    cases h1.get n with
    | none =>
      cases h2.get n with
      | none=>rfl
      | some o=>simp only;cases Nat.ble n0 n <;> rfl
    | some o1 =>
      cases h2.get n with
      | none=>simp only;cases Nat.ble n0 n <;> rfl
      | some o2 =>
        simp only
        cases eqOQ o1 o2 <;> cases (Nat.blt n n0&&eqLp o1 o2) <;> cases Nat.ble n0 n <;> rfl
def join2F (n0:Nat) (p q:SV × St):Option (SV × St):=match p with
  | (v,⟨h,nx,b,R,W⟩)=>match q with
    | (v',⟨h',nx',b',R',W'⟩)=>bif eqV v v' then (bif Nat.beq nx nx' then (bif Nat.beq b b' then meetF n0 h h' nx .lf fun h2=>appK R R' fun R2=>appK W W' fun W2=>some (v,⟨h2,nx,b,R2,W2⟩) else none) else none) else none
theorem join2F_eq (n0:Nat) (p q:SV × St):join2F n0 p q=join2 n0 p q:=by
  obtain ⟨v,h,nx,b,R,W⟩:=p
  obtain ⟨v',h',nx',b',R',W'⟩:=q
  simp only [join2F,join2,meetF_eq]
def joinAF (n0:Nat):SV × St→List (SV × St)→Option (SV × St)
  | p,[]=>some p
  | p,q::r=>match join2F n0 p q with
    | some p'=>joinAF n0 p' r
    | none=>none
theorem joinAF_eq (n0:Nat):∀ (p:SV × St) (l:List (SV × St)),joinAF n0 p l=joinA n0 p l
  | _,[]=>rfl
  | p,q::r=>by
    simp only [joinAF,joinA,join2F_eq]
    cases join2 n0 p q with
    | none=>rfl
    | some p'=>exact joinAF_eq n0 p' r
def joinLF (n0:Nat):List (SV × St)→List (SV × St)
  | []=>[]
  | p::l=>match l with
    | []=>[p]
    | q::r=>match joinAF n0 p (q::r) with
      | some p'=>[p']
      | none=>p::q::r
theorem joinLF_eq (n0:Nat) (l:List (SV × St)):joinLF n0 l=joinL n0 l:=by
  rcases l with _ | ⟨p,_ | ⟨q,r⟩⟩
  · rfl
  · rfl
  · simp only [joinLF,joinL,joinAF_eq]
    cases joinA n0 p (q::r) <;> rfl
end
/-! ### What is reckoned once -/
structure Bx (α:Type) where
  val:α
def stg {α δ:Type} (b:Bx α) (f:α→δ):δ:=Bx.rec (motive:=fun _=>δ) f b
theorem stg_eq {α δ:Type} (b:Bx α) (f:α→δ):stg b f=f b.val:=by cases b;rfl
/-! ### Operators -/
section
/-- of two numbers -/
abbrev BQ:=IntKind→Int→IntKind→Int→(SV→RB)→RB
/-- the same kind is asked for -/
def sk (k k':IntKind) (r:RB):RB:=Bool.rec (motive:=fun _=>RB) none r (kEq k k')
/-- a natural number, reckoned -/
def ofQ (k:IntKind) (n:Nat) (f:SV→RB):RB:=Nat.rec (motive:=fun _=>RB) (f (.raw (.int k (.ofNat 0)))) (fun m _=>f (.raw (.int k (.ofNat (Nat.succ m))))) n
theorem ofQ_eq (k:IntKind) (n:Nat) (f:SV→RB):ofQ k n f=f (.raw (.int k (.ofNat n))):=by cases n <;> rfl
/-- of two natural numbers within the kind -/
def ntQ (op:Nat→Nat→Nat) (k:IntKind) (x y:Int) (f:SV→RB):RB:=Int.rec (motive:=fun _=>RB) (fun m=>Int.rec (motive:=fun _=>RB) (fun n=>Bool.rec (motive:=fun _=>RB) none (Bool.rec (motive:=fun _=>RB) none (ofQ k (op m n) f) (Nat.ble n (kmax k))) (Nat.ble m (kmax k))) (fun _=>none) y) (fun _=>none) x
theorem ntQ_eq (op:Nat→Nat→Nat) (k:IntKind) (x y:Int) (f:SV→RB):ntQ op k x y f=match (match x with
    | .ofNat m=>match y with
      | .ofNat n=>bif Nat.ble m (kmax k)&&Nat.ble n (kmax k) then intV k (.ofNat (op m n)) else none
      | _=>none
    | _=>none) with
    | some v=>f v
    | none=>none:=by
  cases x with
  | negSucc m=>rfl
  | ofNat m =>
    cases y with
    | negSucc n=>rfl
    | ofNat n =>
      simp only [intV_eq]
      show Bool.rec (motive:=fun _=>RB) none (Bool.rec (motive:=fun _=>RB) none (ofQ k (op m n) f) (Nat.ble n (kmax k))) (Nat.ble m (kmax k))=_
      rw [ofQ_eq]
      cases Nat.ble m (kmax k) <;> cases Nat.ble n (kmax k) <;> rfl
def shlQ (k:IntKind) (x y:Int) (f:SV→RB):RB:=Int.rec (motive:=fun _=>RB) (fun m=>Int.rec (motive:=fun _=>RB) (fun n=>Bool.rec (motive:=fun _=>RB) none (nnQ k (Nat.shiftLeft m n) f) (Nat.ble n k.bits)) (fun _=>none) y) (fun _=>none) x
def shrQ (k:IntKind) (x y:Int) (f:SV→RB):RB:=Int.rec (motive:=fun _=>RB) (fun m=>Int.rec (motive:=fun _=>RB) (fun n=>Bool.rec (motive:=fun _=>RB) none (ofQ k (Nat.shiftRight m n) f) (Nat.ble n k.bits)) (fun _=>none) y) (fun _=>none) x
/-- the quick form of some operators -/
def bqOf:BinOp→Option BQ
  | .add=>some fun k x k' y f=>sk k k' (addQ k x y f)
  | .sub=>some fun k x k' y f=>sk k k' (subQ k x y f)
  | .mul=>some fun k x k' y f=>sk k k' (mulQ k x y f)
  | .lss=>some fun k x k' y f=>sk k k' (tF (iltF x y) f)
  | .gtr=>some fun k x k' y f=>sk k k' (tF (iltF y x) f)
  | .leq=>some fun k x k' y f=>sk k k' (nF (iltF y x) f)
  | .geq=>some fun k x k' y f=>sk k k' (nF (iltF x y) f)
  | .eql=>some fun k x k' y f=>sk k k' (tF (ieqF x y) f)
  | .neq=>some fun k x k' y f=>sk k k' (nF (ieqF x y) f)
  | .and=>some fun k x k' y f=>sk k k' (ntQ Nat.land k x y f)
  | .or=>some fun k x k' y f=>sk k k' (ntQ Nat.lor k x y f)
  | .xor=>some fun k x k' y f=>sk k k' (ntQ Nat.xor k x y f)
  | .shl=>some fun k x _ y f=>shlQ k x y f
  | .shr=>some fun k x _ y f=>shrQ k x y f
  | _=>none
theorem sk_eq (k k':IntKind) (r:RB) (s:Option SV) (f:SV→RB) (h:k=k'→r=match s with
    | some v=>f v
    | none=>none):sk k k' r=match (bif kEq k k' then s else none) with
    | some v=>f v
    | none=>none:=by
  unfold sk
  cases hk:kEq k k' with
  | false=>rfl
  | true=>exact h (kEq_eq hk)
theorem bqOf_ok {op:BinOp} {q:BQ} (h:bqOf op=some q) (k:IntKind) (x:Int) (k':IntKind) (y:Int) (f:SV→RB):q k x k' y f=match ibS op k x k' y with
    | some v=>f v
    | none=>none:=by
  cases op <;> simp only [bqOf,reduceCtorEq,Option.some.injEq] at h <;> subst h <;> simp only [ibS]
  · refine sk_eq _ _ _ _ _ fun _=>?_
    simp only [intV_eq,wrapF_eq];exact addQ_eq ..
  · refine sk_eq _ _ _ _ _ fun _=>?_
    simp only [intV_eq,wrapF_eq];exact subQ_eq ..
  · refine sk_eq _ _ _ _ _ fun _=>?_
    simp only [intV_eq,wrapF_eq];exact mulQ_eq ..
  · exact sk_eq _ _ _ _ _ fun _=>ntQ_eq ..
  · exact sk_eq _ _ _ _ _ fun _=>ntQ_eq ..
  · exact sk_eq _ _ _ _ _ fun _=>ntQ_eq ..
  · cases x with
    | negSucc m=>rfl
    | ofNat m=>cases y with
      | negSucc n=>rfl
      | ofNat n =>
        show Bool.rec (motive:=fun _=>RB) none (nnQ k (Nat.shiftLeft m n) f) (Nat.ble n k.bits)=_
        simp only [intV_eq,wrapF_eq,nnQ_eq]
        cases Nat.ble n k.bits <;> rfl
  · cases x with
    | negSucc m=>rfl
    | ofNat m=>cases y with
      | negSucc n=>rfl
      | ofNat n =>
        show Bool.rec (motive:=fun _=>RB) none (ofQ k (Nat.shiftRight m n) f) (Nat.ble n k.bits)=_
        simp only [intV_eq,ofQ_eq]
        cases Nat.ble n k.bits <;> rfl
  · refine sk_eq _ _ _ _ _ fun _=>?_
    simp only [boolV_eq];unfold tF;rw [ieqF_eq];cases ieq x y <;> rfl
  · refine sk_eq _ _ _ _ _ fun _=>?_
    simp only [boolV_eq];unfold nF;rw [ieqF_eq];cases ieq x y <;> rfl
  · refine sk_eq _ _ _ _ _ fun _=>?_
    simp only [boolV_eq];unfold tF;rw [iltF_eq];cases ilt x y <;> rfl
  · refine sk_eq _ _ _ _ _ fun _=>?_
    simp only [boolV_eq];unfold nF;rw [iltF_eq];cases ilt y x <;> rfl
  · refine sk_eq _ _ _ _ _ fun _=>?_
    simp only [boolV_eq];unfold tF;rw [iltF_eq];cases ilt y x <;> rfl
  · refine sk_eq _ _ _ _ _ fun _=>?_
    simp only [boolV_eq];unfold nF;rw [iltF_eq];cases ilt x y <;> rfl
/-! ### Reading and writing -/
def rdF (st:St) (x:Nat) (k:List SV→TypeId→Bool→St→RB):RB:=St.rec (motive:=fun _=>Nat→(List SV→TypeId→Bool→St→RB)→RB) (fun h nx b R W x k=>Option.rec (motive:=fun _=>RB) none (fun o=>SO.rec (motive:=fun _=>RB) (fun l e op=>insF b x R (fun R'=>k l e op ⟨h,nx,b,R',W⟩)) (fun _ _=>none) (fun _=>none) (fun _=>none) (fun _ _ _ _=>none) (fun _ _ _ _=>none) o) (h.get x)) st x k
theorem rdF_eq (st:St) (x:Nat) (k:List SV→TypeId→Bool→St→RB):rdF st x k=rdK st x k:=by
  obtain ⟨h,nx,b,R,W⟩:=st
  show Option.rec (motive:=fun _=>RB) none (fun o=>SO.rec (motive:=fun _=>RB) (fun l e op=>insF b x R (fun R'=>k l e op ⟨h,nx,b,R',W⟩)) (fun _ _=>none) (fun _=>none) (fun _=>none) (fun _ _ _ _=>none) (fun _ _ _ _=>none) o) (h.get x)=_
  simp only [rdK]
  cases h.get x with
  | none=>rfl
  | some o=>cases o <;> first | rfl | exact insF_eq ..
def wtF (st:St) (x:Nat) (o:SO) (k:St→RB):RB:=St.rec (motive:=fun _=>RB) (fun h nx b R W=>h.setK x (some o) fun h'=>insF b x R fun R'=>insF b x W fun W'=>k ⟨h',nx,b,R',W'⟩) st
theorem wtF_eq (st:St) (x:Nat) (o:SO) (k:St→RB):wtF st x o k=wtK st x o k:=by
  obtain ⟨h,nx,b,R,W⟩:=st
  show (h.setK x (some o) fun h'=>insF b x R fun R'=>insF b x W fun W'=>k ⟨h',nx,b,R',W'⟩)=_
  simp only [wtK,insF_eq]
def onesF (l:List SV):Bool:=List.rec (motive:=fun _=>Bool) true (fun v _ ih=>Bool.rec (motive:=fun _=>Bool) false ih (oneS v)) l
theorem onesF_eq:∀ (l:List SV),onesF l=onesS l
  | []=>rfl
  | v::r=>by
    simp only [onesS,← onesF_eq r]
    show Bool.rec (motive:=fun _=>Bool) false (onesF r) (oneS v)=_
    cases oneS v <;> rfl
/-- a load, by its type -/
def ldF (P:Program) (T:TypeId):Bx (SV→St→(SV→St→RB)→RB):=match isAggB P T with
  | some true=>match szv P T with
    | some n=>⟨fun p st k=>ptrF p none fun x o=>rdF st x fun l _ _ st'=>subF l o n fun vs=>k (.agg vs) st'⟩
    | none=>⟨fun _ _ _=>none⟩
  | some false=>⟨fun p st k=>ptrF p none fun x o=>rdF st x fun l _ _ st'=>Option.rec (motive:=fun _=>RB) none (fun v=>k v st') (nthV l o)⟩
  | none=>⟨fun _ _ _=>none⟩
theorem rdK_app {γ δ:Type} (g:Option γ→Option δ) (hg:g none=none) (st:St) (x:Nat) (k:List SV→TypeId→Bool→St→Option γ):rdK st x (fun l e op st'=>g (k l e op st'))=g (rdK st x k):=by
  obtain ⟨h,nx,b,R,W⟩:=st
  simp only [rdK]
  cases h.get x with
  | none=>exact hg.symm
  | some o=>cases o <;> first | exact hg.symm | simp only [insK_eq]
theorem takeK_app {α γ δ:Type} (g:Option γ→Option δ) (hg:g none=none):∀ (l:List α) (n:Nat) (k:List α→Option γ),takeK l n (fun t=>g (k t))=g (takeK l n k)
  | [],0,k=>by simp [takeK]
  | [],n+1,k=>by simp [takeK,hg]
  | x::r,0,k=>by simp [takeK]
  | x::r,n+1,k=>by simp only [takeK];exact takeK_app g hg r n (fun t=>k (x::t))
theorem subK_app {α γ δ:Type} (g:Option γ→Option δ) (hg:g none=none):∀ (l:List α) (o n:Nat) (k:List α→Option γ),subK l o n (fun t=>g (k t))=g (subK l o n k)
  | [],0,n,k=>by simp [subK];exact takeK_app g hg ..
  | [],o+1,n,k=>by cases n <;> simp [subK,hg]
  | x::r,0,n,k=>by simp [subK];exact takeK_app g hg ..
  | x::r,o+1,n,k=>by simp only [subK];exact subK_app g hg r o n k
theorem preK_app {α γ δ:Type} (g:Option γ→Option δ) (hg:g none=none):∀ (vs l:List α) (k:List α→Option γ),preK l vs (fun t=>g (k t))=g (preK l vs k)
  | [],l,k=>by cases l <;> simp [preK]
  | v::vs,[],k=>by simp [preK,hg]
  | v::vs,x::r,k=>by simp only [preK];exact preK_app g hg vs r (fun t=>k (v::t))
theorem wrK_app {α γ δ:Type} (g:Option γ→Option δ) (hg:g none=none):∀ (l:List α) (o:Nat) (vs:List α) (k:List α→Option γ),wrK l o vs (fun t=>g (k t))=g (wrK l o vs k)
  | [],0,vs,k=>by simp [wrK];exact preK_app g hg ..
  | [],o+1,vs,k=>by simp [wrK,hg]
  | x::r,0,vs,k=>by simp [wrK];exact preK_app g hg ..
  | x::r,o+1,vs,k=>by simp only [wrK];exact wrK_app g hg r o vs (fun t=>k (x::t))
def stG (k:SV→St→RB) (r:Option (SV × St)):RB:=Option.rec (motive:=fun _=>RB) none (fun p=>Prod.rec (motive:=fun _=>RB) k p) r
theorem ldF_eq (P:Program) (T:TypeId) (p:SV) (st:St) (k:SV→St→RB):(ldF P T).val p st k=stG k (ldS P T p st):=by
  unfold ldF
  cases p with
  | ptr x o =>
    simp only [ldS]
    cases isAggB P T with
    | none=>rfl
    | some a =>
      cases a with
      | true =>
        simp only
        cases szv P T with
        | none=>rfl
        | some n =>
          show (rdF st x fun l _ _ st'=>subF l o n fun vs=>k (.agg vs) st')=_
          rw [rdF_eq,← rdK_app (stG k) rfl]
          congr 1
          funext l e op st'
          rw [subF_eq,← subK_app (stG k) rfl]
          rfl
      | false =>
        show (rdF st x fun l _ _ st'=>Option.rec (motive:=fun _=>RB) none (fun v=>k v st') (nthV l o))=_
        simp only
        rw [rdF_eq,← rdK_app (stG k) rfl]
        congr 1
        funext l e op st'
        rw [nthV_eq]
        cases nth l o <;> rfl
  | _ =>
    simp only [ldS]
    cases isAggB P T with
    | none=>rfl
    | some a =>
      cases a with
      | true =>
        simp only
        cases szv P T <;> rfl
      | false=>rfl
/-- a store, by its type -/
def stF (P:Program) (T:TypeId):Bx (SV→SV→St→(SV→St→RB)→RB):=match szv P T with
  | some n=>⟨fun p v st k=>ptrF p none fun x o=>Bool.rec (motive:=fun _=>RB) none (Bool.rec (motive:=fun _=>RB) none (rdF st x fun l e op st1=>wrF l o (cellsS v) fun l'=>wtF st1 x (.cells l' e op) fun st'=>k (.raw undef) st') (Nat.beq (llenF (cellsS v)) n)) (onesF (cellsS v))⟩
  | none=>⟨fun _ _ _ _=>none⟩
theorem wtK_app {γ δ:Type} (g:Option γ→Option δ) (st:St) (x:Nat) (o:SO) (k:St→Option γ):wtK st x o (fun st'=>g (k st'))=g (wtK st x o k):=by
  simp only [wtK_eq]
theorem stF_eq (P:Program) (T:TypeId) (p v:SV) (st:St) (k:SV→St→RB):(stF P T).val p v st k=stG k (stS P T p v st):=by
  unfold stF
  cases p with
  | ptr x o =>
    simp only [stS]
    cases szv P T with
    | none=>rfl
    | some n =>
      show Bool.rec (motive:=fun _=>RB) none (Bool.rec (motive:=fun _=>RB) none (rdF st x fun l e op st1=>wrF l o (cellsS v) fun l'=>wtF st1 x (.cells l' e op) fun st'=>k (.raw undef) st') (Nat.beq (llenF (cellsS v)) n)) (onesF (cellsS v))=_
      rw [llenF_eq,onesF_eq]
      simp only
      cases onesS (cellsS v) with
      | false=>rfl
      | true =>
        simp only [cond_true]
        cases Nat.beq (llen (cellsS v)) n with
        | false=>rfl
        | true =>
          simp only [cond_true]
          rw [rdF_eq,← rdK_app (stG k) rfl]
          congr 1
          funext l e op st'
          rw [wrF_eq,← wrK_app (stG k) rfl]
          congr 1
          funext l'
          rw [wtF_eq,← wtK_app (stG k)]
          rfl
  | _ =>
    simp only [stS]
    cases szv P T <;> rfl
/-! ### Addresses -/
def faF (P:Program) (T f:Nat):Bx (SV→(SV→RB)→RB):=match fieldOf P T f with
  | some (fo,ft)=>match szv P ft with
    | some (_+1)=>⟨fun p k=>ptrF p none fun x o=>Nat.rec (motive:=fun _=>RB) (k (.ptr x 0)) (fun o' _=>k (.ptr x (Nat.succ o'))) (Nat.add o fo)⟩
    | _=>⟨fun _ _=>none⟩
  | none=>⟨fun _ _=>none⟩
def puG (k:SV→RB) (r:Option SV):RB:=Option.rec (motive:=fun _=>RB) none k r
theorem natG {γ:Type} (k:Nat→γ) (n:Nat):Nat.rec (motive:=fun _=>γ) (k 0) (fun m _=>k (Nat.succ m)) n=k n:=by cases n <;> rfl
theorem faF_eq (P:Program) (T f:Nat) (p:SV) (k:SV→RB):(faF P T f).val p k=puG k (faS P T f p):=by
  unfold faF faS
  cases hf:fieldOf P T f with
  | none=>cases p <;> simp only [hf] <;> rfl
  | some q =>
    obtain ⟨fo,ft⟩:=q
    simp only
    cases hs:szv P ft with
    | none=>cases p <;> simp only [hf,hs] <;> rfl
    | some n =>
      cases n with
      | zero=>cases p <;> simp only [hf,hs] <;> rfl
      | succ n =>
        cases p with
        | ptr x o =>
          simp only [hf,hs,natK_eq]
          exact natG (fun o'=>k (.ptr x o')) (Nat.add o fo)
        | _=>rfl
def iaF (P:Program) (T:TypeId):Bx (SV→SV→(SV→RB)→RB):=match slE P T with
  | some sz=>⟨fun p i k=>intF i none fun _ i=>Int.rec (motive:=fun _=>RB) (fun i=>match p with
      | .sl x o n _=>Bool.rec (motive:=fun _=>RB) none (Nat.rec (motive:=fun _=>RB) (k (.ptr x 0)) (fun o' _=>k (.ptr x (Nat.succ o'))) (Nat.add o (Nat.mul i sz))) (Nat.ble (Nat.succ i) n)
      | _=>puG k (iaS P T p (.raw (.int .i64 (.ofNat i))))) (fun _=>none) i⟩
  | none=>⟨fun p i k=>puG k (iaS P T p i)⟩
theorem iaF_eq (P:Program) (T:TypeId) (p i:SV) (k:SV→RB):(iaF P T).val p i k=puG k (iaS P T p i):=by
  unfold iaF
  cases hs:slE P T with
  | none=>rfl
  | some sz =>
    simp only
    cases i with
    | raw v =>
      cases v with
      | int kd i =>
        cases i with
        | ofNat i =>
          simp only [intF]
          cases p with
          | sl x o n c =>
            show Bool.rec (motive:=fun _=>RB) none (Nat.rec (motive:=fun _=>RB) (k (.ptr x 0)) (fun o' _=>k (.ptr x (Nat.succ o'))) (Nat.add o (Nat.mul i sz))) (Nat.ble (Nat.succ i) n)=_
            simp only [iaS,hs]
            show _=puG k (bif Nat.ble (Nat.succ i) n then natK (o+i*sz) fun o'=>some (.ptr x o') else none)
            cases Nat.ble (Nat.succ i) n with
            | false=>rfl
            | true =>
              simp only [cond_true,natK_eq]
              exact natG (fun o'=>k (.ptr x o')) (Nat.add o (Nat.mul i sz))
          | _=>rfl
        | negSucc i=>rfl
      | _=>rfl
    | _=>rfl
/-! ### What operations have touched, those left out that touched nothing -/
def nul (t:Tc):Bool:=t.q&&(match t.R with | []=>true | _=>false)&&(match t.W with | []=>true | _=>false)&&Nat.beq t.a t.b
theorem nul_of {t:Tc} (h:nul t=true):t.q=true∧t.R=[]∧t.W=[]∧t.a=t.b:=by
  unfold nul at h
  simp only [Bool.and_eq_true] at h
  obtain ⟨⟨⟨h1,h2⟩,h3⟩,h4⟩:=h
  refine ⟨h1,?_,?_,Nat.eq_of_beq_eq_true h4⟩
  · cases hR:t.R with
    | nil=>rfl
    | cons x r=>rw [hR] at h2;cases h2
  · cases hR:t.W with
    | nil=>rfl
    | cons x r=>rw [hR] at h3;cases h3
def psh (i:Nat) (t:Tc) (acc:List (Nat × Tc)):List (Nat × Tc):=bif nul t then acc else (i,t)::acc
def flt:List Tc→List (Nat × Tc)
  | []=>[]
  | t::r=>psh r.length t (flt r)
theorem disj_nil:∀ (l:List Nat),disj l []=true
  | []=>rfl
  | x::r=>by rw [disj];exact disj_nil r
theorem outR_same (a:Nat):∀ (l:List Nat),outR a a l=true
  | []=>rfl
  | x::r=>by
    rw [outR]
    have:(Nat.ble a x&&Nat.blt x a)=false:=by
      rw [Bool.and_eq_false_iff]
      by_cases h:a≤x
      · right
        exact Bool.eq_false_iff.2 (fun q=>by have:=Nat.blt_eq.mp q;omega)
      · left
        exact Bool.eq_false_iff.2 (fun q=>h (Nat.ble_eq.mp q))
    rw [this,cond_false]
    exact outR_same a r
theorem sepT_nulL {t:Tc} (h:nul t=true) (u:Tc):sepT t u=true:=by
  obtain ⟨h1,h2,h3,h4⟩:=nul_of h
  unfold sepT
  rw [h1]
  cases u.q with
  | true=>rfl
  | false =>
    show sepF t u=true
    unfold sepF
    rw [h2,h3,h4,outR_same]
    rfl
theorem sepT_nulR {u:Tc} (h:nul u=true) (t:Tc):sepT t u=true:=by
  obtain ⟨h1,h2,h3,h4⟩:=nul_of h
  unfold sepT
  rw [h1]
  cases t.q with
  | true=>rfl
  | false =>
    show sepF t u=true
    unfold sepF
    rw [h2,h3,disj_nil,disj_nil]
    rfl
def sepW (u:Tc) (m:Nat) (l:List (Nat × Tc)):Bool:=List.rec (motive:=fun _=>Bool) true (fun p _ ih=>Prod.rec (motive:=fun _=>Bool) (fun j t=>Bool.rec (motive:=fun _=>Bool) (Bool.rec (motive:=fun _=>Bool) false ih (bitB m j)) ih (sepT t u)) p) l
def sepP (bits:Nat→Nat) (l:List (Nat × Tc)):Bool:=List.rec (motive:=fun _=>Bool) true (fun p r ih=>Prod.rec (motive:=fun _=>Bool) (fun i u=>Bool.rec (motive:=fun _=>Bool) false ih (sepW u (bits i) r)) p) l
theorem sepU_nul {u:Tc} (h:nul u=true) (m:Nat):∀ (r:List Tc) (n:Nat),sepAll.sepU u m r n=true
  | [],_=>rfl
  | t::r,n=>by rw [sepAll.sepU,sepT_nulR h,cond_true];exact sepU_nul h m r _
theorem sepU_eq (u:Tc) (m:Nat):∀ (r:List Tc),sepAll.sepU u m r r.length=sepW u m (flt r)
  | []=>rfl
  | t::r=>by
    have ih:=sepU_eq u m r
    simp only [List.length_cons,sepAll.sepU,Nat.add_sub_cancel,flt,psh,ih]
    cases hn:nul t with
    | true=>rw [sepT_nulL hn];rfl
    | false =>
      show _=Bool.rec (motive:=fun _=>Bool) (Bool.rec (motive:=fun _=>Bool) false (sepW u m (flt r)) (bitB m r.length)) (sepW u m (flt r)) (sepT t u)
      cases sepT t u <;> cases bitB m r.length <;> rfl
theorem sepAll_eq (bits:Nat→Nat):∀ (ts:List Tc) (ms:List Nat),ms.length=ts.length→(∀ i,i<ts.length→ms[ts.length-1-i]?=some (bits i))→sepAll ts ms=sepP bits (flt ts)
  | [],_,_,_=>by unfold sepAll;rfl
  | u::r,[],h,_=>by simp at h
  | u::r,m::ms,hl,hb=>by
    have ih:=sepAll_eq bits r ms (by simpa using hl) (fun i hi=>by
      have:=hb i (by simp;omega)
      rw [show (u::r).length-1-i=(r.length-1-i)+1 by simp;omega,List.getElem?_cons_succ] at this
      exact this)
    have hm:m=bits r.length:=by
      have:=hb r.length (by simp)
      rw [show (u::r).length-1-r.length=0 by simp,List.getElem?_cons_zero,Option.some.injEq] at this
      exact this
    rw [sepAll,ih,llen_eq]
    simp only [flt,psh]
    cases hn:nul u with
    | true=>rw [sepU_nul hn];rfl
    | false =>
      rw [sepU_eq,hm]
      show _=Bool.rec (motive:=fun _=>Bool) false (sepP bits (flt r)) (sepW u (bits r.length) (flt r))
      cases sepW u (bits r.length) (flt r) <;> rfl
def allQF (l:List (Nat × Tc)):Bool:=List.rec (motive:=fun _=>Bool) true (fun p _ ih=>Prod.rec (motive:=fun _=>Bool) (fun _ t=>Tc.rec (motive:=fun _=>Bool) (fun _ _ _ _ q=>Bool.rec (motive:=fun _=>Bool) false ih q) t) p) l
theorem allQF_eq:∀ (ts:List Tc),allQF (flt ts)=allQ ts
  | []=>rfl
  | t::r=>by
    have ih:=allQF_eq r
    simp only [flt,psh,allQ,← ih]
    cases hn:nul t with
    | true=>rw [(nul_of hn).1];rfl
    | false =>
      obtain ⟨R,W,a,b,q⟩:=t
      show Bool.rec (motive:=fun _=>Bool) false (allQF (flt r)) q=_
      cases q <;> rfl
def insAllF (b:Nat) (l:List Nat):List Nat→(List Nat→RB)→RB:=List.rec (motive:=fun _=>List Nat→(List Nat→RB)→RB) (fun R k=>k R) (fun x _ ih R k=>insF b x R fun R'=>ih R' k) l
theorem insAllF_eq (b:Nat):∀ (l R:List Nat) (k:List Nat→RB),insAllF b l R k=insAllK b l R k
  | [],_,_=>rfl
  | x::r,R,k=>by
    simp only [insAllK,← insAllF_eq b r]
    show insF b x R (fun R'=>insAllF b r R' k)=_
    exact insF_eq b x R _
def tellF (b:Nat) (l:List (Nat × Tc)):List Nat→List Nat→(List Nat→List Nat→RB)→RB:=List.rec (motive:=fun _=>List Nat→List Nat→(List Nat→List Nat→RB)→RB) (fun R W k=>k R W) (fun p _ ih R W k=>Prod.rec (motive:=fun _=>RB) (fun _ t=>Tc.rec (motive:=fun _=>RB) (fun tR tW _ _ _=>insAllF b tR R fun R'=>insAllF b tW W fun W'=>ih R' W' k) t) p) l
theorem tellF_eq (b:Nat):∀ (ts:List Tc) (R W:List Nat) (k:List Nat→List Nat→RB),tellF b (flt ts) R W k=tellK b ts R W k
  | [],_,_,_=>rfl
  | t::r,R,W,k=>by
    simp only [flt,psh,tellK,← tellF_eq b r]
    cases hn:nul t with
    | true=>rw [(nul_of hn).2.1,(nul_of hn).2.2.1];rfl
    | false =>
      simp only [← insAllF_eq]
      rfl
/-- nothing is told where nothing is asked for -/
def tellZ (b:Nat) (l:List (Nat × Tc)) (R W:List Nat) (k:List Nat→List Nat→RB):RB:=Nat.rec (motive:=fun _=>RB) (k R W) (fun _ _=>tellF b l R W k) b
theorem tellK_0:∀ (ts:List Tc) (R W:List Nat) (k:List Nat→List Nat→RB),tellK 0 ts R W k=k R W
  | [],_,_,_=>rfl
  | t::r,R,W,k=>by
    have hi:∀ (l R:List Nat) (k:List Nat→RB),insAllK 0 l R k=k R:=by
      intro l
      induction l with
      | nil=>intros;rfl
      | cons x l ih=>intro R k;simp only [insAllK,insK];exact ih _ _
    simp only [tellK,hi]
    exact tellK_0 r R W k
theorem tellZ_eq (b:Nat) (ts:List Tc) (R W:List Nat) (k:List Nat→List Nat→RB):tellZ b (flt ts) R W k=tellK b ts R W k:=by
  cases b with
  | zero=>exact (tellK_0 ts R W k).symm
  | succ b=>exact tellF_eq (b+1) ts R W k
def endF (i:Nat) (h:Tr SO) (nx:Nat) (st':St) (acc:List (Nat × Tc)) (k:Tr SO→Nat→List (Nat × Tc)→RB):RB:=St.rec (motive:=fun _=>RB) (fun h' nx' b' R W=>List.rec (motive:=fun _=>RB) (Bool.rec (motive:=fun _=>RB) (endK h nx st' fun h2 nx2 t=>k h2 nx2 (psh i t acc)) (List.rec (motive:=fun _=>RB) (k h nx acc) (fun _ _ _=>k h nx ((i,⟨R,[],nx,nx,true⟩)::acc)) R) (Nat.beq nx nx')) (fun _ _ _=>endK h nx st' fun h2 nx2 t=>k h2 nx2 (psh i t acc)) W) st'
theorem endF_eq (i:Nat) (h:Tr SO) (nx:Nat) (st':St) (acc:List (Nat × Tc)) (k:Tr SO→Nat→List (Nat × Tc)→RB):endF i h nx st' acc k=endK h nx st' fun h2 nx2 t=>k h2 nx2 (psh i t acc):=by
  obtain ⟨h',nx',b',R,W⟩:=st'
  cases W with
  | cons x W=>rfl
  | nil =>
    show Bool.rec (motive:=fun _=>RB) (endK h nx ⟨h',nx',b',R,[]⟩ fun h2 nx2 t=>k h2 nx2 (psh i t acc)) (List.rec (motive:=fun _=>RB) (k h nx acc) (fun _ _ _=>k h nx ((i,⟨R,[],nx,nx,true⟩)::acc)) R) (Nat.beq nx nx')=_
    cases hb:Nat.beq nx nx' with
    | false=>rfl
    | true =>
      simp only [endK,quietB,hb,cond_true]
      cases R with
      | nil =>
        have:nul ⟨[],[],nx,nx,true⟩=true:=by simp [nul]
        simp only [psh,this];rfl
      | cons x R=>rfl
end
end
end Go.TX
namespace Go.TX
open Go Go.TH
noncomputable section
abbrev CV:=List SV
/-- the temporaries that a code may set -/
def dstsC:Code→List Nat
  | .region _ ops _=>ops.toList.filterMap (·.dst)
  | .seq x y=>dstsC x++dstsC y
  | .cond _ x y=>dstsC x++dstsC y
  | .block _ b=>dstsC b
  | .loop b=>dstsC b
  | .rangeFunc _ ps assign body=>ps.toList++(dstsC assign++dstsC body)
  | .scope b=>dstsC b
  | _=>[]
/-- those below n that are not in A -/
def keptL (A:List Nat):Nat→List Nat
  | 0=>[]
  | n+1=>bif memb n A then keptL A n else n::keptL A n
def sameO:Option SV→Option SV→Bool
  | none,none=>true
  | some a,some b=>eqV a b
  | _,_=>false
def keptB (env env':Tr SV):List Nat→Bool
  | []=>true
  | t::r=>bif sameO (env.get t) (env'.get t) then keptB env env' r else false
/-- what is carried from round to round: values without an address -/
def carL (env:Tr SV):List Nat→List Nat→Option (List Nat)
  | [],acc=>some acc
  | t::r,acc=>match env.get t with
    | none=>carL env r acc
    | some (.raw _)=>bif memb t acc then carL env r acc else carL env r (t::acc)
    | some _=>none
def anyT (env:Tr SV):List Nat→Tr SV
  | []=>env
  | t::r=>match (anyT env r).get t with
    | none=>(anyT env r).set t (some .any)
    | some _=>anyT env r
def putT (env:Tr SV):List Nat→CV→Tr SV
  | t::r,v::vs=>(putT env r vs).set t (some v)
  | _,_=>env
def getT (env:Tr SV):List Nat→Option CV
  | []=>some []
  | t::r=>match env.get t with
    | some (.raw v)=>match getT env r with
      | some l=>some (.raw v::l)
      | none=>none
    | _=>none
def isNl:List Nat→Bool
  | []=>true
  | _=>false
def isNrm:Ex→Bool
  | .nrm=>true
  | _=>false
def lookT:List (CV × List CV)→CV→Option (List CV)
  | [],_=>none
  | (q,row)::T,p=>bif eqVs q p then some row else lookT T p
def allB {α:Type} (f:α→Bool):List α→Bool
  | []=>true
  | x::r=>bif f x then allB f r else false
def mapO {α β:Type} (f:α→Option β):List α→Option (List β)
  | []=>some []
  | x::r=>match f x with
    | some y=>match mapO f r with
      | some l=>some (y::l)
      | none=>none
    | none=>none
/-- row i is column i -/
def symR (M:List (List CV)):List (List CV)→Nat→Bool
  | [],_=>true
  | r::rs,i=>match mapO (fun x=>nth x i) M with
    | some c=>bif eqL eqVs r c then symR M rs (Nat.succ i) else false
    | none=>false
def comB (T:List (CV × List CV)):List (CV × List CV)→Bool
  | []=>true
  | (_,row)::r=>match mapO (lookT T) row with
    | some M=>bif symR M M 0 then comB T r else false
    | none=>false
/-- one after the other -/
def runT (T:List (CV × List CV)):Nat→Nat→CV→Option CV
  | 0,_,q=>some q
  | n+1,i,q=>match lookT T q with
    | some row=>match nth row i with
      | some q'=>runT T n (Nat.succ i) q'
      | none=>none
    | none=>none
section
variable (P:Program) (sm:Sums) (rec:Rec) (ro:Option Nat) (N:Nat) (ops os:List Oper) (C:Code) (d:Nat) (car kept:List Nat) (ds:List Nat) (i m since clk:Nat) (envN:Tr SV) (h:Tr SO) (nx:Nat)
/-- a round with an entry -/
def rndS (q:CV) (e:SEnt):Option (CV × List Nat × Nat):=match exL P sm rec N ops os ((putT envN car q).set d (some (.tup [.raw (.bool true),e.key,e.val]))) ⟨h.set i (some (.itl m since e.born clk)),nx,nx,[],[]⟩ with
  | some [(env2,st2)]=>match rec ro N C env2 ds st2 with
    | some [(e3,env3,ds3,st3)]=>bif isNrm e3&&(eqL Nat.beq ds3 ds&&(isNl st3.W&&(Nat.ble nx st3.nx&&keptB (putT envN car q) env3 kept))) then (match getT env3 car with
      | some q'=>some (q',st3.R,st3.nx)
      | none=>none) else none
    | _=>none
  | _=>none
def rowS (b:Nat) (q:CV):List SEnt→List Nat→Nat→Option (List CV × List Nat × Nat)
  | [],R,n=>some ([],R,n)
  | e::r,R,n=>match rndS P sm rec ro N ops os C d car kept ds i m since clk envN h nx q e with
    | some (q',R',n')=>match rowS b q r (insAllK b R' R fun R2=>R2) (bif Nat.ble n n' then n' else n) with
      | some (l,R2,n2)=>some (q'::l,R2,n2)
      | none=>none
    | none=>none
def expS (b:Nat) (es:List SEnt):Nat→List CV→List (CV × List CV)→List Nat→Nat→Option (List (CV × List CV) × List Nat × Nat)
  | _,[],T,R,n=>some (T,R,n)
  | 0,_::_,_,_,_=>none
  | f+1,q::ps,T,R,n=>match lookT T q with
    | some _=>expS b es f ps T R n
    | none=>match rowS P sm rec ro N ops os C d car kept ds i m since clk envN h nx b q es R n with
      | some (row,R',n')=>expS b es f (row++ps) ((q,row)::T) R' n'
      | none=>none
/-- when all entries have been handed out -/
def lstS (q:CV) (b:Nat) (R W:List Nat) (n:Nat):Option (List Out):=match exL P sm rec N ops os ((putT envN car q).set d (some (.tup [.raw (.bool false)]))) ⟨h.set i none,n,b,R,W⟩ with
  | some L=>match mapB (fun p=>rec ro N C p.1 ds p.2) L with
    | some L2=>bif allB (fun o=>!isNrm o.1) L2 then some L2 else none
    | none=>none
  | none=>none
end
/-- a loop over a map of two entries or more -/
def mlGo (P:Program) (sm:Sums) (rec:Rec) (ro:Option Nat) (N:Nat) (ops os:List Oper) (C:Code) (x d:Nat) (A:List Nat) (env:Tr SV) (ds:List Nat) (st:St):Option (List Out):=match st with
  | ⟨h,nx,b,R,W⟩=>bif memb x A then none else (bif memb d A&&Nat.blt d N then (match env.get x with
    | some (.ptr i 0)=>match h.get i with
      | some (.iter (some m) since [] clk)=>match h.get m with
        | some (.map es clk')=>bif Nat.beq clk clk'&&(Nat.ble since clk&&(oldB since es&&(Nat.ble b i&&(nodupB es []&&Nat.ble 2 (llen es))))) then (match carL env A [] with
          | some car=>match getT env car with
            | some q0=>match expS P sm rec ro N ops os C d car (keptL A N) ds i m since clk (anyT env A) h nx b es (Nat.add (Nat.mul 4 (llen es)) 10) [q0] [] (insK b m R fun R'=>R') nx with
              | some (T,R2,n2)=>bif comB T T then (match runT T (llen es) 0 q0 with
                | some q=>lstS P sm rec ro N ops os C d car ds i (anyT env A) h q b R2 W n2
                | none=>none) else none
              | none=>none
            | none=>none
          | none=>none) else none
        | _=>none
      | _=>none
    | _=>none) else none)
def mlS (P:Program) (sm:Sums) (rec:Rec) (ro:Option Nat) (N:Nat) (c:Code) (env:Tr SV) (ds:List Nat) (st:St):Option (List Out):=match c with
  | .loop b=>match b with
    | .seq a C => match a with
      | .region _ ops draw=>match draw with
        | false=>match ops.toList with
          | o::os=>match o.op with
            | .next x s=>match s with
              | false=>match x with
                | .tmp x=>match o.guard with
                  | none=>match o.dst with
                    | some d=>mlGo P sm rec ro N (o::os) os C x d (dstsC b) env ds st
                    | none=>none
                  | _=>none
                | _=>none
              | _=>none
            | _=>none
          | _=>none
        | _=>none
      | _=>none
    | _=>none
  | _=>none
def stepM (P:Program) (sm:Sums) (rec:Rec):Rec:=fun ro N c env ds st=>match mlS P sm rec ro N c env ds st with
  | some L=>some L
  | none=>stepC P sm rec ro N c env ds st
end
end Go.TX
