/-
  What is proved here: tables of numbers: slices of arrays of arrays. Conditions: none; each rule states its own.
-/
import Derived.Test.YtfchgmiiicidcaaGreatM4
import Derived.Test.YtfchgmiiicidcaaGreatM2
set_option linter.unusedVariables false
set_option linter.unusedSimpArgs false
namespace Go.TH
open Go
section
variable {P:Program} {C:Cx P} {E:Env} {H:List HP}
theorem prt_prt (p:Addr) (a b:Nat):(prt p a).add b=prt p (a+b):=by rw [prt_eq,prt_eq,Addr.add_add]
section rules
variable {ops:Array Oper} {K:KP} {rest:List Oper} {d:Nat} {ty:TypeId} {pos:String} {af:Array Edge} {x y:Operand} {T:TypeId}
/-- an element of an array at an address, and of an array within one -/
theorem WO.indexArr0 {len e sz:Nat} {k:IntKind} {i:Nat} {zi:Int} {p:Addr} (hT:C.tt.ar? T=some (len,e,sz)) (hx:ev E x=some (.pointer (some p))) (hy:ev E y=some (.int k zi)) (hz:zi=(i:Int)) (h1:i<len) (hN:Nat.blt d C.N=true)
    (h:WO C ops rest K ((d,.pointer (some (prt p (i*sz))))::E) H):WO C ops (⟨some d,.indexAddr T x y,ty,pos,af,none⟩::rest) K E H:=by
  subst hz
  refine WO.indexArr hT hx hy (by omega) (by omega) hN ?_
  rw [Int.toNat_natCast,← prt_eq];exact h
theorem WO.indexArrP {len e sz fo fo':Nat} {k:IntKind} {i:Nat} {zi:Int} {p:Addr} (hT:C.tt.ar? T=some (len,e,sz)) (hx:ev E x=some (.pointer (some (prt p fo)))) (hy:ev E y=some (.int k zi)) (hz:zi=(i:Int)) (h1:i<len) (hf:fo+i*sz=fo') (hN:Nat.blt d C.N=true)
    (h:WO C ops rest K ((d,.pointer (some (prt p fo')))::E) H):WO C ops (⟨some d,.indexAddr T x y,ty,pos,af,none⟩::rest) K E H:=by
  subst hz hf
  refine WO.indexArr hT hx hy (by omega) (by omega) hN ?_
  rw [Int.toNat_natCast,prt_prt];exact h
end rules
/-- the cells of a table of n rows of sz numbers -/
def tabC (sz n:Nat) (g:Nat→Int):List Value:=(List.range (n*sz)).map fun k=>.int .i64 (g k)
theorem tabC_len (sz n:Nat) (g:Nat→Int):(tabC sz n g).length=n*sz:=by simp [tabC]
theorem tabC_get {sz n k:Nat} {g:Nat→Int} (h:k<n*sz):(tabC sz n g)[k]?=some (.int .i64 (g k)):=by
  unfold tabC;rw [List.getElem?_map,List.getElem?_range h];rfl
def updF (g:Nat→Int) (k:Nat) (c:Int):Nat→Int:=fun j=>if j=k then c else g j
theorem updF_same (g:Nat→Int) (k:Nat) (c:Int):updF g k c k=c:=if_pos rfl
theorem updF_other {g:Nat→Int} {k j:Nat} {c:Int} (h:j≠k):updF g k c j=g j:=if_neg h
theorem tabC_set {sz n k:Nat} {g:Nat→Int} {c:Int} (h:k<n*sz):(tabC sz n g).set k (.int .i64 c)=tabC sz n (updF g k c):=by
  refine List.ext_getElem? fun j=>?_
  rw [List.getElem?_set,tabC_len]
  rcases Nat.lt_or_ge j (n*sz) with hj | hj
  · by_cases e:k=j
    · subst e;rw [if_pos rfl,if_pos h,tabC_get h,updF_same]
    · rw [if_neg e,tabC_get hj,tabC_get hj,updF_other (fun x=>e x.symm)]
  · have h1:k≠j:=by omega
    rw [if_neg h1,List.getElem?_eq_none (by rw [tabC_len];exact hj),List.getElem?_eq_none (by rw [tabC_len];exact hj)]
/-- a table of one's own -/
def TabP (e sz:Nat) (v:Value) (n:Nat) (g:Nat→Int):HP:=OwC e sz v n (tabC sz n g)
/-- a table below block B -/
structure RdT (sz B:Nat) (w:World) (v:Value) (n:Nat) (g:Nat→Int):Prop where
  sl:IsSl v n
  blk:0<n→(base v).block<B
  cell:∀ i j,i<n→j<sz→w.cell? (((base v).add (i*sz)).add j)=some (.int .i64 (g (i*sz+j)))
theorem at_lt {i j n sz:Nat} (hi:i<n) (hj:j<sz):i*sz+j<n*sz:=by
  have:=Nat.mul_le_mul_right sz (show i+1≤n by omega)
  rw [Nat.add_mul] at this;omega
theorem RdT.of {e sz n:Nat} {v:Value} {g:Nat→Int} {H' L:List HP} {w:World} (p:Pick (TabP e sz v n g) H H') (hs:0<sz) (hi:Inv C.w0 C.M (L++H) w):RdT sz w.heap.size w v n g:=by
  have key:∀ i j,i<n→j<sz→w.cell? (((base v).add (i*sz)).add j)=some (.int .i64 (g (i*sz+j))):=fun i j h1 h2 =>
    OwC.cellAt (C:=C) p (tabC_get (at_lt h1 h2)) L w hi
  refine ⟨OwC.sl p L w hi,fun hn=>?_,key⟩
  have:=World.block_lt_of_cell? w _ (key 0 0 hn hs)
  rw [addr_add_block,addr_add_block] at this
  exact this
theorem RdT.cellAt {sz n:Nat} {v:Value} {g:Nat→Int} (h:RdT sz C.B C.w0 v n g) {i j:Nat} (hi:i<n) (hj:j<sz):Cell C H (prt (elt v i sz) j) (.int .i64 (g (i*sz+j))):=by
  rw [prt_eq,elt_eq]
  exact Cell.old (by rw [addr_add_block,addr_add_block];exact h.blk (by omega)) (h.cell i j hi hj)
theorem RdT.later {sz n:Nat} {v:Value} {g:Nat→Int} {L:List HP} {w:World} (h:RdT sz C.B C.w0 v n g) (hi:Inv C.w0 C.M (L++H) w):RdT sz w.heap.size w v n g :=
  ⟨h.sl,fun hn=>Nat.lt_of_lt_of_le (h.blk hn) (Nat.le_trans C.hB hi.size),fun i j h1 h2=>by have:=(h.cellAt (H:=H) h1 h2) L w hi;rwa [prt_eq,elt_eq] at this⟩
section rules
variable {ops:Array Oper} {K:KP} {rest:List Oper} {d:Nat} {ty:TypeId} {pos:String} {af:Array Edge} {x y:Operand} {T:TypeId}
theorem WO.storeT {e sz n i j:Nat} {v:Value} {g:Nat→Int} {c:Int} {H':List HP} (hx:ev E x=some (.pointer (some (prt (elt v i sz) j)))) (hy:ev E y=some (.int .i64 c)) (hT:C.tt.one? T=true) (p:Pick (TabP e sz v n g) H H') (hl:i<n) (hj:j<sz)
    (h:WO C ops rest K E (TabP e sz v n (updF g (i*sz+j) c)::H')):WO C ops (⟨none,.store T x y,ty,pos,af,none⟩::rest) K E H:=by
  refine WO.step0 rfl rfl (XO.run (by simp) fun L a w hf hi=>?_)
  obtain ⟨hcl,hcase⟩:=OwC.open (hi.pickL p)
  rcases hcase with ⟨rfl,rfl,hv⟩ | ⟨q,cap,cur,rfl,q1,q2,q3,q4,hv⟩
  · omega
  · have hlook:=(hv.look (b:=q) (o:=.cells cur.toArray e (0,0)) ((Pick.head).app L)).1
    have ea:prt (elt (.slice (some ⟨q,0,none⟩) n cap) i sz) j=⟨q,i*sz+j,none⟩:=by rw [prt_eq,elt_eq,Addr.add_add];simp [base,Addr.add_lit]
    have hk:=at_lt hl hj
    have hle:n*sz≤cap*sz:=Nat.mul_le_mul_right _ q1
    obtain ⟨w',hr,a1,a2,a3,a4,a5,a6⟩:=run_storeVar_own (P:=P) (T:=T) (b:=q) (off:=i*sz+j) (w:=w) (cs:=cur) (v:=.int .i64 c) (vs:=[.int .i64 c]) (by simp [Value.cells]) (CT.of hT).size hlook (by simp;omega) (by simp [Value.oneCell'])
    refine ⟨undef,w',_,.inr ⟨?_,rfl⟩,h,?_⟩
    · simp [execOp,hf.eval hx,hf.eval hy,ea,Instr.storeAt,Instr.sureAddr,hr]
    · have h2:=hv.set (b:=q) (o:=.cells cur.toArray e (0,0)) (H':=L++H') Pick.mem a1 a2 a3 a4 a5 a6
      have h3:=h2.perm (List.perm_middle (l₁:=L) (l₂:=H')).symm
      refine OwC.shut (tabC_len sz n _) q1 q2 (by simpa [wrl] using q3) ?_ h3
      simp only [wrl]
      rw [List.take_set,q4,tabC_set hk]
theorem WO.makeT {e sz by' n:Nat} {zv:Value} {k k':IntKind} (hs:0<sz) (hT:C.tt.sl? T=some (e,sz,by')) (hz:C.tt.z? e=some zv) (hc:zv.cells=(List.replicate sz (.int .i64 0)).toArray) (hx:ev E x=some (.int k (n:Int))) (hy:ev E y=some (.int k' (n:Int)))
    (hb:by'*n≤281474976710656) (h63:n≤9223372036854775807) (hN:Nat.blt d C.N=true)
    (h:∀ b,WO C ops rest K ((d,.slice (some ⟨b,0,none⟩) n n)::E) (TabP e sz (.slice (some ⟨b,0,none⟩) n n) n (fun _=>0)::H)):WO C ops (⟨some d,.makeSlice T x y,ty,pos,af,none⟩::rest) K E H:=by
  refine WO.makeOwN hT hz hc (by simp) hs hx hy hb h63 hN fun b=>?_
  have:=h b
  unfold TabP at this
  rw [show tabC sz n (fun _=>0)=(List.replicate n (List.replicate sz (Value.int .i64 0))).flatten by unfold tabC;rw [List.flatten_replicate_replicate,List.map_const',List.length_range]] at this
  exact this
end rules
/-- a range over a function whose rounds all go on; the iterator may look at the caller's pieces -/
theorem W.rangeFuncG {g:Operand} {p:Tmp} {assign body:Code} {Q:Post} {f:FuncId} {captured:List Value} (Hit:List HP) (HI:Nat→List HP) (xs:List Value) (hro:C.ro=none) (hN:Nat.blt p C.N=true)
    (hg:ev E g=some (.func (.func f) #[] captured.toArray)) (hcall:∀ (args:Array Value) (w:World),(callFunc f args).run P w=.ok (.enter f args) w)
    (hH:Sub H (Hit++HI 0))
    (hiter:∀ (l:Nat) (Hc:Nat→List HP),(∀ k x,xs[k]?=some x→YieldOK P C.B C.w0 l #[x] (Hc k) (Hc (k+1)))→(∀ k,∃ A,Hc k=A::HI k) →
      ∀ w M',C.B≤w.heap.size→(∀ k,k<C.B→w.heap[k]?=C.w0.heap[k]?)→(∀ b∈M',C.B≤b)→Inv w M' (Hit++Hc 0) w→Ct P f (#[.func (.yield l) #[] #[]]++captured.toArray) w fun _ w'=>Inv w M' (Hit++Hc xs.length) w')
    (hround:∀ (l:Nat) (w:World) (M:List Nat) (hB:C.B≤w.heap.size) (hM:∀ b∈M,C.B≤b),(∀ k,k<C.B→w.heap[k]?=C.w0.heap[k]?)→∀ k x,xs[k]?=some x →
      W (rdCx C l w M hB hM) assign (thn (fun E2 H2=>W (rdCx C l w M hB hM) body (thn (fun _ H3=>Sub H3 (HI (k+1))) (fun _ _ _=>False)) E2 H2) (fun _ _ _=>False)) ((p,x)::E) (HI k))
    (h:Q .normal E (Hit++HI xs.length)):W C (.rangeFunc g #[p] assign body) Q E H:=by
  intro L ds a w hs
  have hF:C.F=Fence.wide:=by unfold Cx.F;rw [hro];rfl
  rw [hF]
  refine wpIn_rangeFunc ?_
  intro fn hfn
  obtain ⟨rec,hrec⟩:∃ rec:LoopState→Option Code→Loop,rec=fun st pe=>{ state:=st,pending:=pe,fn,tmps:=a.tmps,params:=#[p],assign,body,defers:=w.heap.size }:=⟨_,rfl⟩
  obtain ⟨W1,hW1⟩:∃ W1,(w.alloc (.deferred (some []))).alloc (.loop (rec .ready none))=W1:=⟨_,rfl⟩
  let D:=w.heap.size
  let l:=w.heap.size+1
  have hinv1:Inv C.w0 C.M ((((D::ds).map ptd)++L)++((Hit++(pt l (.loop (rec .ready none))::HI 0)))) W1:=by
    have i1:=hs.inv.sub (Sub.app hH _)
    have i2:=i1.alloc (.deferred (some []))
    have i3:=i2.alloc (.loop (rec .ready none))
    rw [hW1] at i3
    have e:(w.alloc (.deferred (some []))).heap.size=l:=by simp [l]
    rw [e] at i3
    refine i3.perm ?_
    have q1:(pt l (.loop (rec .ready none))::ptd D::((ds.map ptd++L)++(Hit++HI 0))).Perm (pt l (.loop (rec .ready none))::((((D::ds).map ptd)++L++Hit)++HI 0)):=by
      simp [List.append_assoc]
    refine q1.trans ?_
    have q2:=(List.perm_middle (a:=pt l (.loop (rec .ready none))) (l₁:=((D::ds).map ptd)++L++Hit) (l₂:=HI 0)).symm
    simpa [List.append_assoc] using q2
  refine ⟨l,[{ target:=.collected D,args:=#[] }],W1,{ target:=.fn (.func f) captured.toArray,args:=#[.func (.yield l) #[] #[]] },W1,f,#[.func (.yield l) #[] #[]]++captured.toArray,W1,?_,?_,?_,?_,fun h=>by simp [Fence.wide] at h,?_⟩
  · rw [← hW1,hrec];exact run_enterLoop_outer _ _ _ _ _
  · simp only [resolve,hs.fr.eval hg]
    simp [go_sem,Deferred.ofValue,Act.eval]
  · intro f' hf';trivial
  · simp [invoke,hcall]
  · -- the iterator is handed its own pieces, and the caller's
    let Hc:Nat→List HP:=fun k=>pt l (.loop (rec .ready none))::HI k
    have hi2:Inv C.w0 C.M ((Hit++Hc 0)++(((D::ds).map ptd)++L)) W1:=hinv1.perm List.perm_append_comm
    obtain ⟨M',h1,h2,s,pa,pb,hM⟩:=handed hi2
    have hMB:∀ b∈M',C.B≤b:=fun b hb=>by
      rcases (handed_own s hM b hb).1 with h | h
      · exact Nat.le_trans C.hB h
      · exact C.hM b h
    have hy:∀ k x,xs[k]?=some x→YieldOK P C.B C.w0 l #[x] (Hc k) (Hc (k+1)):=by
      intro k x hx wy My hyB hyk hyM hyi
      have hl:wy.heap[l]?=some (.loop (rec .ready none)):=(hyi.look .head).1
      have hy:=run_yield (P:=P) (args:=#[x]) hl (by rw [hrec];rfl)
      refine ⟨_,_,_,_,hy,roundIn_of_wpIn trivial ?_⟩
      have hrd:=hround l wy My hyB hyM hyk k x hx
      have hst:St (rdCx C l wy My hyB hyM) [pt l (.loop (rec .ready none))] [] ((p,x)::E) (HI k) { tmps:=(#[p].zip #[x]).foldl (fun tmps (t,a)=>tmps.setIfInBounds t a) a.tmps,defers:=[] } wy:=by
        refine ⟨rfl,?_,hyi⟩
        have:=hs.fr.put (v:=x) hN
        exact ⟨by have:=this.size;simpa [Act.put,rdCx] using this,fun t u hu=>by have:=this.get t u hu;simpa [Act.put] using this⟩
      have hw:=hrd _ _ _ _ hst
      have hFr:(rdCx C l wy My hyB hyM).F=Fence.wide.inRound l:=rfl
      rw [hFr] at hw
      rw [hrec]
      rw [hrec] at hw hl
      refine wpIn_mono hw ?_
      rintro e a2 w2 ⟨ds2,E2,H2,q,st2⟩
      cases e <;> first | exact q.elim | skip
      have i2:Inv wy My (ds2.map ptd++pt l (.loop (rec .ready none))::H2) w2:=by have:=st2.inv;rw [hrec];simpa [List.append_assoc,rdCx] using this
      have hl2:=(i2.look (b:=l) (o:=.loop (rec .ready none)) ((Pick.head).app (ds2.map ptd))).1
      have i3:=putObj_inv (o':=.loop (rec .busy none)) i2
      have hb2:=run_beginRound (P:=P) hl2 (by rw [hrec])
      have e3:({ rec .ready none with state:=.busy }:Loop)=rec .busy none:=by rw [hrec]
      rw [e3] at hb2
      refine ⟨_,hb2,?_⟩
      have hw3:=q [pt l (.loop (rec .busy none))] ds2 a2 _ ⟨st2.defers,st2.fr,by simpa [List.append_assoc,rdCx] using i3⟩
      rw [hFr] at hw3
      refine wpIn_mono hw3 ?_
      rintro e4 a4 w4 ⟨ds4,E4,H4,q4,st4⟩
      cases e4 <;> first | exact q4.elim | skip
      have i4:Inv wy My (ds4.map ptd++pt l (.loop (rec .busy none))::H4) w4:=by simpa [List.append_assoc,rdCx] using st4.inv
      have hl4:=(i4.look (b:=l) (o:=.loop (rec .busy none)) ((Pick.head).app (ds4.map ptd))).1
      have i5:=putObj_inv (o':=.loop (rec .ready none)) i4
      have hb4:=run_endRound (P:=P) none hl4
      have e5:({ rec .busy none with state:=if (none:Option Code).isNone then .ready else .done,pending:=none }:Loop)=rec .ready none:=by rw [hrec];rfl
      rw [e5] at hb4
      refine ⟨_,_,hb4,rfl,?_⟩
      have q4':Sub H4 (HI (k+1)):=q4
      refine i5.sub ?_
      have s1:Sub (ds4.map ptd++pt l (.loop (rec .ready none))::H4) (pt l (.loop (rec .ready none))::H4):=by
        induction ds4.map ptd with
        | nil=>exact Sub.refl _
        | cons A r ih=>exact Sub.tail ih
      exact s1.trans (.cons .head q4')
    have hct:=hiter l Hc hy (fun k=>⟨_,rfl⟩) W1 M' (Nat.le_trans C.hB (by have:=hinv1.size;exact this)) hinv1.keepB hMB (handed_start s pa hM)
    refine CallsIn.mono hct ?_
    rintro e w' ⟨v,rfl,hi'⟩
    have hb:=handed_back (hi2.sub .nil) s pb hM hi'
    have hb2:Inv C.w0 C.M ((((D::ds).map ptd)++L++Hit)++pt l (.loop (rec .ready none))::HI xs.length) w':=by
      refine hb.perm ?_
      have:=List.perm_append_comm (l₁:=Hit++Hc xs.length) (l₂:=((D::ds).map ptd)++L)
      simpa [Hc,List.append_assoc] using this
    have hl:=(hb2.look (b:=l) (o:=.loop (rec .ready none)) ((Pick.head).app _)).1
    refine ⟨none,w'.putObj l (.loop { rec .ready none with state:=.exhausted }),?_,?_⟩
    · have:=run_endLoop (P:=P) hl (by rw [hrec];simp)
      have e6:(rec .ready none).pending=none:=by rw [hrec]
      rw [this];exact congrArg (fun q=>Result.ok q _) e6
    · have h6:=putObj_inv (o':=.loop { rec .ready none with state:=.exhausted }) hb2
      have h7:=h6.dropL
      refine ⟨D::ds,E,Hit++HI xs.length,h,⟨?_,⟨hs.fr.size,hs.fr.get⟩,by simpa [List.append_assoc] using h7⟩⟩
      show [_]++a.defers=_
      rw [hs.defers];rfl
theorem Cap.upTo {w u:World} {p:Addr} {v:Value} (h:Cap w p v) (_:w.heap.size≤u.heap.size) (hk:∀ k,k<w.heap.size→u.heap[k]?=w.heap[k]?):Cap u p v:=⟨by have:=h.lt;omega,by rw [cell_agree hk h.lt];exact h.at_⟩
theorem RdT.agree {sz B n:Nat} {w w':World} {v:Value} {g:Nat→Int} (h:RdT sz B w v n g) (hk:∀ k,k<B→w'.heap[k]?=w.heap[k]?):RdT sz B w' v n g:=⟨h.sl,h.blk,fun i j h1 h2=>by rw [cell_agree hk (by rw [addr_add_block,addr_add_block];exact h.blk (by omega))];exact h.cell i j h1 h2⟩
theorem RdT.up {sz B B' n:Nat} {w:World} {v:Value} {g:Nat→Int} (h:RdT sz B w v n g) (hB:B≤B'):RdT sz B' w v n g:=⟨h.sl,fun hn=>Nat.lt_of_lt_of_le (h.blk hn) hB,h.cell⟩
/-- a table of one's own of which something is known -/
def TabX (e sz:Nat) (v:Value) (n:Nat) (p:(Nat→Int)→Prop):HP:=fun h=>∃ g,p g∧TabP e sz v n g h
theorem TabX.open {e sz n:Nat} {v:Value} {p:(Nat→Int)→Prop} {H':List HP} (pk:Pick (TabX e sz v n p) H H'):∀ h,sat H h→∃ g,p g∧sat (TabP e sz v n g::H') h:=fun h hs=>by
  obtain ⟨h1,h2,s,⟨g,hg,ht⟩,hr⟩:=pk.sat hs
  exact ⟨g,hg,h1,h2,s,ht,hr⟩
theorem TabX.shut {e sz n:Nat} {v:Value} {p:(Nat→Int)→Prop} {g:Nat→Int} {H':List HP} (hg:p g) (pk:Pick (TabP e sz v n g) H H'):∀ h,sat H h→sat (TabX e sz v n p::H') h:=fun h hs=>by
  obtain ⟨h1,h2,s,ht,hr⟩:=pk.sat hs
  exact ⟨h1,h2,s,⟨g,hg,ht⟩,hr⟩
theorem tabXm {e sz n:Nat} {v:Value} {p p':(Nat→Int)→Prop} {H':List HP} (hp:∀ g,p g→p' g) (pk:Pick (TabX e sz v n p) H H'):∀ h,sat H h→sat (TabX e sz v n p'::H') h:=fun h hs=>by
  obtain ⟨h1,h2,s,⟨g,hg,ht⟩,hr⟩:=pk.sat hs
  exact ⟨h1,h2,s,⟨g,hp g hg,ht⟩,hr⟩
theorem TabP.sl {e sz n:Nat} {v:Value} {g:Nat→Int} {H':List HP} (pk:Pick (TabP e sz v n g) H H'):∀ (L:List HP) w,Inv C.w0 C.M (L++H) w→IsSl v n:=OwC.sl pk
section clears
variable {ops:Array Oper} {K:KP} {rest:List Oper} {d:Nat} {ty:TypeId} {pos:String} {af:Array Edge} {x y:Operand} {T:TypeId}
end clears
end
end Go.TH
namespace Go.Proofs.YtfchgmiiicidcaaGreat.Fa
open Go Go.TH
attribute [local irreducible] W WO pt
set_option maxRecDepth 10000
set_option maxHeartbeats 1000000
structure DrR (n:Nat) (w:World) (p:Addr) (v:Value) (l:List (Int × Int)) (t B T:Int) (lv:Value):Prop where
 c:RdC n w p [v,.int .i64 t,.int .i64 B,.int .i64 T,lv]
 r:RdF encP 2 n w v l
def DrS (n0:Nat) (w0:World) (S:HP) (p:Addr) (v:Value) (l:List (Int × Int)) (t B T:Int) (lv:Value):Prop:=∀ (u:World) (M:List Nat) (L H:List HP) (w:World),Inv u M (L++S::H) w→n0≤w.heap.size→(∀ k,k<n0→w.heap[k]?=w0.heap[k]?)→DrR w.heap.size w p v l t B T lv
section
variable {p:Addr} {v:Value} {l:List (Int × Int)} {t B T:Int} {lv:Value} {S:HP}
theorem DrR.later {C:Cx Tryz.prog} {H L:List HP} {w:World} (h:DrR C.B C.w0 p v l t B T lv) (hi:Inv C.w0 C.M (L++H) w):DrR w.heap.size w p v l t B T lv:=⟨h.c.later hi,h.r.later hi⟩
theorem DrR.up {n n':Nat} {w:World} (h:DrR n w p v l t B T lv) (hn:n≤n'):DrR n' w p v l t B T lv:=⟨h.c.up hn,h.r.up hn⟩
theorem DrR.agree {n:Nat} {w w':World} (h:DrR n w p v l t B T lv) (hk:∀ k,k<n→w'.heap[k]?=w.heap[k]?):DrR n w' p v l t B T lv:=⟨h.c.agree hk,h.r.agree hk⟩
theorem DrS.old {n0:Nat} {w0:World} (h:DrR n0 w0 p v l t B T lv):DrS n0 w0 S p v l t B T lv:=fun _ _ _ _ _ _ h1 h2=>(h.agree h2).up h1
theorem DrS.agree {n0:Nat} {w0 w1:World} (h:DrS n0 w0 S p v l t B T lv) (hk:∀ k,k<n0→w1.heap[k]?=w0.heap[k]?):DrS n0 w1 S p v l t B T lv:=fun u M L H w hi h1 h2=>h u M L H w hi h1 (fun k hlt=>by rw [h2 k hlt,hk k hlt])
theorem DrS.at {C:Cx Tryz.prog} {H H' L:List HP} {w:World} (h:DrS C.B C.w0 S p v l t B T lv) (pk:Pick S H H') (hi:Inv C.w0 C.M (L++H) w):DrR w.heap.size w p v l t B T lv:=h _ _ L H' w (hi.pickL pk) (Nat.le_trans C.hB hi.size) hi.keepB
theorem DrS.sat {n0:Nat} {w0:World} {A:HP} {R:List HP} (h:DrS n0 w0 S p v l t B T lv):DrS n0 w0 (sat (A::S::R)) p v l t B T lv:=fun u M L H w hi h1 h2=>by
 have h3:Inv u M (L++(A::S::R++H)) w:=Inv.chg (L:=L) hi sat_many
 exact h u M (L++[A]) (R++H) w (by simpa using h3) h1 h2
theorem DrS.cell0 {C:Cx Tryz.prog} {H:List HP} (h:DrS C.B C.w0 S p v l t B T lv) (sb:Sub H [S]):Cell C H p v:=fun L w hi=>by
 cases sb with
 | cons pk _ =>
  have:=(h.at pk hi).c.at_ 0 v rfl
  rwa [addr_add_zero] at this
theorem DrS.cellAt {C:Cx Tryz.prog} {H:List HP} (h:DrS C.B C.w0 S p v l t B T lv) (sb:Sub H [S]) {j:Nat} {u:Value} (hu:lget [v,.int .i64 t,.int .i64 B,.int .i64 T,lv] j=some u):Cell C H (prt p j) u:=fun L w hi=>by
 cases sb with
 | cons pk _ =>
  rw [lget_eq] at hu
  rw [prt_eq]
  exact (h.at pk hi).c.at_ j u hu
theorem DrS.lo {C:Cx Tryz.prog} {H:List HP} (h:DrS C.B C.w0 S p v l t B T lv) (sb:Sub H [S]) {i j:Nat} {z:Int} (hi:i<l.length) (hj:j=i) (hz:z=(l.getD i (0,0)).1):Cell C H (elt v j 2) (.int .i64 z):=fun L w hi'=>by
 cases sb with
 | cons pk _ =>
  subst hj hz
  have:=(h.at pk hi').r.cell j (l.getD j (0,0)) (getD_some hi _) 0 _ rfl
  rw [addr_add_zero] at this
  rw [elt_eq];exact this
end
theorem RdF.loZ {C:Cx Tryz.prog} {H:List HP} {v:Value} {l:List (Int × Int)} (h:RdF encP 2 C.B C.w0 v l) {i j:Nat} (hi:i<l.length) (hj:j=i):Cell C H (elt v j 2) (.int .i64 (l.getD i (0,0)).1):=by
 subst hj
 exact h.cell0 hi (0,0) rfl
def wid (r:Int × Int):Nat:=(r.2-r.1+1).toNat
theorem wid_ok {r:Int × Int} (h:OkG r):1≤wid r∧wid r≤5∧(wid r:Int)=r.2-r.1+1:=by unfold OkG at h;unfold wid;omega
def stV (i a b s:Nat):Value:=.agg #[.int .i64 (i:Int),.int .i64 (a:Int),.int .i64 (b:Int),.int .i64 (s:Int)]
theorem c_wide (w:World) (p:Addr) (v:Value) (l:List (Int × Int)) (t B T:Int) (lv:Value) (i:Nat) (zi:Int) (hD:DrR w.heap.size w p v l t B T lv) (hz:zi=(i:Int)) (hi:i<l.length) (hg:OkS l):Ret Tryz.prog 127 [.pointer (some p),.int .i64 zi].toArray w (.int .i64 (wid (l.getD i (0,0)):Int)):=by
 subst hz
 refine Ret.of mixed tyTab Tryz.func127 rfl rfl ?_
 have hD':DrR (fnCx mixed tyTab Tryz.f127.ntmps w).B (fnCx mixed tyTab Tryz.f127.ntmps w).w0 p v l t B T lv:=hD
 have hR:=hD'.r
 have hP:=hD'.c
 have hgi:=hg _ (getD_mem hi (0,0))
 have hw:=wid_ok hgi
 unfold OkG at hgi
 refine W.sreg (WO.p rfl rfl (WO.nil (W.seq ?_)))
 refine W.drawD 18 [.r 0 [],.r 1 [],.r 2 [],.r 3 [],.b 4 [],.r 5 [],.r 6 [],.r 7 [],.b 8 [],.r 9 [],.r 10 [],.r 11 [],.r 12 [],.b 13 [],.r 14 [],.r 15 [],.r 16 [],.b 17 []] [] (A0:=[]) (Sub.refl _) (by kernel_rfl) ?_ ?_
 ·repeat constructor
 refine DT.r rfl rfl rfl (WO.p rfl rfl (WO.nil ⟨rfl,rfl⟩)) (DT.r rfl rfl rfl (WO.p rfl rfl (WO.nil ⟨rfl,rfl⟩)) (DT.r rfl rfl rfl (WO.field0 rfl rfl rfl (WO.nil ⟨rfl,rfl⟩)) (DT.r rfl rfl rfl (WO.field0 rfl rfl rfl (WO.nil ⟨rfl,rfl⟩)) ?_)))
 refine' DT.b rfl rfl rfl ?hq ?_
 case hq =>
  refine' WO.load (v:=_) rfl rfl ?hc rfl ?_
  case hc=>(first | (refine hP.cell0 ?_ <;> rfl) | (refine hR.cell0 (i:=i) ?_ (0,0) ?_ <;> first | rfl | omega) | (refine hR.cellAt (i:=i) ?_ (0,0) ?_ <;> first | rfl | omega))
  exact WO.nil ⟨rfl,rfl⟩
 refine DT.r rfl rfl rfl (WO.p rfl rfl (WO.nil ⟨rfl,rfl⟩)) (DT.r rfl rfl rfl (WO.indexAddr rfl rfl rfl hR.sl (by omega) rfl (WO.nil ⟨rfl,rfl⟩)) (DT.r rfl rfl rfl (WO.field rfl rfl rfl (WO.nil ⟨rfl,rfl⟩)) ?_))
 refine' DT.b rfl rfl rfl ?hq ?_
 case hq =>
  refine' WO.load (v:=_) rfl rfl ?hc rfl ?_
  case hc=>(first | (refine hP.cell0 ?_ <;> rfl) | (refine hR.cell0 (i:=i) ?_ (0,0) ?_ <;> first | rfl | omega) | (refine hR.cellAt (i:=i) ?_ (0,0) ?_ <;> first | rfl | omega))
  exact WO.nil ⟨rfl,rfl⟩
 refine DT.r rfl rfl rfl (WO.p rfl rfl (WO.nil ⟨rfl,rfl⟩)) (DT.r rfl rfl rfl (WO.p rfl rfl (WO.nil ⟨rfl,rfl⟩)) (DT.r rfl rfl rfl (WO.field0 rfl rfl rfl (WO.nil ⟨rfl,rfl⟩)) (DT.r rfl rfl rfl (WO.field0 rfl rfl rfl (WO.nil ⟨rfl,rfl⟩)) ?_)))
 refine' DT.b rfl rfl rfl ?hq ?_
 case hq =>
  refine' WO.load (v:=_) rfl rfl ?hc rfl ?_
  case hc=>(first | (refine hP.cell0 ?_ <;> rfl) | (refine hR.cell0 (i:=i) ?_ (0,0) ?_ <;> first | rfl | omega) | (refine hR.cellAt (i:=i) ?_ (0,0) ?_ <;> first | rfl | omega))
  exact WO.nil ⟨rfl,rfl⟩
 refine DT.r rfl rfl rfl (WO.p rfl rfl (WO.nil ⟨rfl,rfl⟩)) (DT.r rfl rfl rfl (WO.indexAddr rfl rfl rfl hR.sl (by omega) rfl (WO.nil ⟨rfl,rfl⟩)) (DT.r rfl rfl rfl (WO.field0 rfl rfl rfl (WO.nil ⟨rfl,rfl⟩)) ?_))
 refine' DT.b rfl rfl rfl ?hq ?_
 case hq =>
  refine' WO.load (v:=_) rfl rfl ?hc rfl ?_
  case hc=>(first | (refine hP.cell0 ?_ <;> rfl) | (refine hR.cell0 (i:=i) ?_ (0,0) ?_ <;> first | rfl | omega) | (refine hR.cellAt (i:=i) ?_ (0,0) ?_ <;> first | rfl | omega))
  exact WO.nil ⟨rfl,rfl⟩
 refine DT.nil [] rfl (WO.ar rfl rfl rfl (by unfold in64;omega) rfl (WO.ar rfl rfl rfl (by unfold in64;omega) rfl (WO.p rfl rfl (WO.nil (W.ret ?_)))))
 exact fin.ret (Res.one rfl (RV.tmp rfl)) (congrArg (Value.int .i64) (by omega))
theorem c_at (w:World) (p:Addr) (v:Value) (l:List (Int × Int)) (t B T:Int) (lv:Value) (g:Nat→Int) (i a b s:Nat) (hD:DrR w.heap.size w p v l t B T lv) (hT:RdT 75 w.heap.size w lv l.length g) (hi:i<l.length) (ha:a<5) (hb:b<5) (hs:s<3):Ret Tryz.prog 130 [.pointer (some p),stV i a b s].toArray w (.int .i64 (g (i*75+(a*15+b*3+s)))):=by
 refine Ret.of mixed tyTab Tryz.func130 rfl rfl ?_
 have hD':DrR (fnCx mixed tyTab Tryz.f130.ntmps w).B (fnCx mixed tyTab Tryz.f130.ntmps w).w0 p v l t B T lv:=hD
 have hT':RdT 75 (fnCx mixed tyTab Tryz.f130.ntmps w).B (fnCx mixed tyTab Tryz.f130.ntmps w).w0 lv l.length g:=hT
 have hP:=hD'.c
 refine W.sreg (WO.boxA rfl rfl (fun b1 hb1=>(WO.p rfl rfl (WO.nil (W.seq ?_)))))
 refine W.drawD 16 [.r 0 [],.r 1 [],.r 2 [],.b 3 [],.r 4 [],.b 5 [],.r 6 [],.b 7 [],.r 8 [],.b 9 [],.r 10 [],.r 11 [],.b 12 [],.r 13 [],.r 14 [],.r 15 []] [] (A0:=[]) (Sub.refl _) (by kernel_rfl) ?_ ?_
 ·repeat constructor
 refine DT.r rfl rfl rfl (WO.p rfl rfl (WO.nil ⟨rfl,rfl⟩)) (DT.r rfl rfl rfl (WO.p rfl rfl (WO.nil ⟨rfl,rfl⟩)) (DT.r rfl rfl rfl (WO.field rfl rfl rfl (WO.nil ⟨rfl,rfl⟩)) ?_))
 refine' DT.b rfl rfl rfl ?hq ?_
 case hq =>
  refine' WO.load (v:=_) rfl rfl ?hc rfl ?_
  case hc=>((refine hP.cellAt ?_ <;> rfl))
  exact WO.nil ⟨rfl,rfl⟩
 refine DT.r rfl rfl rfl (WO.field0 rfl rfl rfl (WO.nil ⟨rfl,rfl⟩)) (DT.b rfl rfl rfl (WO.load rfl rfl (Cell.own Pick.head rfl) rfl (WO.nil ⟨rfl,rfl⟩)) (DT.r rfl rfl rfl (WO.fieldL rfl rfl rfl (WO.nil ⟨rfl,rfl⟩)) (DT.b rfl rfl rfl (WO.load rfl rfl (Cell.own Pick.head rfl) rfl (WO.nil ⟨rfl,rfl⟩)) (DT.r rfl rfl rfl (WO.fieldL rfl rfl rfl (WO.nil ⟨rfl,rfl⟩)) (DT.b rfl rfl rfl (WO.load rfl rfl (Cell.own Pick.head rfl) rfl (WO.nil ⟨rfl,rfl⟩)) (DT.r rfl rfl rfl (WO.fieldL rfl rfl rfl (WO.nil ⟨rfl,rfl⟩)) (DT.r rfl rfl rfl (WO.field0 rfl rfl rfl (WO.nil ⟨rfl,rfl⟩)) (DT.b rfl rfl rfl (WO.load rfl rfl (Cell.own Pick.head rfl) rfl (WO.nil ⟨rfl,rfl⟩)) ?_))))))))
 refine DT.r rfl rfl rfl (WO.indexAddr rfl rfl rfl hT'.sl (by omega) rfl (WO.nil ⟨rfl,rfl⟩)) (DT.r rfl rfl rfl (WO.indexArr0 (i:=a) rfl rfl rfl rfl ha rfl (WO.nil ⟨rfl,rfl⟩)) (DT.r rfl rfl rfl (WO.indexArrP (i:=b) (fo':=a*15+b*3) rfl rfl rfl rfl hb rfl rfl (WO.nil ⟨rfl,rfl⟩)) (DT.nil [_] rfl (WO.indexArrP (i:=s) (fo':=a*15+b*3+s) rfl rfl rfl rfl hs (by omega) rfl ?_))))
 refine' WO.load (v:=_) rfl rfl ?hc rfl ?_
 case hc=>(exact hT'.cellAt (j:=a*15+b*3+s) hi (by omega))
 refine WO.p rfl rfl (WO.nil (W.ret ?_))
 exact fin.ret (Res.one rfl (RV.tmp rfl)) rfl
def dif (l:List (Int × Int)) (i a b c:Nat):Int:=(l.getD (i-1) (0,0)).1+a-2*((l.getD i (0,0)).1+b)+((l.getD (i+1) (0,0)).1+c)
def stp (B T:Int) (s:Nat) (d:Int):Int:=B*ab d+T*(chg s d:Int)
theorem dif_bd {l:List (Int × Int)} (hg:OkS l) {i a b c:Nat} (hi:i+1<l.length) (ha:a<5) (hb:b<5) (hc:c<5) : -5000000≤dif l i a b c∧dif l i a b c≤5000000:=by
 have h1:=hg _ (getD_mem (i:=i-1) (by omega) (0,0))
 have h2:=hg _ (getD_mem (i:=i) (by omega) (0,0))
 have h3:=hg _ (getD_mem (i:=i+1) (by omega) (0,0))
 unfold OkG at h1 h2 h3
 unfold dif
 omega
def OkC (B T:Int):Prop:=(B=0∨B=1)∧0≤T∧T≤1000000
theorem stp_bd {B T d:Int} (h:OkC B T) (hd : -5000000≤d∧d≤5000000) (s:Nat):(0≤B*ab d∧B*ab d≤5000000)∧(0≤T*(chg s d:Int)∧T*(chg s d:Int)≤1000000)∧0≤stp B T s d∧stp B T s d≤6000000:=by
 obtain ⟨h1,h2,h3⟩:=h
 have h4:=chg_le s d
 have h5:(0≤B*ab d∧B*ab d≤5000000):=by
  rcases h1 with rfl | rfl
  ·omega
  ·unfold ab;omega
 have h6:(0≤T*(chg s d:Int)∧T*(chg s d:Int)≤1000000):=by
  rcases (show chg s d=0∨chg s d=1 by omega) with e | e <;> rw [e]
  ·omega
  ·omega
 unfold stp
 omega
theorem c_on (w:World) (p:Addr) (v:Value) (l:List (Int × Int)) (t B T:Int) (lv:Value) (i a b s c:Nat) (hD:DrR w.heap.size w p v l t B T lv) (hg:OkS l) (hC:OkC B T) (h1:1≤i) (hi:i+1<l.length) (ha:a<5) (hb:b<5) (hs:s<3) (hc:c<5):Ret Tryz.prog 132 [.pointer (some p),stV i a b s,.int .i64 (c:Int)].toArray w (.tuple #[stV (i+1) b c (sg s (dif l i a b c)),.int .i64 (stp B T s (dif l i a b c))]):=by
 refine Ret.of mixed tyTab Tryz.func132 rfl rfl ?_
 have hD':DrR (fnCx mixed tyTab Tryz.f132.ntmps w).B (fnCx mixed tyTab Tryz.f132.ntmps w).w0 p v l t B T lv:=hD
 have hR:=hD'.r
 have hP:=hD'.c
 have hg1:=hg _ (getD_mem (i:=i-1) (by omega) (0,0))
 have hg2:=hg _ (getD_mem (i:=i) (by omega) (0,0))
 have hg3:=hg _ (getD_mem (i:=i+1) (by omega) (0,0))
 have hdb:=dif_bd hg hi ha hb hc
 have hsb:=stp_bd hC hdb s
 unfold OkG at hg1 hg2 hg3
 have hle:=hR.sl.le
 refine W.sreg (WO.boxA rfl rfl (fun b1 hb1=>(WO.alloc rfl rfl rfl (fun b2 hb2=>(WO.p rfl rfl (WO.nil (W.seq ?_)))))))
 refine W.drawD 13 [.r 0 [],.r 1 [],.r 2 [],.r 3 [],.b 4 [],.r 5 [],.b 6 [],.r 7 [],.r 8 [],.r 9 [],.b 10 [],.r 11 [],.b 12 []] [] (A0:=[]) (Sub.refl _) (by kernel_rfl) ?_ ?_
 ·repeat constructor
 refine DT.r rfl rfl rfl (WO.p rfl rfl (WO.nil ⟨rfl,rfl⟩)) (DT.r rfl rfl rfl (WO.p rfl rfl (WO.nil ⟨rfl,rfl⟩)) (DT.r rfl rfl rfl (WO.field0 rfl rfl rfl (WO.nil ⟨rfl,rfl⟩)) (DT.r rfl rfl rfl (WO.field0 rfl rfl rfl (WO.nil ⟨rfl,rfl⟩)) ?_)))
 refine' DT.b rfl rfl rfl ?hq ?_
 case hq =>
  refine' WO.load (v:=_) rfl rfl ?hc rfl ?_
  case hc=>((refine hP.cell0 ?_ <;> rfl))
  exact WO.nil ⟨rfl,rfl⟩
 refine DT.r rfl rfl rfl (WO.field0 rfl rfl rfl (WO.nil ⟨rfl,rfl⟩)) (DT.b rfl rfl rfl (WO.load rfl rfl (Cell.own (Pick.tail (Pick.head)) rfl) rfl (WO.nil ⟨rfl,rfl⟩)) (DT.r rfl rfl rfl (WO.ar rfl rfl rfl (by unfold in64;omega) rfl (WO.nil ⟨rfl,rfl⟩)) ?_))
 refine' DT.r rfl rfl rfl ?hq ?_
 case hq =>
  refine' WO.indexAddrZ (n:=_) rfl rfl rfl ?hs ?h00 ?h1 rfl ?_
  case hs=>exact hR.sl
  case h00=>omega
  case h1=>(omega)
  exact WO.nil ⟨rfl,rfl⟩
 refine DT.r rfl rfl rfl (WO.field0 rfl rfl rfl (WO.nil ⟨rfl,rfl⟩)) ?_
 refine' DT.b rfl rfl rfl ?hq ?_
 case hq =>
  refine' WO.load (v:=_) rfl rfl ?hc rfl ?_
  case hc=>((refine RdF.loZ hR (i:=i-1) (by omega) ?_;omega))
  exact WO.nil ⟨rfl,rfl⟩
 refine DT.r rfl rfl rfl (WO.fieldL rfl rfl rfl (WO.nil ⟨rfl,rfl⟩)) (DT.b rfl rfl rfl (WO.load rfl rfl (Cell.own (Pick.tail (Pick.head)) rfl) rfl (WO.nil ⟨rfl,rfl⟩)) (DT.nil [_,_] rfl (WO.ar rfl rfl rfl (by unfold in64;omega) rfl (WO.p rfl rfl (WO.nil (W.seq ?_))))))
 refine W.drawD 12 [.r 0 [],.r 1 [],.r 2 [],.r 3 [],.b 4 [],.r 5 [],.b 6 [],.r 7 [],.r 8 [],.b 9 [],.r 10 [],.b 11 []] [] (A0:=[]) (Sub.refl _) (by kernel_rfl) ?_ ?_
 ·repeat constructor
 refine DT.r rfl rfl rfl (WO.p rfl rfl (WO.nil ⟨rfl,rfl⟩)) (DT.r rfl rfl rfl (WO.p rfl rfl (WO.nil ⟨rfl,rfl⟩)) (DT.r rfl rfl rfl (WO.field0 rfl rfl rfl (WO.nil ⟨rfl,rfl⟩)) (DT.r rfl rfl rfl (WO.field0 rfl rfl rfl (WO.nil ⟨rfl,rfl⟩)) ?_)))
 refine' DT.b rfl rfl rfl ?hq ?_
 case hq =>
  refine' WO.load (v:=_) rfl rfl ?hc rfl ?_
  case hc=>((refine hP.cell0 ?_ <;> rfl))
  exact WO.nil ⟨rfl,rfl⟩
 refine DT.r rfl rfl rfl (WO.field0 rfl rfl rfl (WO.nil ⟨rfl,rfl⟩)) (DT.b rfl rfl rfl (WO.load rfl rfl (Cell.own (Pick.tail (Pick.head)) rfl) rfl (WO.nil ⟨rfl,rfl⟩)) (DT.r rfl rfl rfl (WO.indexAddr rfl rfl rfl hR.sl (by omega) rfl (WO.nil ⟨rfl,rfl⟩)) (DT.r rfl rfl rfl (WO.field0 rfl rfl rfl (WO.nil ⟨rfl,rfl⟩)) ?_)))
 refine' DT.b rfl rfl rfl ?hq ?_
 case hq =>
  refine' WO.load (v:=_) rfl rfl ?hc rfl ?_
  case hc=>((refine RdF.loZ hR (i:=i) (by omega) ?_;omega))
  exact WO.nil ⟨rfl,rfl⟩
 refine DT.r rfl rfl rfl (WO.fieldL rfl rfl rfl (WO.nil ⟨rfl,rfl⟩)) (DT.b rfl rfl rfl (WO.load rfl rfl (Cell.own (Pick.tail (Pick.head)) rfl) rfl (WO.nil ⟨rfl,rfl⟩)) (DT.nil [_,_] rfl (WO.ar rfl rfl rfl (by unfold in64;omega) rfl (WO.p rfl rfl (WO.nil (W.seq ?_))))))
 refine W.drawD 12 [.r 0 [],.r 1 [],.r 2 [],.r 3 [],.b 4 [],.r 5 [],.b 6 [],.r 7 [],.r 8 [],.r 9 [],.b 10 [],.r 11 []] [] (A0:=[]) (Sub.refl _) (by kernel_rfl) ?_ ?_
 ·repeat constructor
 refine DT.r rfl rfl rfl (WO.p rfl rfl (WO.nil ⟨rfl,rfl⟩)) (DT.r rfl rfl rfl (WO.p rfl rfl (WO.nil ⟨rfl,rfl⟩)) (DT.r rfl rfl rfl (WO.field0 rfl rfl rfl (WO.nil ⟨rfl,rfl⟩)) (DT.r rfl rfl rfl (WO.field0 rfl rfl rfl (WO.nil ⟨rfl,rfl⟩)) ?_)))
 refine' DT.b rfl rfl rfl ?hq ?_
 case hq =>
  refine' WO.load (v:=_) rfl rfl ?hc rfl ?_
  case hc=>((refine hP.cell0 ?_ <;> rfl))
  exact WO.nil ⟨rfl,rfl⟩
 refine DT.r rfl rfl rfl (WO.field0 rfl rfl rfl (WO.nil ⟨rfl,rfl⟩)) (DT.b rfl rfl rfl (WO.load rfl rfl (Cell.own (Pick.tail (Pick.head)) rfl) rfl (WO.nil ⟨rfl,rfl⟩)) (DT.r rfl rfl rfl (WO.ar rfl rfl rfl (by unfold in64;omega) rfl (WO.nil ⟨rfl,rfl⟩)) ?_))
 refine' DT.r rfl rfl rfl ?hq ?_
 case hq =>
  refine' WO.indexAddrZ (n:=_) rfl rfl rfl ?hs ?h00 ?h1 rfl ?_
  case hs=>exact hR.sl
  case h00=>omega
  case h1=>(omega)
  exact WO.nil ⟨rfl,rfl⟩
 refine DT.r rfl rfl rfl (WO.field0 rfl rfl rfl (WO.nil ⟨rfl,rfl⟩)) ?_
 refine' DT.b rfl rfl rfl ?hq ?_
 case hq =>
  refine' WO.load (v:=_) rfl rfl ?hc rfl ?_
  case hc=>((refine RdF.loZ hR (i:=i+1) (by omega) ?_;omega))
  exact WO.nil ⟨rfl,rfl⟩
 refine DT.r rfl rfl rfl (WO.p rfl rfl (WO.nil ⟨rfl,rfl⟩)) (DT.nil [_,_] rfl (WO.ar rfl rfl rfl (by unfold in64;omega) rfl (WO.p rfl rfl (WO.nil (W.sreg (WO.p rfl rfl (WO.p rfl rfl (WO.ar rfl rfl rfl (by unfold in64;omega) rfl (WO.ar rfl rfl rfl (by unfold in64;omega) rfl (WO.p rfl rfl (WO.ar rfl rfl rfl (by unfold in64;omega) rfl (WO.p rfl rfl (WO.nil ?_)))))))))))))
 unfold dif at hdb
 refine W.sreg (WO.fieldL rfl rfl rfl (WO.loadA rfl rfl (Cells.ownAt (n:=1) (Pick.tail (Pick.head)) rfl) rfl rfl (WO.p rfl rfl (WO.callR rfl Tryz.call140 (fun L w hi=>c_next w s _ (by omega)) rfl (WO.p rfl rfl (WO.p rfl rfl (WO.p rfl rfl (WO.alloc rfl rfl rfl (fun b3 hb3=>(WO.storeA rfl rfl rfl rfl Pick.head rfl rfl (WO.p rfl rfl (WO.nil (W.seq ?_)))))))))))))
 unfold stp dif ab at hsb
 refine W.drawD 25 [.r 0 [],.b 1 [],.r 2 [],.r 3 [],.b 4 [],.r 5 [],.b 6 [],.r 7 [],.r 8 [],.r 9 [],.r 10 [],.b 11 [],.r 12 [],.r 13 [],.r 14 [],.r 15 [],.r 16 [],.r 17 [],.r 18 [],.r 19 [],.b 20 [],.r 21 [],.r 22 [],.r 23 [],.s 24 []] [] (A0:=[_]) (H0:=[_,_]) (.cons (Pick.tail .head) (.cons .head (.cons .head .nil))) (by kernel_rfl) ?_ ?_
 ·exact (ALok.r (ALok.b (ALok.r (ALok.r (ALok.b (ALok.r (ALok.b (ALok.r (ALok.r (ALok.r (ALok.r (ALok.b (ALok.r (ALok.r (ALok.r (ALok.r (ALok.r (ALok.r (ALok.r (ALok.r (ALok.b (ALok.r (ALok.r (ALok.r (ALok.s ALok.nil)))))))))))))))))))))))))
 refine DT.r rfl rfl rfl (WO.field0 rfl rfl rfl (WO.nil ⟨rfl,rfl⟩)) (DT.b rfl rfl rfl (WO.load rfl rfl (Cell.own (Pick.tail (Pick.head)) rfl) rfl (WO.nil ⟨rfl,rfl⟩)) (DT.r rfl rfl rfl (WO.ar rfl rfl rfl (by unfold in64;omega) rfl (WO.nil ⟨rfl,rfl⟩)) (DT.r rfl rfl rfl (WO.fieldL rfl rfl rfl (WO.nil ⟨rfl,rfl⟩)) (DT.b rfl rfl rfl (WO.load rfl rfl (Cell.own (Pick.tail (Pick.head)) rfl) rfl (WO.nil ⟨rfl,rfl⟩)) (DT.r rfl rfl rfl (WO.p rfl rfl (WO.nil ⟨rfl,rfl⟩)) (DT.b rfl rfl rfl (WO.loadA rfl rfl (Cells.own Pick.head) rfl rfl (WO.nil ⟨rfl,rfl⟩)) (DT.r rfl rfl rfl (WO.build rfl rfl rfl rfl rfl (WO.nil ⟨rfl,rfl⟩)) (DT.r rfl rfl rfl (WO.p rfl rfl (WO.nil ⟨rfl,rfl⟩)) ?_))))))))
 refine DT.r rfl rfl rfl (WO.p rfl rfl (WO.nil ⟨rfl,rfl⟩)) (DT.r rfl rfl rfl (WO.field rfl rfl rfl (WO.nil ⟨rfl,rfl⟩)) ?_)
 refine' DT.b rfl rfl rfl ?hq ?_
 case hq =>
  refine' WO.load (v:=_) rfl rfl ?hc rfl ?_
  case hc=>((refine hP.cellAt ?_ <;> rfl))
  exact WO.nil ⟨rfl,rfl⟩
 refine DT.r rfl rfl rfl (WO.p rfl rfl (WO.nil ⟨rfl,rfl⟩)) (DT.r rfl rfl rfl (WO.p rfl rfl (WO.nil ⟨rfl,rfl⟩)) (DT.r rfl rfl rfl (WO.neg rfl (by unfold in64;omega) rfl (WO.nil ⟨rfl,rfl⟩)) (DT.r rfl rfl rfl (WO.max2 rfl rfl rfl (WO.nil ⟨rfl,rfl⟩)) (DT.r rfl rfl rfl (WO.ar rfl rfl rfl (by unfold in64;omega) rfl (WO.nil ⟨rfl,rfl⟩)) (DT.r rfl rfl rfl (WO.p rfl rfl (WO.nil ⟨rfl,rfl⟩)) (DT.r rfl rfl rfl (WO.p rfl rfl (WO.nil ⟨rfl,rfl⟩)) (DT.r rfl rfl rfl (WO.field rfl rfl rfl (WO.nil ⟨rfl,rfl⟩)) ?_)))))))
 refine' DT.b rfl rfl rfl ?hq ?_
 case hq =>
  refine' WO.load (v:=_) rfl rfl ?hc rfl ?_
  case hc=>((refine hP.cellAt ?_ <;> rfl))
  exact WO.nil ⟨rfl,rfl⟩
 refine DT.r rfl rfl rfl (WO.p rfl rfl (WO.nil ⟨rfl,rfl⟩)) (DT.r rfl rfl rfl (WO.ar rfl rfl rfl (by unfold in64;omega) rfl (WO.nil ⟨rfl,rfl⟩)) (DT.r rfl rfl rfl (WO.ar rfl rfl rfl (by unfold in64;omega) rfl (WO.nil ⟨rfl,rfl⟩)) (DT.s [_,_,_] rfl rfl rfl (WO.storeA rfl rfl rfl rfl Pick.head rfl rfl ?_))))
 refine WO.nil ⟨[_],rfl,rfl,(Keep.r (Keep.r (Keep.r (Keep.b (Keep.r (Keep.r (Keep.r (Keep.r (Keep.r (Keep.r (Keep.r (Keep.r (Keep.b (Keep.r (Keep.r (Keep.r (Keep.r (Keep.b (Keep.r (Keep.b (Keep.r (Keep.r (Keep.b (Keep.r Keep.nil)))))))))))))))))))))))),?_⟩
 refine DT.nil [_,_,_] rfl (WO.p rfl rfl (WO.nil (W.ret ?_)))
 exact fin.ret (Res.two rfl (RV.cell rfl rfl rfl (Cells.own (by repeat exact .head))) (RV.tmp rfl)) rfl
end Go.Proofs.YtfchgmiiicidcaaGreat.Fa
namespace Go.Proofs.YtfchgmiiicidcaaGreat.Fa
open Go Go.TH
attribute [local irreducible] W WO pt
set_option maxRecDepth 10000
set_option maxHeartbeats 1000000
def FnN (B:Nat) (wr:World) (f:Nat) (cap:List Value) (n:Nat) (T:Nat→Int):Prop :=
 ∀ w:World,B≤w.heap.size→(∀ k,k<B→w.heap[k]?=wr.heap[k]?)→∀ x,x<n→Ret Tryz.prog f (([.int .i64 (x:Int)]:List Value)++cap).toArray w (.int .i64 (T x))
theorem FnN.at_ {C:Cx Tryz.prog} {H:List HP} {L:List HP} {w:World} {f:Nat} {cap:List Value} {n:Nat} {T:Nat→Int} (hB:C.B=C.w0.heap.size) (h:FnN C.w0.heap.size C.w0 f cap n T) (hi:Inv C.w0 C.M (L++H) w) {x:Nat} (hx:x<n):Ret Tryz.prog f (([]:List Value)++[Value.int .i64 (x:Int)]++cap).toArray w (.int .i64 (T x)):=by
 rw [List.nil_append]
 exact h w hi.size (by rw [← hB];exact hi.keepB) x hx
def lst (f:Nat→Int):Nat→Nat × Int
 | 0=>(0,f 0)
 | k+1=>if f (k+1)<(lst f k).2 then (k+1,f (k+1)) else lst f k
theorem lst_yes {f:Nat→Int} {k:Nat} (h:f (k+1)<(lst f k).2):lst f (k+1)=(k+1,f (k+1)):=if_pos h
theorem lst_no {f:Nat→Int} {k:Nat} (h:¬ f (k+1)<(lst f k).2):lst f (k+1)=lst f k:=if_neg h
theorem lst_spec (f:Nat→Int):∀ n,(lst f n).1≤n∧(lst f n).2=f (lst f n).1∧(∀ i,i≤n→(lst f n).2≤f i)∧∀ i,i<(lst f n).1→(lst f n).2<f i
 | 0=>⟨Nat.le_refl _,rfl,fun i hi=>by rw [show i=0 by omega];exact Int.le_refl _,fun i hi=>by simp [lst] at hi⟩
 | n+1=>by
  have ih:=lst_spec f n
  by_cases h:f (n+1)<(lst f n).2
  ·rw [lst_yes h]
   refine ⟨Nat.le_refl _,rfl,fun i hi=>?_,fun i hi=>?_⟩
   ·rcases Nat.lt_or_ge n i with g | g
    ·rw [show i=n+1 by omega];exact Int.le_refl _
    ·have:=ih.2.2.1 i g;show f (n+1)≤f i;omega
   ·have h1:i<n+1:=hi
    have:=ih.2.2.1 i (by omega);show f (n+1)<f i;omega
  ·rw [lst_no h]
   refine ⟨by omega,ih.2.1,fun i hi=>?_,ih.2.2.2⟩
   rcases Nat.lt_or_ge n i with g | g
   ·rw [show i=n+1 by omega];omega
   ·exact ih.2.2.1 i g
theorem c_least (w:World) (n:Nat) (f:Nat) (cap:List Value) (T:Nat→Int) (hn:1≤n) (hn2:n≤1000) (hF:FnN w.heap.size w f cap n T) (hcall:∀ (args:Array Value) (w:World),(callFunc f args).run Tryz.prog w=.ok (.enter f args) w) :
 Ret Tryz.prog 128 [.int .i64 (n:Int),.func (.func f) (([]:List Value).toArray) cap.toArray].toArray w (.tuple #[.int .i64 ((lst T (n-1)).1:Int),.int .i64 (lst T (n-1)).2]):=by
 refine Ret.of mixed tyTab Tryz.func128 rfl rfl ?_
 replace hF:FnN (fnCx mixed tyTab Tryz.f128.ntmps w).w0.heap.size (fnCx mixed tyTab Tryz.f128.ntmps w).w0 f cap n T:=hF
 refine W.sreg (WO.p rfl rfl (WO.p rfl rfl (WO.nil (W.sreg (WO.p rfl rfl (WO.callCR (first:=[]) (captured:=cap) rfl rfl hcall (fun L w hi=>hF.at_ (x:=0) rfl hi (by omega)) rfl (WO.p rfl rfl (WO.p rfl rfl (WO.nil (W.seq (W.sreg (WO.p rfl rfl (WO.nil (W.block ?_))))))))))))))
 refine W.loop3 (fun (i:Nat) (a:Int) (b:Int)=>1≤i∧i≤n∧a=((lst T (i-1)).1:Int)∧b=(lst T (i-1)).2)
  (fun (i:Nat) (a:Int) (b:Int)=>[(8,.int .i64 (i:Int)),(6,.int .i64 a),(7,.int .i64 b),(0,.int .i64 (n:Int)),(1,.func (.func f) (([]:List Value).toArray) cap.toArray)])
  (fun (i:Nat) (a:Int) (b:Int)=>[])
  (fun (i:Nat) (a:Int) (b:Int)=>n-i) 1 0 (T 0)
  (by exact ⟨by omega,by omega,rfl,rfl⟩) ⟨rfl,rfl,rfl,rfl,rfl,trivial⟩ (by repeat (first | exact Sub.nil | refine Sub.cons (by repeat first | exact .head | apply Pick.tail) ?_)) ?_
 rintro i a b ⟨h1,h2,ha,hb⟩
 refine W.seq (W.sreg (WO.p rfl rfl (WO.p rfl rfl (WO.p rfl rfl (WO.nil ?_)))))
 refine W.cond_bl rfl (fun c1=>?_) (fun c1=>?_)
 ·refine W.skip (W.seq (W.block (W.sreg (WO.p rfl rfl (WO.p rfl rfl (WO.callCR (first:=[]) (captured:=cap) rfl rfl hcall (fun L w hi=>hF.at_ (x:=i) rfl hi (by omega)) rfl (WO.p rfl rfl (WO.nil (W.sreg (WO.p rfl rfl (WO.p rfl rfl (WO.p rfl rfl (WO.nil ?_)))))))))))))
  refine W.cond_bl rfl (fun c2=>?_) (fun c2=>?_)
  ·refine W.region (WO.p rfl rfl (WO.p rfl rfl (WO.p rfl rfl (WO.p rfl rfl (WO.nil (W.region (WO.p rfl rfl (WO.ar rfl rfl rfl (by unfold in64;omega) rfl (WO.p rfl rfl (WO.nil ?_))))))))))
   refine' ⟨i+1,_,_,?hp,?hmu,⟨rfl,rfl,rfl,rfl,rfl,trivial⟩,?hS⟩
   case hS=>repeat (first | exact Sub.nil | refine Sub.cons (by repeat first | exact .head | apply Pick.tail) ?_)
   case hp=>exact ⟨by omega,by omega,by have e:i-1+1=i:=(by omega);rw [show i+1-1=i-1+1 by omega];(rw [lst_yes (by rw [e,← hb];assumption),e];exact ⟨rfl,rfl⟩)⟩
   case hmu=>omega
  ·refine W.skip (W.region (WO.p rfl rfl (WO.ar rfl rfl rfl (by unfold in64;omega) rfl (WO.p rfl rfl (WO.nil ?_)))))
   refine' ⟨i+1,_,_,?hp,?hmu,⟨rfl,rfl,rfl,rfl,rfl,trivial⟩,?hS⟩
   case hS=>repeat (first | exact Sub.nil | refine Sub.cons (by repeat first | exact .head | apply Pick.tail) ?_)
   case hp=>exact ⟨by omega,by omega,by have e:i-1+1=i:=(by omega);rw [show i+1-1=i-1+1 by omega];(rw [lst_no (by rw [e,← hb];assumption)];exact ⟨ha,hb⟩)⟩
   case hmu=>omega
 ·refine W.exit (blk_same (W.sreg (WO.p rfl rfl (WO.p rfl rfl (WO.p rfl rfl (WO.p rfl rfl (WO.nil (W.ret (fin.ret (Res.two rfl (RV.tmp rfl) (RV.tmp rfl)) ?_)))))))))
  rw [show n-1=i-1 by omega,← ha,← hb]
def gof (B T:Int):List (Int × Int)→Int→Int→Nat→Int
 | [],_,_,_=>0
 | r::rs,x,y,s=>(lst (fun c=>stp B T s (x-2*y+(r.1+c))+gof B T rs y (r.1+c) (sg s (x-2*y+(r.1+c)))) (wid r-1)).2
def gAt (B T:Int) (l:List (Int × Int)) (i a b s:Nat):Int:=gof B T (l.drop (i+1)) ((l.getD (i-1) (0,0)).1+a) ((l.getD i (0,0)).1+b) s
def gOn (B T:Int) (l:List (Int × Int)) (i a b s c:Nat):Int:=stp B T s (dif l i a b c)+gAt B T l (i+1) b c (sg s (dif l i a b c))
theorem gAt_last {B T:Int} {l:List (Int × Int)} {i a b s:Nat} (h:l.length≤i+1):gAt B T l i a b s=0:=by
 unfold gAt;rw [List.drop_eq_nil_of_le h];rfl
theorem gAt_succ {B T:Int} {l:List (Int × Int)} {i a b s:Nat} (h:i+1<l.length):gAt B T l i a b s=(lst (gOn B T l i a b s) (wid (l.getD (i+1) (0,0))-1)).2:=by
 have e:l.drop (i+1)=l.getD (i+1) (0,0)::l.drop (i+2):=by
  rw [List.drop_eq_getElem_cons h,List.getD_eq_getElem?_getD,List.getElem?_eq_getElem h];rfl
 unfold gAt
 rw [e]
 rfl
theorem gof_bd {B T:Int} (hC:OkC B T):∀ {rs:List (Int × Int)},OkS rs→∀ {x y:Int} {s:Nat},-1000000≤x∧x≤1000000 → -1000000≤y∧y≤1000000→0≤gof B T rs x y s∧gof B T rs x y s≤6000000*rs.length
 | [],_,_,_,_,_,_=>by simp [gof]
 | r::rs,hS,x,y,s,hx,hy=>by
  have hr:OkG r:=hS r (by simp)
  have hw:=wid_ok hr
  unfold gof
  generalize hF:(fun c:Nat=>stp B T s (x-2*y+(r.1+c))+gof B T rs y (r.1+c) (sg s (x-2*y+(r.1+c))))=F
  have h1:=lst_spec F (wid r-1)
  rw [h1.2.1]
  generalize (lst F (wid r-1)).1=c at h1
  have hc:(c:Int)≤4:=by have:=h1.1;omega
  have hcw:(c:Int)≤(wid r:Int)-1:=by have:=h1.1;omega
  unfold OkG at hr
  have h2:=gof_bd hC (rs:=rs) (fun q hq=>hS q (by simp [hq])) (x:=y) (y:=r.1+c) (s:=sg s (x-2*y+(r.1+c))) hy (by omega)
  have h3:=stp_bd hC (d:=x-2*y+(r.1+c)) (by omega) s
  rw [← hF]
  simp only [List.length_cons]
  omega
theorem gAt_bd {B T:Int} (hC:OkC B T) {l:List (Int × Int)} (hg:OkS l) (h24:l.length≤24) {i a b s:Nat} (hi:i<l.length) (ha:a<wid (l.getD (i-1) (0,0))) (hb:b<wid (l.getD i (0,0))):0≤gAt B T l i a b s∧gAt B T l i a b s≤144000000:=by
 have h1:=hg _ (getD_mem (i:=i-1) (by omega) (0,0))
 have h2:=hg _ (getD_mem hi (0,0))
 have w1:=wid_ok h1
 have w2:=wid_ok h2
 unfold OkG at h1 h2
 have:=gof_bd hC (rs:=l.drop (i+1)) (fun q hq=>hg q (List.mem_of_mem_drop hq)) (x:=(l.getD (i-1) (0,0)).1+a) (y:=(l.getD i (0,0)).1+b) (s:=s) (by omega) (by omega)
 rw [List.length_drop] at this
 unfold gAt
 omega
def RowOk (B T:Int) (l:List (Int × Int)) (g:Nat→Int) (i:Nat):Prop:=∀ a b s,a<wid (l.getD (i-1) (0,0))→b<wid (l.getD i (0,0))→s<3→g (i*75+(a*15+b*3+s))=gAt B T l i a b s
theorem sg_lt {s:Nat} {d:Int} (h:s<3):sg s d<3:=by have:=sg_le (d:=d) (show s≤2 by omega);omega
theorem c_go11 (w:World) (q p:Addr) (r:Addr) (v:Value) (l:List (Int × Int)) (t B T:Int) (lv:Value) (g:Nat→Int) (i a b s c:Nat) (hc1:Cap w q (.pointer (some p))) (hc2:RdC w.heap.size w r [.int .i64 (i:Int),.int .i64 (a:Int),.int .i64 (b:Int),.int .i64 (s:Int)])
 (hD:DrR w.heap.size w p v l t B T lv) (hT:RdT 75 w.heap.size w lv l.length g) (hg:OkS l) (h24:l.length≤24) (hC:OkC B T) (h1:1≤i) (hi:i+1<l.length) (ha:a<wid (l.getD (i-1) (0,0))) (hb:b<wid (l.getD i (0,0))) (hs:s<3) (hc:c<wid (l.getD (i+1) (0,0))) (hrow:RowOk B T l g (i+1)) :
 Ret Tryz.prog 208 [.int .i64 (c:Int),.pointer (some q),.pointer (some r)].toArray w (.int .i64 (gOn B T l i a b s c)):=by
 refine Ret.of mixed tyTab Tryz.func208 rfl rfl ?_
 replace hc1:Cap (fnCx mixed tyTab Tryz.f208.ntmps w).w0 q (.pointer (some p)):=hc1
 replace hc2:RdC (fnCx mixed tyTab Tryz.f208.ntmps w).B (fnCx mixed tyTab Tryz.f208.ntmps w).w0 r [.int .i64 (i:Int),.int .i64 (a:Int),.int .i64 (b:Int),.int .i64 (s:Int)]:=hc2
 have hD':DrR (fnCx mixed tyTab Tryz.f208.ntmps w).B (fnCx mixed tyTab Tryz.f208.ntmps w).w0 p v l t B T lv:=hD
 have hT':RdT 75 (fnCx mixed tyTab Tryz.f208.ntmps w).B (fnCx mixed tyTab Tryz.f208.ntmps w).w0 lv l.length g:=hT
 have w1:=wid_ok (hg _ (getD_mem (i:=i-1) (by omega) (0,0)))
 have w2:=wid_ok (hg _ (getD_mem (i:=i) (by omega) (0,0)))
 have w3:=wid_ok (hg _ (getD_mem (i:=i+1) (by omega) (0,0)))
 have hdb:=dif_bd hg (i:=i) (a:=a) (b:=b) (c:=c) hi (by omega) (by omega) (by omega)
 have hsb:=(stp_bd hC hdb s).2.2
 have hgb:=gAt_bd hC hg h24 (i:=i+1) (a:=b) (b:=c) (s:=sg s (dif l i a b c)) (by omega) hb hc
 have hrc:=hrow b c (sg s (dif l i a b c)) hb hc (sg_lt hs)
 refine W.sreg (WO.p rfl rfl (WO.nil (W.sreg ?_)))
 refine' WO.load (v:=_) rfl rfl ?hc rfl ?_
 case hc=>(refine Cap.cell (v:=.pointer (some p)) rfl hc1)
 refine WO.loadA rfl rfl hc2.cells rfl rfl (WO.p rfl rfl (WO.callR rfl Tryz.call132 (fun L w hi'=>c_on w p v l t B T lv i a b s c (hD'.later hi') hg hC h1 hi (by omega) (by omega) hs (by omega)) rfl (WO.p rfl rfl (WO.p rfl rfl (WO.p rfl rfl (WO.alloc rfl rfl rfl (fun b1 hb1=>(WO.storeA rfl rfl rfl rfl Pick.head rfl rfl (WO.p rfl rfl (WO.nil (W.sreg (WO.p rfl rfl ?_))))))))))))
 refine' WO.load (v:=_) rfl rfl ?hc rfl ?_
 case hc=>(refine Cap.cell (v:=.pointer (some p)) rfl hc1)
 refine WO.loadA rfl rfl (Cells.own Pick.head) rfl rfl (WO.callR (r:=.int .i64 (gAt B T l (i+1) b c (sg s (dif l i a b c)))) rfl Tryz.call130 (fun L w hi'=>by rw [← hrc];exact c_at w p v l t B T lv g (i+1) b c (sg s (dif l i a b c)) (hD'.later hi') (hT'.later hi') hi (by omega) (by omega) (sg_lt hs)) rfl (WO.ar rfl rfl rfl (by unfold in64;omega) rfl (WO.p rfl rfl (WO.nil (W.ret ?_)))))
 exact fin.ret (Res.one rfl (RV.tmp rfl)) rfl
theorem c_go1 (w:World) (p:Addr) (v:Value) (l:List (Int × Int)) (t B T:Int) (lv:Value) (g:Nat→Int) (i a b s:Nat)
 (hD:DrR w.heap.size w p v l t B T lv) (hT:RdT 75 w.heap.size w lv l.length g) (hg:OkS l) (h24:l.length≤24) (hC:OkC B T) (h1:1≤i) (hi:i+1<l.length) (ha:a<wid (l.getD (i-1) (0,0))) (hb:b<wid (l.getD i (0,0))) (hs:s<3) (hrow:RowOk B T l g (i+1)) :
 Ret Tryz.prog 131 [.pointer (some p),stV i a b s].toArray w (.tuple #[.int .i64 ((lst (gOn B T l i a b s) (wid (l.getD (i+1) (0,0))-1)).1:Int),.int .i64 (gAt B T l i a b s)]):=by
 refine Ret.of mixed tyTab Tryz.func131 rfl rfl ?_
 have hD':DrR (fnCx mixed tyTab Tryz.f131.ntmps w).B (fnCx mixed tyTab Tryz.f131.ntmps w).w0 p v l t B T lv:=hD
 have hT':RdT 75 (fnCx mixed tyTab Tryz.f131.ntmps w).B (fnCx mixed tyTab Tryz.f131.ntmps w).w0 lv l.length g:=hT
 have w3:=wid_ok (hg _ (getD_mem (i:=i+1) (by omega) (0,0)))
 rw [gAt_succ hi]
 refine W.sreg (WO.box1 rfl (by rfl) rfl (fun b1 hb1=>(WO.boxA rfl rfl (fun b2 hb2=>(WO.p rfl rfl (WO.p rfl rfl (WO.nil (W.sreg (WO.load rfl rfl (Cell.own (Pick.tail (Pick.head)) rfl) rfl (WO.field0 rfl rfl rfl (WO.load rfl rfl (Cell.own Pick.head rfl) rfl (WO.ar rfl rfl rfl (by unfold in64;omega) rfl (WO.callR rfl Tryz.call127 (fun L w hi'=>c_wide w p v l t B T lv (i+1) _ (hD'.later hi') rfl hi hg) rfl (WO.p rfl rfl ?_))))))))))))))
 refine WO.callR rfl Tryz.call128 (fun L w hi'=>c_least w (wid (l.getD (i+1) (0,0))) 208 [.pointer (some ⟨b1,0,none⟩),.pointer (some ⟨b2,0,none⟩)] (gOn B T l i a b s) (by omega) (by omega) (fun u hu hk x hx=>c_go11 u ⟨b1,0,none⟩ p ⟨b2,0,none⟩ v l t B T lv g i a b s x ((Cap.of (b:=b1) (off:=0) (v:=.pointer (some p)) (by repeat first | exact .head | apply Pick.tail) rfl hi').upTo hu hk) (((RdC.own (b:=b2) (by repeat exact .head) hi').agree hk).up hu) (((hD'.later hi').agree hk).up hu) (((hT'.later hi').agree hk).up hu) hg h24 hC h1 hi ha hb hs hx hrow) Tryz.call208) rfl (WO.p rfl rfl (WO.p rfl rfl (WO.p rfl rfl (WO.p rfl rfl ?_))))
 refine WO.nil (W.ret ?_)
 exact fin.ret (Res.two rfl (RV.tmp rfl) (RV.tmp rfl)) rfl
end Go.Proofs.YtfchgmiiicidcaaGreat.Fa
namespace Go.Proofs.YtfchgmiiicidcaaGreat.Fa
open Go Go.TH
attribute [local irreducible] W WO pt
set_option maxRecDepth 10000
set_option maxHeartbeats 1000000
theorem c_states (w:World) (p:Addr) (i:Nat) (zi:Int) (hz:zi=(i:Int)):Ct Tryz.prog 207 [.pointer (some p),.int .i64 zi].toArray w fun v w'=>∃ Hq,(∃ b1 b2,v=.func (.func 278) #[] #[.pointer (some ⟨b1,0,none⟩),.pointer (some ⟨b2,0,none⟩)] ∧
 Hq=[pt b2 (.cells #[.int .i64 (i:Int)] 3 (0,0)),pt b1 (.cells #[.pointer (some p)] 144 (0,0))])∧Inv w [] Hq w':=by
 subst hz
 refine Ct.of mixed tyTab Tryz.func207 rfl rfl (W.sreg (WO.box1 rfl (by rfl) rfl (fun b1 hb1=>(WO.box1 rfl (by rfl) rfl (fun b2 hb2=>(WO.p rfl rfl (WO.nil (W.sreg (WO.p rfl rfl (WO.p rfl rfl (WO.nil (W.ret ?_))))))))))))
 exact fin.ret (Res.one rfl (RV.tmp rfl)) ⟨b1,b2,rfl,rfl⟩
def w1 (l:List (Int × Int)) (i:Nat):Nat:=wid (l.getD (i-1) (0,0))
def w2 (l:List (Int × Int)) (i:Nat):Nat:=wid (l.getD i (0,0))
def stL (l:List (Int × Int)) (i:Nat):List (Nat × Nat × Nat):=(List.range (w1 l i*w2 l i*3)).map fun q=>(q/3/w2 l i,q/3%w2 l i,q%3)
def stsV (l:List (Int × Int)) (i:Nat):List Value:=(stL l i).map fun x=>stV i x.1 x.2.1 x.2.2
theorem stL_len (l:List (Int × Int)) (i:Nat):(stL l i).length=w1 l i*w2 l i*3:=by simp [stL]
theorem stsV_len (l:List (Int × Int)) (i:Nat):(stsV l i).length=w1 l i*w2 l i*3:=by simp [stsV,stL_len]
theorem ix_lt {a b s W1 W2:Nat} (ha:a<W1) (hb:b<W2) (hs:s<3):(a*W2+b)*3+s<W1*W2*3:=by
 have:=Nat.mul_le_mul_right W2 (show a+1≤W1 by omega)
 rw [Nat.add_mul,Nat.one_mul] at this
 omega
theorem stL_get {l:List (Int × Int)} {i a b s:Nat} (ha:a<w1 l i) (hb:b<w2 l i) (hs:s<3):(stL l i)[(a*w2 l i+b)*3+s]?=some (a,b,s):=by
 unfold stL
 rw [List.getElem?_map,List.getElem?_range (ix_lt ha hb hs)]
 have e1:((a*w2 l i+b)*3+s)/3=a*w2 l i+b:=by omega
 have e2:((a*w2 l i+b)*3+s)%3=s:=by omega
 have e3:(a*w2 l i+b)/w2 l i=a:=by rw [Nat.mul_comm,Nat.mul_add_div (by omega),Nat.div_eq_of_lt hb];omega
 have e4:(a*w2 l i+b)%w2 l i=b:=by rw [Nat.mul_comm,Nat.mul_add_mod,Nat.mod_eq_of_lt hb]
 simp only [Option.map_some,e1,e2,e3,e4]
theorem stsV_get {l:List (Int × Int)} {i a b s:Nat} (ha:a<w1 l i) (hb:b<w2 l i) (hs:s<3):(stsV l i)[(a*w2 l i+b)*3+s]?=some (stV i a b s):=by
 unfold stsV;rw [List.getElem?_map,stL_get ha hb hs];rfl
theorem stL_some {l:List (Int × Int)} {i q:Nat} {x:Nat × Nat × Nat} (h:(stL l i)[q]?=some x):x.1<w1 l i∧x.2.1<w2 l i∧x.2.2<3∧q=(x.1*w2 l i+x.2.1)*3+x.2.2:=by
 have hq:=(List.getElem?_eq_some_iff.1 h).1
 rw [stL_len] at hq
 unfold stL at h
 rw [List.getElem?_map,List.getElem?_range hq] at h
 obtain rfl:(q/3/w2 l i,q/3%w2 l i,q%3)=x:=by simpa using h
 have h0:0<w2 l i:=by
  rcases Nat.eq_zero_or_pos (w2 l i) with e | e
  ·rw [e] at hq;omega
  ·exact e
 have h1:q/3<w1 l i*w2 l i:=by omega
 refine ⟨?_,Nat.mod_lt _ h0,by simp only;omega,?_⟩
 ·exact (Nat.div_lt_iff_lt_mul h0).2 h1
 ·have:=Nat.div_add_mod (q/3) (w2 l i)
  rw [Nat.mul_comm] at this
  simp only
  omega
theorem stsV_some {l:List (Int × Int)} {i q:Nat} {x:Value} (h:(stsV l i)[q]?=some x):∃ a b s,a<w1 l i∧b<w2 l i∧s<3∧q=(a*w2 l i+b)*3+s∧x=stV i a b s:=by
 unfold stsV at h
 rw [List.getElem?_map] at h
 cases hq:(stL l i)[q]? with
 | none=>simp [hq] at h
 | some y =>
  simp [hq] at h
  have:=stL_some hq
  exact ⟨y.1,y.2.1,y.2.2,this.1,this.2.1,this.2.2.1,this.2.2.2,h.symm⟩
theorem c_states1 (B:Nat) (wr:World) (p:Addr) (v:Value) (l:List (Int × Int)) (t Bc T:Int) (lv:Value) (i:Nat) (hg:OkS l) (h24:l.length≤24) (h1:1≤i) (hil:i<l.length)
 (lp:Nat) (Hc:Nat→List HP) (hy:∀ k x,(stsV l i)[k]?=some x→YieldOK Tryz.prog B wr lp #[x] (Hc k) (Hc (k+1))) (hS:∀ k,DrS B wr (sat (Hc k)) p v l t Bc T lv) (b1 b2:Nat) (w:World) (M':List Nat) (hB:B≤w.heap.size) (hk:∀ k,k<B→w.heap[k]?=wr.heap[k]?) (hM:∀ b∈M',B≤b)
 (hi:Inv w M' ([pt b2 (.cells #[.int .i64 (i:Int)] 3 (0,0)),pt b1 (.cells #[.pointer (some p)] 144 (0,0))]++Hc 0) w) :
 Ct Tryz.prog 278 ([.func (.yield lp) #[] #[],.pointer (some ⟨b1,0,none⟩),.pointer (some ⟨b2,0,none⟩)]:List Value).toArray w fun _ w'=>Inv w M' ([pt b2 (.cells #[.int .i64 (i:Int)] 3 (0,0)),pt b1 (.cells #[.pointer (some p)] 144 (0,0))]++Hc (stsV l i).length) w':=by
 refine Iter.of mixed tyTab hB hM Tryz.func278 rfl rfl hi ?_
 have hS':∀ k,DrS (itCx mixed tyTab Tryz.f278.ntmps w M' B hB hM).B (itCx mixed tyTab Tryz.f278.ntmps w M' B hB hM).w0 (sat (Hc k)) p v l t Bc T lv:=fun k=>(hS k).agree hk
 have q1:=wid_ok (hg _ (getD_mem (i:=i-1) (by omega) (0,0)))
 have q2:=wid_ok (hg _ (getD_mem (i:=i) (by omega) (0,0)))
 have e1:wid (l.getD (i-1) (0,0))=w1 l i:=rfl
 have e2:wid (l.getD i (0,0))=w2 l i:=rfl
 rw [e1] at q1
 rw [e2] at q2
 refine W.sreg (WO.load rfl rfl (Cell.own (Pick.tail (Pick.head)) rfl) rfl (WO.load rfl rfl (Cell.own Pick.head rfl) rfl (WO.ar rfl rfl rfl (by unfold in64;omega) rfl (WO.callR (r:=.int .i64 (w1 l i:Int)) rfl Tryz.call127 (fun L w hi'=>c_wide w p v l t Bc T lv (i-1) _ ((hS' _).at (by repeat first | exact .head | apply Pick.tail) hi') (by omega) (by omega) hg) rfl (WO.p rfl rfl (WO.nil (W.block ?_)))))))
 rw [show Hc 0=Hc (0*w2 l i*3) by rw [Nat.zero_mul,Nat.zero_mul]]
 refine W.loop (fun (a:Nat)=>a≤w1 l i)
  (fun (a:Nat)=>[(11,.int .i64 (a:Int)),(10,.int .i64 (w1 l i:Int)),(0,.func (.yield lp) #[] #[]),(1,.pointer (some ⟨b1,0,none⟩)),(2,.pointer (some ⟨b2,0,none⟩))])
  (fun (a:Nat)=>[pt b1 (.cells #[.pointer (some p)] 144 (0,0)),pt b2 (.cells #[.int .i64 (i:Int)] 3 (0,0)),sat (Hc (a*w2 l i*3))])
  (fun (a:Nat)=>w1 l i-a) 0
  (by exact Nat.zero_le _) ⟨rfl,rfl,rfl,rfl,rfl,trivial⟩ (by repeat (first | exact Sub.nil | refine Sub.cons (by repeat first | exact .head | apply Pick.tail) ?_)) ?_
 rintro a ha'
 refine W.sreg (WO.p rfl rfl (WO.nil (W.seq ?_)))
 refine W.cond_bl rfl (fun c1=>?_) (fun c1=>?_)
 ·refine W.skip (W.seq (W.block (W.sreg (WO.p rfl rfl (WO.p rfl rfl (WO.nil (W.sreg (WO.load rfl rfl (Cell.own Pick.head rfl) rfl (WO.load rfl rfl (Cell.own (Pick.tail (Pick.head)) rfl) rfl (WO.callR (r:=.int .i64 (w2 l i:Int)) rfl Tryz.call127 (fun L w hi'=>c_wide w p v l t Bc T lv i _ ((hS' _).at (by repeat first | exact .head | apply Pick.tail) hi') rfl (by omega) hg) rfl (WO.p rfl rfl (WO.nil (W.block ?_)))))))))))))
  refine W.loop (fun (b:Nat)=>b≤w2 l i)
   (fun (b:Nat)=>[(11,.int .i64 (a:Int)),(10,.int .i64 (w1 l i:Int)),(17,.int .i64 (b:Int)),(16,.int .i64 (w2 l i:Int)),(4,.int .i64 (a:Int)),(0,.func (.yield lp) #[] #[]),(1,.pointer (some ⟨b1,0,none⟩)),(2,.pointer (some ⟨b2,0,none⟩))])
   (fun (b:Nat)=>[pt b1 (.cells #[.pointer (some p)] 144 (0,0)),pt b2 (.cells #[.int .i64 (i:Int)] 3 (0,0)),sat (Hc ((a*w2 l i+b)*3))])
   (fun (b:Nat)=>w2 l i-b) 0
   (by exact Nat.zero_le _) ⟨rfl,rfl,rfl,rfl,rfl,rfl,rfl,rfl,trivial⟩ (by repeat (first | exact Sub.nil | refine Sub.cons (by repeat exact .head) ?_)) ?_
  rintro b hb'
  refine W.sreg (WO.p rfl rfl (WO.nil (W.seq ?_)))
  refine W.cond_bl rfl (fun c2=>?_) (fun c2=>?_)
  ·refine W.skip (W.seq (W.block (W.sreg (WO.p rfl rfl (WO.p rfl rfl (WO.nil (W.sreg (WO.p rfl rfl (WO.nil (W.block ?_))))))))))
   refine W.loop (fun (s:Nat)=>s≤3)
    (fun (s:Nat)=>[(11,.int .i64 (a:Int)),(10,.int .i64 (w1 l i:Int)),(17,.int .i64 (b:Int)),(16,.int .i64 (w2 l i:Int)),(4,.int .i64 (a:Int)),(5,.int .i64 (b:Int)),(20,.int .i64 (s:Int)),(0,.func (.yield lp) #[] #[]),(1,.pointer (some ⟨b1,0,none⟩)),(2,.pointer (some ⟨b2,0,none⟩))])
    (fun (s:Nat)=>[pt b1 (.cells #[.pointer (some p)] 144 (0,0)),pt b2 (.cells #[.int .i64 (i:Int)] 3 (0,0)),sat (Hc ((a*w2 l i+b)*3+s))])
    (fun (s:Nat)=>3-s) 0
    (by exact Nat.zero_le _) ⟨rfl,rfl,rfl,rfl,rfl,rfl,rfl,rfl,rfl,rfl,trivial⟩ (by repeat (first | exact Sub.nil | refine Sub.cons (by repeat exact .head) ?_)) ?_
   rintro s hs'
   refine W.sreg (WO.p rfl rfl (WO.nil (W.seq ?_)))
   refine W.cond_bl rfl (fun c3=>?_) (fun c3=>?_)
   ·refine W.skip (W.seq (W.block (W.sreg (WO.p rfl rfl (WO.p rfl rfl (WO.nil (W.sreg (WO.p rfl rfl (WO.load rfl rfl (Cell.own (Pick.tail (Pick.head)) rfl) rfl (WO.p rfl rfl (WO.p rfl rfl (WO.p rfl rfl (WO.build rfl rfl rfl rfl rfl (WO.build rfl rfl rfl rfl rfl (WO.yield rfl rfl (by repeat first | exact .head | apply Pick.tail) ((hy _ _ (stsV_get (a:=a) (b:=b) (s:=s) (by omega) (by omega) (by omega))).one.agree hk) rfl (WO.p rfl rfl (WO.nil (W.cond_f rfl (W.skip (W.region (WO.ar rfl rfl rfl (by unfold in64;omega) rfl (WO.p rfl rfl (WO.nil ?_)))))))))))))))))))))))
    refine' ⟨s+1,?hp,?hmu,⟨rfl,rfl,rfl,rfl,rfl,rfl,rfl,rfl,rfl,rfl,trivial⟩,?hS⟩
    case hS=>repeat (first | exact Sub.nil | refine Sub.cons (by repeat first | exact .head | apply Pick.tail) ?_)
    case hp=>omega
    case hmu=>omega
   ·refine W.exit (blk_same ?_)
    obtain rfl:s=3:=by omega
    rw [show (a*w2 l i+b)*3+3=(a*w2 l i+(b+1))*3 by omega]
    refine W.region (WO.ar rfl rfl rfl (by unfold in64;omega) rfl (WO.p rfl rfl (WO.nil ?_)))
    refine' ⟨b+1,?hp,?hmu,⟨rfl,rfl,rfl,rfl,rfl,rfl,rfl,rfl,trivial⟩,?hS⟩
    case hS=>repeat (first | exact Sub.nil | refine Sub.cons (by repeat exact .head) ?_)
    case hp=>omega
    case hmu=>omega
  ·refine W.exit (blk_same ?_)
   obtain rfl:b=w2 l i:=by omega
   rw [show (a*w2 l i+w2 l i)*3=(a+1)*w2 l i*3 by rw [Nat.add_mul a 1,Nat.one_mul]]
   refine W.region (WO.ar rfl rfl rfl (by unfold in64;omega) rfl (WO.p rfl rfl (WO.nil ?_)))
   refine' ⟨a+1,?hp,?hmu,⟨rfl,rfl,rfl,rfl,rfl,trivial⟩,?hS⟩
   case hS=>repeat (first | exact Sub.nil | refine Sub.cons (by repeat exact .head) ?_)
   case hp=>omega
   case hmu=>omega
 ·refine W.exit (blk_same ?_)
  obtain rfl:a=w1 l i:=by omega
  refine fin.normal (Res.none rfl) ?_
  rw [stsV_len]
  exact .cons (.tail .head) (.cons .head (.cons .head .nil))
end Go.Proofs.YtfchgmiiicidcaaGreat.Fa
namespace Go.Proofs.YtfchgmiiicidcaaGreat.Fa
open Go Go.TH
attribute [local irreducible] W WO pt
set_option maxRecDepth 10000
set_option maxHeartbeats 1000000
def RowsOk (B T:Int) (l:List (Int × Int)) (i:Nat) (g:Nat→Int):Prop:=∀ k,i<k→k<l.length→RowOk B T l g k
def RowTo (B T:Int) (l:List (Int × Int)) (i q:Nat) (g:Nat→Int):Prop:=RowsOk B T l i g∧∀ a b s,a<w1 l i→b<w2 l i→s<3→(a*w2 l i+b)*3+s<q→g (i*75+(a*15+b*3+s))=gAt B T l i a b s
theorem RowTo.zero {B T:Int} {l:List (Int × Int)} {i:Nat} {g:Nat→Int} (h:RowsOk B T l i g):RowTo B T l i 0 g:=⟨h,fun _ _ _ _ _ _ h=>by omega⟩
theorem RowTo.all {B T:Int} {l:List (Int × Int)} {i:Nat} {g:Nat→Int} (h:RowTo B T l i (stsV l i).length g):RowsOk B T l (i-1) g:=fun k h1 h2=>by
 rcases Nat.lt_or_ge i k with h3 | h3
 ·exact h.1 k h3 h2
 ·obtain rfl:k=i:=by omega
  intro a b s ha hb hs
  exact h.2 a b s ha hb hs (by rw [stsV_len];exact ix_lt ha hb hs)
theorem cell_ne {i a b s k a' b' s':Nat} (ha:a<5) (hb:b<5) (hs:s<3) (ha':a'<5) (hb':b'<5) (hs':s'<3) (h:k*75+(a'*15+b'*3+s')=i*75+(a*15+b*3+s)):k=i∧a'=a∧b'=b∧s'=s:=by omega
theorem RowTo.next {B T:Int} {l:List (Int × Int)} {i a b s:Nat} {g:Nat→Int} (hg:OkS l) (hi:i<l.length) (h:RowTo B T l i ((a*w2 l i+b)*3+s) g) (ha:a<w1 l i) (hb:b<w2 l i) (hs:s<3):RowTo B T l i ((a*w2 l i+b)*3+s+1) (updF g (i*75+(a*15+b*3+s)) (gAt B T l i a b s)):=by
 have q1:=wid_ok (hg _ (getD_mem (i:=i-1) (by omega) (0,0)))
 have q2:=wid_ok (hg _ (getD_mem (i:=i) (by omega) (0,0)))
 have e1:w1 l i=wid (l.getD (i-1) (0,0)):=rfl
 have e2:w2 l i=wid (l.getD i (0,0)):=rfl
 refine ⟨fun k h1 h2 a' b' s' ha' hb' hs'=>?_,fun a' b' s' ha' hb' hs' hq=>?_⟩
 ·have p1:=wid_ok (hg _ (getD_mem (i:=k-1) (by omega) (0,0)))
  have p2:=wid_ok (hg _ (getD_mem (i:=k) (by omega) (0,0)))
  rw [updF_other (fun e=>by have:=cell_ne (by omega) (by omega) hs (by omega) (by omega) hs' e;omega)]
  exact h.1 k h1 h2 a' b' s' ha' hb' hs'
 ·by_cases e:i*75+(a'*15+b'*3+s')=i*75+(a*15+b*3+s)
  ·obtain ⟨_,rfl,rfl,rfl⟩:=cell_ne (by omega) (by omega) hs (by omega) (by omega) hs' e
   rw [updF_same]
  ·rw [updF_other e]
   refine h.2 a' b' s' ha' hb' hs' ?_
   rcases Nat.lt_or_ge ((a'*w2 l i+b')*3+s') ((a*w2 l i+b)*3+s) with g | g
   ·exact g
   ·exfalso
    have e3:(a'*w2 l i+b')*3+s'=(a*w2 l i+b)*3+s:=by omega
    have x1:=stL_get ha' hb' hs'
    have x2:=stL_get ha hb hs
    rw [e3,x2] at x1
    have x3:(a,b,s)=(a',b',s'):=by simpa using x1
    injection x3 with y1 y2
    injection y2 with y2 y3
    subst y1 y2 y3
    exact e rfl
theorem RowsOk.zero {B T:Int} {l:List (Int × Int)} {g:Nat→Int} (hg:OkS l) (h:∀ k,g k=0):RowsOk B T l (l.length-2) g:=fun k h1 h2 a b s ha hb hs=>by
 rw [h,gAt_last (by omega)]
theorem c_fill (B:Nat) (w:World) (S:HP) (p:Addr) (v:Value) (l:List (Int × Int)) (t Bc T:Int) (lv:Value) (hB:B≤w.heap.size) (hS:DrS B w S p v l t Bc T lv) (hv:IsSl v l.length) (hg:OkS l) (h24:l.length≤24) (hn:1≤l.length) (hC:OkC Bc T) :
 CtH Tryz.prog 126 [.pointer (some p)] w [S,TabP 309 75 lv l.length (fun _=>0)] B (fun r Hq=>∃ x:Unit,r=.tuple #[]∧Hq=[S,TabX 309 75 lv l.length (RowsOk Bc T l 0)]):=by
 refine CtH.ofI (X:=Unit) (p:=fun _ r=>r=.tuple #[]) (Hx:=fun _=>[S,TabX 309 75 lv l.length (RowsOk Bc T l 0)]) mixed tyTab hB Tryz.func126 rfl rfl (fun M hM=>?_)
 have hS':DrS (itCx mixed tyTab Tryz.f126.ntmps w M B hB hM).B (itCx mixed tyTab Tryz.f126.ntmps w M B hB hM).w0 S p v l t Bc T lv:=hS
 have hle:=hv.le
 refine W.sreg (WO.box1 rfl (by rfl) rfl (fun b1 hb1=>(WO.nil (W.sreg (WO.load rfl rfl (Cell.own Pick.head rfl) rfl (WO.p rfl rfl (WO.field0 rfl rfl rfl (WO.field0 rfl rfl rfl ?_))))))))
 refine' WO.load (v:=_) rfl rfl ?hc rfl ?_
 case hc=>(first | (refine DrS.cell0 (S:=S) (v:=v) hS' ?_;exact (by repeat (first | exact Sub.nil | refine Sub.cons (by repeat first | exact .head | apply Pick.tail) ?_))))
 refine WO.len rfl rfl hv rfl (WO.ar rfl rfl rfl (by unfold in64;omega) rfl (WO.alloc rfl rfl rfl (fun b2 hb2=>(WO.store1 rfl rfl rfl (by rfl) Pick.head rfl (WO.nil (W.block (W.chg (TabX.shut (p:=RowsOk Bc T l (l.length-2)) (RowsOk.zero hg (fun _=>rfl)) (by repeat first | exact .head | apply Pick.tail)) ?_)))))))
 rw [show RowsOk Bc T l (l.length-2)=RowsOk Bc T l ((l.length:Int)-2).toNat by rw [show ((l.length:Int)-2).toNat=l.length-2 by omega]]
 refine W.loop2 (fun (z:Int) (q:Nat) => -1≤z∧z≤(l.length:Int)-2)
  (fun (z:Int) (q:Nat)=>[(2,.pointer (some ⟨q,0,none⟩)),(1,.pointer (some ⟨b1,0,none⟩))])
  (fun (z:Int) (q:Nat)=>[pt q (.cells #[.int .i64 z] 3 (0,0)),pt b1 (.cells #[.pointer (some p)] 144 (0,0)),S,TabX 309 75 lv l.length (RowsOk Bc T l z.toNat)])
  (fun (z:Int) (q:Nat)=>z.toNat) ((l.length:Int)-2) _
  (by exact ⟨by omega,by omega⟩) ⟨rfl,rfl,trivial⟩ (by repeat (first | exact Sub.nil | refine Sub.cons (by repeat first | exact .head | apply Pick.tail) ?_)) ?_
 rintro z q ⟨hz1,hz2⟩
 refine W.seq (W.sreg (WO.load rfl rfl (Cell.own Pick.head rfl) rfl (WO.p rfl rfl (WO.nil ?_))))
 refine W.cond_bl rfl (fun c1=>?_) (fun c1=>?_)
 ·refine W.skip (W.seq (W.block ?_))
  obtain ⟨i,rfl⟩:=Int.eq_ofNat_of_zero_le (show 0≤z by omega)
  refine W.sreg (WO.load rfl rfl (Cell.own (Pick.tail (Pick.head)) rfl) rfl (WO.load rfl rfl (Cell.own Pick.head rfl) rfl (WO.call rfl Tryz.call207 (fun L w hi=>c_states w p i _ rfl) rfl ?_)))
  rintro fv _ ⟨e1,e2,rfl,rfl⟩
  refine WO.nil (W.block (W.chg (tabXm (fun g h=>RowTo.zero h) (by repeat first | exact .head | apply Pick.tail)) ?_))
  refine W.rangeFuncG [pt e2 (.cells #[.int .i64 (i:Int)] 3 (0,0)),pt e1 (.cells #[.pointer (some p)] 144 (0,0))] (fun k=>[S,TabX 309 75 lv l.length (RowTo Bc T l i k),pt q (.cells #[.int .i64 (i:Int)] 3 (0,0)),pt b1 (.cells #[.pointer (some p)] 144 (0,0))]) (stsV l i) rfl rfl rfl Tryz.call278 (by repeat (first | exact Sub.nil | refine Sub.cons (by repeat first | exact .head | apply Pick.tail) ?_)) ?_ ?_ ?_
  ·intro lp Hc hy hHc u1 M' hB' hk hM' hi
   exact c_states1 _ _ p v l t Bc T lv i hg h24 (by omega) (by omega) lp Hc hy (fun k=>by obtain ⟨A,e⟩:=hHc k;rw [e];exact DrS.sat hS') e1 e2 u1 M' hB' hk hM' hi
  ·intro lp u1 M' hB' hM' hk k x hx
   have q1:w1 l i≤5:=(wid_ok (hg _ (getD_mem (i:=i-1) (by omega) (0,0)))).2.1
   have q2:w2 l i≤5:=(wid_ok (hg _ (getD_mem (i:=i) (by omega) (0,0)))).2.1
   obtain ⟨a,b,s,ha,hb,hs,rfl,rfl⟩:=stsV_some hx
   have hS2:DrS (rdCx (itCx mixed tyTab Tryz.f126.ntmps w M B hB hM) lp u1 M' hB' hM').B (rdCx (itCx mixed tyTab Tryz.f126.ntmps w M B hB hM) lp u1 M' hB' hM').w0 S p v l t Bc T lv:=hS'.agree hk
   refine W.region (WO.alloc rfl rfl rfl (fun b3 hb3=>(WO.storeA rfl rfl rfl rfl Pick.head rfl rfl (WO.nil (W.block (W.chgE (TabX.open (by repeat first | exact .head | apply Pick.tail)) (fun g hgr=>(W.fact (TabP.sl (e:=309) (sz:=75) (n:=l.length) (v:=lv) (g:=g) Pick.head) (fun hlv=>(W.sreg (WO.load rfl rfl (Cell.own (Pick.tail (Pick.tail (Pick.tail (Pick.tail (Pick.head))))) rfl) rfl (WO.loadA rfl rfl (Cells.own (Pick.tail (Pick.head))) rfl rfl ?_))))))))))))
   refine WO.callR rfl Tryz.call131 (fun L w hi'=>c_go1 w p v l t Bc T lv g i a b s (DrS.at (S:=S) hS2 (by repeat first | exact .head | apply Pick.tail) hi') (RdT.of (by repeat exact .head) (by omega) hi') hg h24 hC (by omega) (by omega) ha hb hs (hgr.1 (i+1) (by omega) (by omega))) rfl (WO.p rfl rfl (WO.p rfl rfl (WO.p rfl rfl (WO.p rfl rfl (WO.p rfl rfl (WO.nil ?_))))))
   refine W.drawD 16 [.b 0 [],.r 1 [],.r 2 [],.b 3 [],.b 4 [],.r 5 [],.b 6 [],.r 7 [],.b 8 [],.r 9 [],.r 10 [],.b 11 [],.r 12 [],.r 13 [],.r 14 [],.r 15 []] [] (A0:=[_]) (H0:=[_,_,_,_]) (.cons .head (.cons .head (.cons .head (.cons .head (.cons .head .nil))))) (by kernel_rfl) ?_ ?_
   ·repeat constructor
   refine DT.b rfl rfl rfl (WO.load rfl rfl (Cell.own (Pick.tail (Pick.tail (Pick.tail (Pick.head)))) rfl) rfl (WO.nil ⟨rfl,rfl⟩)) (DT.r rfl rfl rfl (WO.p rfl rfl (WO.nil ⟨rfl,rfl⟩)) (DT.r rfl rfl rfl (WO.field rfl rfl rfl (WO.nil ⟨rfl,rfl⟩)) ?_))
   refine' DT.b rfl rfl rfl ?hq ?_
   case hq =>
    refine' WO.load (v:=_) rfl rfl ?hc rfl ?_
    case hc=>(first | (refine DrS.cellAt (S:=S) (j:=4) (u:=lv) hS2 ?_ rfl;exact (by repeat (first | exact Sub.nil | refine Sub.cons (by repeat first | exact .head | apply Pick.tail) ?_))))
    exact WO.nil ⟨rfl,rfl⟩
   refine DT.b rfl rfl rfl (WO.load rfl rfl (Cell.own (Pick.tail (Pick.tail (Pick.head))) rfl) rfl (WO.nil ⟨rfl,rfl⟩)) (DT.r rfl rfl rfl (WO.fieldL rfl rfl rfl (WO.nil ⟨rfl,rfl⟩)) (DT.b rfl rfl rfl (WO.load rfl rfl (Cell.own Pick.head rfl) rfl (WO.nil ⟨rfl,rfl⟩)) (DT.r rfl rfl rfl (WO.fieldL rfl rfl rfl (WO.nil ⟨rfl,rfl⟩)) (DT.b rfl rfl rfl (WO.load rfl rfl (Cell.own Pick.head rfl) rfl (WO.nil ⟨rfl,rfl⟩)) (DT.r rfl rfl rfl (WO.fieldL rfl rfl rfl (WO.nil ⟨rfl,rfl⟩)) (DT.r rfl rfl rfl (WO.field0 rfl rfl rfl (WO.nil ⟨rfl,rfl⟩)) (DT.b rfl rfl rfl (WO.load rfl rfl (Cell.own Pick.head rfl) rfl (WO.nil ⟨rfl,rfl⟩)) (DT.r rfl rfl rfl (WO.p rfl rfl (WO.nil ⟨rfl,rfl⟩)) ?_))))))))
   refine DT.r rfl rfl rfl (WO.indexAddr rfl rfl rfl hlv (by omega) rfl (WO.nil ⟨rfl,rfl⟩)) (DT.r rfl rfl rfl (WO.indexArr0 (i:=a) rfl rfl rfl rfl (by omega) rfl (WO.nil ⟨rfl,rfl⟩)) (DT.r rfl rfl rfl (WO.indexArrP (i:=b) (fo':=a*15+b*3) rfl rfl rfl rfl (by omega) rfl rfl (WO.nil ⟨rfl,rfl⟩)) (DT.nil [_,_,_,_,_] rfl (WO.indexArrP (i:=s) (fo':=a*15+b*3+s) rfl rfl rfl rfl (by omega) (by omega) rfl (WO.storeT (i:=i) (j:=a*15+b*3+s) rfl rfl rfl (by repeat exact .head) (by omega) (by omega) ?_)))))
   refine WO.chg (TabX.shut (p:=RowTo Bc T l i ((a*w2 l i+b)*3+s+1)) (hgr.next hg (by omega) ha hb hs) (by repeat exact .head)) (WO.nil ?_)
   (repeat (first | exact Sub.nil | refine Sub.cons (by repeat first | exact .head | apply Pick.tail) ?_))
  refine W.seq (W.chg (tabXm (p:=RowTo Bc T l i (stsV l i).length) (p':=RowsOk Bc T l ((i:Int)-1).toNat) (fun g hx=>by rw [show ((i:Int)-1).toNat=i-1 by omega];exact hx.all) (pk:=by repeat (first | exact Pick.head | apply Pick.tail))) (W.sreg (WO.load rfl rfl (Cell.own (Pick.tail (Pick.tail (Pick.tail (Pick.tail (Pick.head))))) rfl) rfl (WO.nil (W.region (WO.alloc rfl rfl rfl (fun b4 hb4=>(WO.store1 rfl rfl rfl (by rfl) Pick.head rfl (WO.nil (W.region (WO.load rfl rfl (Cell.own Pick.head rfl) rfl (WO.ar rfl rfl rfl (by unfold in64;omega) rfl (WO.store1 rfl rfl rfl (by rfl) Pick.head rfl (WO.nil ?_))))))))))))))
  refine' ⟨_,_,?hp,?hmu,⟨rfl,rfl,trivial⟩,?hS⟩
  case hS=>repeat (first | exact Sub.nil | refine Sub.cons (by repeat first | exact .head | apply Pick.tail) ?_)
  case hp=>exact ⟨by omega,by omega⟩
  case hmu=>omega
 ·refine W.exit (blk_same ?_)
  rw [show z.toNat=0 by omega]
  exact fin.normal (Res.none rfl) ⟨(),rfl,fun h hs=>Sub.sat (by repeat (first | exact Sub.nil | refine Sub.cons (by repeat first | exact .head | apply Pick.tail) ?_)) hs⟩
end Go.Proofs.YtfchgmiiicidcaaGreat.Fa
namespace Go.Proofs.YtfchgmiiicidcaaGreat.Fa
open Go Go.TH
attribute [local irreducible] W WO pt
set_option maxRecDepth 10000
set_option maxHeartbeats 1000000
theorem WO.quoN {C:Cx Tryz.prog} {ops:Array Oper} {K:KP} {rest:List Oper} {d:Nat} {ty:TypeId} {pos:String} {af:Array Edge} {x y:Operand} {T T':TypeId} {E:Env} {H:List HP} {a b:Nat} (hx:ev E x=some (.int .i64 (a:Int))) (hy:ev E y=some (.int .i64 (b:Int))) (hb:0<b) (ha:a≤1000000) (hN:Nat.blt d C.N=true) (h:WO C ops rest K ((d,.int .i64 ((a/b:Nat):Int))::E) H):WO C ops (⟨some d,.binOp .quo T x y T',ty,pos,af,none⟩::rest) K E H:=by
 have e:((a/b:Nat):Int)=(a:Int).tdiv (b:Int):=Int.ofNat_tdiv a b
 have e2:a/b≤a:=Nat.div_le_self a b
 refine WO.quo hx hy (by omega) (by rw [← e];unfold in64;generalize a/b=q at e2;omega) hN ?_
 rw [← e];exact h
theorem WO.remN {C:Cx Tryz.prog} {ops:Array Oper} {K:KP} {rest:List Oper} {d:Nat} {ty:TypeId} {pos:String} {af:Array Edge} {x y:Operand} {T T':TypeId} {E:Env} {H:List HP} {k:IntKind} {a b:Nat} (hx:ev E x=some (.int k (a:Int))) (hy:ev E y=some (.int k (b:Int))) (hb:0<b) (hN:Nat.blt d C.N=true) (h:WO C ops rest K ((d,.int k ((a%b:Nat):Int))::E) H):WO C ops (⟨some d,.binOp .rem T x y T',ty,pos,af,none⟩::rest) K E H:=by
 have e:((a%b:Nat):Int)=(a:Int).tmod (b:Int):=Int.ofNat_tmod a b
 refine WO.rem hx hy (by omega) hN ?_
 rw [← e];exact h
theorem WO.mulN {C:Cx Tryz.prog} {ops:Array Oper} {K:KP} {rest:List Oper} {d:Nat} {ty:TypeId} {pos:String} {af:Array Edge} {x y:Operand} {T T':TypeId} {E:Env} {H:List HP} {a b:Nat} (hx:ev E x=some (.int .i64 (a:Int))) (hy:ev E y=some (.int .i64 (b:Int))) (ha:a*b≤1000000) (hN:Nat.blt d C.N=true) (h:WO C ops rest K ((d,.int .i64 ((a*b:Nat):Int))::E) H):WO C ops (⟨some d,.binOp .mul T x y T',ty,pos,af,none⟩::rest) K E H:=by
 have e:((a*b:Nat):Int)=(a:Int)*(b:Int):=Int.natCast_mul a b
 refine WO.ar hx hy rfl (by rw [← e];unfold in64;generalize a*b=q at ha;omega) hN ?_
 rw [← e];exact h
theorem DrS.own {n0:Nat} {w0:World} {b ty:Nat} {fr:Nat × Nat} {v:Value} {l:List (Int × Int)} {t B T:Int} {lv:Value} (h:RdF encP 2 n0 w0 v l):DrS n0 w0 (pt b (.cells #[v,.int .i64 t,.int .i64 B,.int .i64 T,lv] ty fr)) ⟨b,0,none⟩ v l t B T lv:=fun u M L H w hi h1 h2 =>
 ⟨RdC.own (C:=itCx mixed tyTab 0 u M 0 (Nat.zero_le _) (fun _ _=>Nat.zero_le _)) (H:=pt b (.cells [v,.int .i64 t,.int .i64 B,.int .i64 T,lv].toArray ty fr)::H) (L:=L) Pick.head hi,(h.agree h2).up h1⟩
theorem c_new (w:World) (v:Value) (l:List (Int × Int)) (t B T:Int) (hR:IsSl v l.length) (h24:l.length≤24) (ho:v.oneCell'=true):Ct Tryz.prog 68 [.agg #[v,.int .i64 t],.int .i64 B,.int .i64 T].toArray w fun r w'=>∃ Hq,(∃ (x:Nat × Value),r=.pointer (some ⟨x.1,0,none⟩)∧Hq=[pt x.1 (.cells #[v,.int .i64 t,.int .i64 B,.int .i64 T,x.2] 213 (0,0)),TabP 309 75 x.2 l.length (fun _=>0)])∧Inv w [] Hq w':=by
 refine Ct.ofI (X:=Nat × Value) (p:=fun x r=>r=.pointer (some ⟨x.1,0,none⟩)) (Hx:=fun x=>[pt x.1 (.cells #[v,.int .i64 t,.int .i64 B,.int .i64 T,x.2] 213 (0,0)),TabP 309 75 x.2 l.length (fun _=>0)]) mixed tyTab Tryz.func68 rfl rfl (W.sreg (WO.boxA rfl rfl (fun b1 hb1=>(WO.p rfl rfl (WO.nil (W.seq ?_))))))
 refine W.drawD 7 [.b 0 [],.r 1 [],.r 2 [],.r 3 [],.b 4 [],.r 5 [],.c 6 []] [] (A0:=[]) (Sub.refl _) (by kernel_rfl) ?_ ?_
 ·repeat constructor
 refine DT.b rfl rfl rfl (WO.loadA rfl rfl (Cells.own Pick.head) rfl rfl (WO.nil ⟨rfl,rfl⟩)) (DT.r rfl rfl rfl (WO.p rfl rfl (WO.nil ⟨rfl,rfl⟩)) (DT.r rfl rfl rfl (WO.p rfl rfl (WO.nil ⟨rfl,rfl⟩)) (DT.r rfl rfl rfl (WO.field0 rfl rfl rfl (WO.nil ⟨rfl,rfl⟩)) (DT.b rfl rfl rfl (WO.load rfl rfl (Cell.own Pick.head rfl) rfl (WO.nil ⟨rfl,rfl⟩)) (DT.r rfl rfl rfl (WO.len rfl rfl hR rfl (WO.nil ⟨rfl,rfl⟩)) (DT.c [_] rfl rfl rfl rfl (WO.makeT (e:=309) (sz:=75) (by':=600) (by omega) rfl rfl rfl rfl rfl (by omega) (by omega) rfl (fun q=>?_))))))))
 refine WO.nil ⟨_,[_],rfl,rfl,(Keep.r (Keep.b (Keep.r (Keep.r (Keep.r (Keep.b Keep.nil)))))),?_⟩
 refine DT.nil [_,_] rfl (WO.build rfl rfl rfl rfl rfl (WO.boxA rfl rfl (fun b2 hb2=>(WO.p rfl rfl (WO.nil (W.ret ?_))))))
 exact fin.ret (Res.one rfl (RV.tmp rfl)) ⟨(_,_),rfl,fun h hs=>Sub.sat (by repeat (first | exact Sub.nil | refine Sub.cons (by repeat exact .head) ?_)) hs⟩
theorem c_best1 (w:World) (q q2 p:Addr) (v:Value) (l:List (Int × Int)) (t B T:Int) (lv:Value) (g:Nat→Int) (k:Nat) (hc1:Cap w q (.pointer (some p))) (hc2:Cap w q2 (.int .i64 (w2 l 1:Int)))
 (hD:DrR w.heap.size w p v l t B T lv) (hT:RdT 75 w.heap.size w lv l.length g) (hg:OkS l) (hl:2≤l.length) (hk:k<w1 l 1*w2 l 1) (hrow:RowOk B T l g 1) :
 Ret Tryz.prog 129 [.int .i64 (k:Int),.pointer (some q),.pointer (some q2)].toArray w (.int .i64 (gAt B T l 1 (k/w2 l 1) (k%w2 l 1) 0)):=by
 refine Ret.of mixed tyTab Tryz.func129 rfl rfl ?_
 replace hc1:Cap (fnCx mixed tyTab Tryz.f129.ntmps w).w0 q (.pointer (some p)):=hc1
 replace hc2:Cap (fnCx mixed tyTab Tryz.f129.ntmps w).w0 q2 (.int .i64 (w2 l 1:Int)):=hc2
 have hD':DrR (fnCx mixed tyTab Tryz.f129.ntmps w).B (fnCx mixed tyTab Tryz.f129.ntmps w).w0 p v l t B T lv:=hD
 have hT':RdT 75 (fnCx mixed tyTab Tryz.f129.ntmps w).B (fnCx mixed tyTab Tryz.f129.ntmps w).w0 lv l.length g:=hT
 have p1:w1 l 1≤5:=(wid_ok (hg _ (getD_mem (i:=0) (by omega) (0,0)))).2.1
 have p2:1≤w2 l 1∧w2 l 1≤5:=by have:=wid_ok (hg _ (getD_mem (i:=1) (by omega) (0,0)));exact ⟨this.1,this.2.1⟩
 have hk2:w1 l 1*w2 l 1≤25:=Nat.mul_le_mul p1 p2.2
 have ha:k/w2 l 1<w1 l 1:=Nat.div_lt_of_lt_mul (by rw [Nat.mul_comm];exact hk)
 have hb:k%w2 l 1<w2 l 1:=Nat.mod_lt _ (by omega)
 have hr:=hrow (k/w2 l 1) (k%w2 l 1) 0 ha hb (by omega)
 refine W.sreg (WO.p rfl rfl (WO.nil (W.seq ?_)))
 refine W.drawD 9 [.b 0 [],.r 1 [],.b 2 [],.r 3 [],.r 4 [],.b 5 [],.r 6 [],.r 7 [],.r 8 []] [] (A0:=[]) (Sub.refl _) (by kernel_rfl) ?_ ?_
 ·repeat constructor
 refine' DT.b rfl rfl rfl ?hq ?_
 case hq =>
  refine' WO.load (v:=_) rfl rfl ?hc rfl ?_
  case hc=>((refine Cap.cell (v:=.pointer (some p)) rfl hc1))
  exact WO.nil ⟨rfl,rfl⟩
 refine DT.r rfl rfl rfl (WO.p rfl rfl (WO.nil ⟨rfl,rfl⟩)) ?_
 refine' DT.b rfl rfl rfl ?hq ?_
 case hq =>
  refine' WO.load (v:=_) rfl rfl ?hc rfl ?_
  case hc=>((refine Cap.cell (v:=.int .i64 (w2 l 1:Int)) rfl hc2))
  exact WO.nil ⟨rfl,rfl⟩
 refine DT.r rfl rfl rfl (WO.quoN rfl rfl (by omega) (by omega) rfl (WO.nil ⟨rfl,rfl⟩)) (DT.r rfl rfl rfl (WO.p rfl rfl (WO.nil ⟨rfl,rfl⟩)) ?_)
 refine' DT.b rfl rfl rfl ?hq ?_
 case hq =>
  refine' WO.load (v:=_) rfl rfl ?hc rfl ?_
  case hc=>((refine Cap.cell (v:=.int .i64 (w2 l 1:Int)) rfl hc2))
  exact WO.nil ⟨rfl,rfl⟩
 refine DT.r rfl rfl rfl (WO.remN rfl rfl (by omega) rfl (WO.nil ⟨rfl,rfl⟩)) (DT.r rfl rfl rfl (WO.build rfl rfl rfl rfl rfl (WO.nil ⟨rfl,rfl⟩)) (DT.r rfl rfl rfl (WO.build rfl rfl rfl rfl rfl (WO.nil ⟨rfl,rfl⟩)) (DT.nil [] rfl (WO.callR (r:=.int .i64 (gAt B T l 1 (k/w2 l 1) (k%w2 l 1) 0)) rfl Tryz.call130 (fun L w hi'=>by rw [← hr];exact c_at w p v l t B T lv g 1 (k/w2 l 1) (k%w2 l 1) 0 (hD'.later hi') (hT'.later hi') (by omega) (by omega) (by omega) (by omega)) rfl (WO.p rfl rfl (WO.nil (W.ret ?_)))))))
 exact fin.ret (Res.one rfl (RV.tmp rfl)) rfl
def goL (B T:Int):List (Int × Int)→Int→Int→Nat→List Int
 | [],_,_,_=>[]
 | r::rs,x,y,s=>(r.1+((lst (fun c=>stp B T s (x-2*y+(r.1+c))+gof B T rs y (r.1+c) (sg s (x-2*y+(r.1+c)))) (wid r-1)).1:Int))::goL B T rs y (r.1+((lst (fun c=>stp B T s (x-2*y+(r.1+c))+gof B T rs y (r.1+c) (sg s (x-2*y+(r.1+c)))) (wid r-1)).1:Int)) (sg s (x-2*y+(r.1+((lst (fun c=>stp B T s (x-2*y+(r.1+c))+gof B T rs y (r.1+c) (sg s (x-2*y+(r.1+c)))) (wid r-1)).1:Int))))
def goAt (B T:Int) (l:List (Int × Int)) (i a b s:Nat):List Int:=goL B T (l.drop (i+1)) ((l.getD (i-1) (0,0)).1+a) ((l.getD i (0,0)).1+b) s
def cAt (B T:Int) (l:List (Int × Int)) (i a b s:Nat):Nat:=(lst (gOn B T l i a b s) (wid (l.getD (i+1) (0,0))-1)).1
theorem goAt_last {B T:Int} {l:List (Int × Int)} {i a b s:Nat} (h:l.length≤i+1):goAt B T l i a b s=[]:=by
 unfold goAt;rw [List.drop_eq_nil_of_le h];rfl
theorem goAt_succ {B T:Int} {l:List (Int × Int)} {i a b s:Nat} (h:i+1<l.length):goAt B T l i a b s=((l.getD (i+1) (0,0)).1+(cAt B T l i a b s:Int))::goAt B T l (i+1) b (cAt B T l i a b s) (sg s (dif l i a b (cAt B T l i a b s))):=by
 have e:l.drop (i+1)=l.getD (i+1) (0,0)::l.drop (i+2):=by
  rw [List.drop_eq_getElem_cons h,List.getD_eq_getElem?_getD,List.getElem?_eq_getElem h];rfl
 unfold goAt
 rw [e]
 rfl
theorem cAt_lt {B T:Int} {l:List (Int × Int)} {i a b s:Nat} (hg:OkS l) (h:i+1<l.length):cAt B T l i a b s<wid (l.getD (i+1) (0,0)):=by
 have h1:=(lst_spec (gOn B T l i a b s) (wid (l.getD (i+1) (0,0))-1)).1
 have h2:=(wid_ok (hg _ (getD_mem (i:=i+1) (by omega) (0,0)))).1
 unfold cAt;omega
def kB (B T:Int) (l:List (Int × Int)):Nat × Int:=lst (fun k=>gAt B T l 1 (k/w2 l 1) (k%w2 l 1) 0) (w1 l 1*w2 l 1-1)
def bestL (B T:Int) (l:List (Int × Int)):List Int:=if l.length=1 then [(l.getD 0 (0,0)).1] else
 ((l.getD 0 (0,0)).1+(((kB B T l).1/w2 l 1:Nat):Int))::((l.getD 1 (0,0)).1+(((kB B T l).1%w2 l 1:Nat):Int))::goAt B T l 1 ((kB B T l).1/w2 l 1) ((kB B T l).1%w2 l 1) 0
def bestC (B T:Int) (l:List (Int × Int)):Int:=if l.length=1 then 0 else (kB B T l).2
theorem RowsOk.at_ {B T:Int} {l:List (Int × Int)} {g:Nat→Int} (h:RowsOk B T l 0 g) {i:Nat} (h1:1≤i) (h2:i<l.length):RowOk B T l g i:=h i h1 h2
theorem kB_lt {B T:Int} {l:List (Int × Int)} (hg:OkS l) (hl:2≤l.length):(kB B T l).1<w1 l 1*w2 l 1∧1≤w2 l 1∧w2 l 1≤5∧1≤w1 l 1∧w1 l 1≤5:=by
 have p1:=wid_ok (hg _ (getD_mem (i:=0) (by omega) (0,0)))
 have p2:=wid_ok (hg _ (getD_mem (i:=1) (by omega) (0,0)))
 have q1:1≤w1 l 1:=p1.1
 have q2:1≤w2 l 1:=p2.1
 have q3:=Nat.mul_le_mul q1 q2
 have:=(lst_spec (fun k=>gAt B T l 1 (k/w2 l 1) (k%w2 l 1) 0) (w1 l 1*w2 l 1-1)).1
 exact ⟨by unfold kB;omega,q2,p2.2.1,q1,p1.2.1⟩
theorem c_best (B:Nat) (w:World) (S:HP) (p:Addr) (v:Value) (l:List (Int × Int)) (t Bc T:Int) (lv:Value) (hB:B≤w.heap.size) (hS:DrS B w S p v l t Bc T lv) (hv:IsSl v l.length) (hg:OkS l) (h24:l.length≤24) (hn:1≤l.length) (hC:OkC Bc T) :
 CtH Tryz.prog 69 [.pointer (some p)] w [S,TabP 309 75 lv l.length (fun _=>0)] B (fun r Hq=>∃ rv:Value,r=.tuple #[rv,.int .i64 (bestC Bc T l)]∧Hq=[OwE encI 2 1 rv (bestL Bc T l)]):=by
 refine CtH.ofI (X:=Value) (p:=fun rv r=>r=.tuple #[rv,.int .i64 (bestC Bc T l)]) (Hx:=fun rv=>[OwE encI 2 1 rv (bestL Bc T l)]) mixed tyTab hB Tryz.func69 rfl rfl (fun M hM=>?_)
 have hS':DrS (itCx mixed tyTab Tryz.f69.ntmps w M B hB hM).B (itCx mixed tyTab Tryz.f69.ntmps w M B hB hM).w0 S p v l t Bc T lv:=hS
 have hle:=hv.le
 have hg0:=hg _ (getD_mem (i:=0) (by omega) (0,0))
 refine W.sreg (WO.box1 rfl (by rfl) rfl (fun b1 hb1=>(WO.p rfl rfl (WO.p rfl rfl (WO.nil (W.sreg (WO.load rfl rfl (Cell.own Pick.head rfl) rfl (WO.callH (Hp:=[S,TabP 309 75 lv l.length (fun _=>0)]) rfl Tryz.call126 (.cons (by repeat first | exact .head | apply Pick.tail) (.cons (by repeat first | exact .head | apply Pick.tail) (Sub.refl _))) (fun L w hi hB2=>c_fill _ w S p v l t Bc T lv hB2 (hS'.agree hi.keepB) hv hg h24 hn hC) rfl ?_))))))))
 rintro _ _ ⟨_,rfl,rfl⟩
 refine WO.nil (W.chgE (TabX.open (by repeat first | exact .head | apply Pick.tail)) (fun gg hgr=>(W.sreg (WO.load rfl rfl (Cell.own (Pick.tail (Pick.tail (Pick.head))) rfl) rfl (WO.p rfl rfl (WO.field0 rfl rfl rfl (WO.field0 rfl rfl rfl ?_)))))))
 refine' WO.load (v:=_) rfl rfl ?hc rfl ?_
 case hc=>(first | (refine DrS.cell0 (S:=S) (v:=v) hS' ?_;exact (by repeat (first | exact Sub.nil | refine Sub.cons (by repeat first | exact .head | apply Pick.tail) ?_))))
 refine WO.indexAddr (i:=0) rfl rfl rfl hv (by omega) rfl (WO.field0 rfl rfl rfl ?_)
 refine' WO.load (v:=_) rfl rfl ?hc rfl ?_
 case hc=>(first | (refine DrS.lo (S:=S) (i:=0) hS' ?_ (by omega) rfl rfl;exact (by repeat (first | exact Sub.nil | refine Sub.cons (by repeat first | exact .head | apply Pick.tail) ?_))))
 refine WO.buildSl rfl rfl rfl rfl rfl rfl rfl rfl rfl (fun v2=>(WO.p rfl rfl (WO.nil (W.seq (W.sreg (WO.load rfl rfl (Cell.own (Pick.tail (Pick.tail (Pick.tail (Pick.head)))) rfl) rfl (WO.p rfl rfl (WO.field0 rfl rfl rfl (WO.field0 rfl rfl rfl ?_)))))))))
 refine' WO.load (v:=_) rfl rfl ?hc rfl ?_
 case hc=>(first | (refine DrS.cell0 (S:=S) (v:=v) hS' ?_;exact (by repeat (first | exact Sub.nil | refine Sub.cons (by repeat first | exact .head | apply Pick.tail) ?_))))
 refine WO.len rfl rfl hv rfl (WO.p rfl rfl (WO.nil ?_))
 refine W.cond_bl rfl (fun c1=>?_) (fun c1=>?_)
 ·refine W.sreg (WO.p rfl rfl (WO.p rfl rfl (WO.p rfl rfl (WO.nil (W.ret ?_)))))
  first | (have e7:bestL Bc T l=[(l.getD 0 (0,0)).1]:=if_pos (by omega);have e8:bestC Bc T l=0:=if_pos (by omega);rw [e7,e8];exact fin.ret (Res.two rfl (RV.tmp rfl) (RV.tmp rfl)) ⟨_,rfl,fun h hs=>Sub.sat (.cons .head .nil) hs⟩) | (rw [goAt_last (i:=i) (by omega),List.append_nil] at hpre;rw [← hpre,e6];exact fin.ret (Res.two rfl (RV.tmp rfl) (RV.tmp rfl)) ⟨_,rfl,fun h hs=>Sub.sat (by repeat (first | exact Sub.nil | refine Sub.cons (by repeat first | exact .head | apply Pick.tail) ?_)) hs⟩)
 ·refine W.skip ?_
  have hg1:=hg _ (getD_mem (i:=1) (by omega) (0,0))
  have hkB:=kB_lt (B:=Bc) (T:=T) hg (by omega)
  have hk2:w1 l 1*w2 l 1≤25:=Nat.mul_le_mul hkB.2.2.2.2 hkB.2.2.1
  have e5:bestL Bc T l=_:=if_neg (show ¬ l.length=1 by omega)
  have e6:bestC Bc T l=_:=if_neg (show ¬ l.length=1 by omega)
  have hm1:(kB Bc T l).1/w2 l 1<w1 l 1:=Nat.div_lt_of_lt_mul (by rw [Nat.mul_comm];exact hkB.1)
  have hm2:(kB Bc T l).1%w2 l 1<w2 l 1:=Nat.mod_lt _ (by omega)
  have hz1:(0:Int)≤(((kB Bc T l).1/w2 l 1:Nat):Int):=Int.natCast_nonneg _
  have hz2:(0:Int)≤(((kB Bc T l).1%w2 l 1:Nat):Int):=Int.natCast_nonneg _
  unfold OkG at hg0 hg1
  refine W.sreg (WO.load rfl rfl (Cell.own (Pick.tail (Pick.tail (Pick.tail (Pick.head)))) rfl) rfl (WO.callR (r:=.int .i64 (w2 l 1:Int)) rfl Tryz.call127 (fun L w hi'=>c_wide w p v l t Bc T lv 1 _ (hS'.at (by repeat first | exact .head | apply Pick.tail) hi') rfl (by omega) hg) rfl (WO.alloc rfl rfl rfl (fun b3 hb3=>(WO.store1 rfl rfl rfl (by rfl) Pick.head rfl (WO.nil (W.seq ?_)))))))
  refine W.drawD 10 [.b 0 [],.b 1 [],.b 2 [],.r 3 [],.r 4 [],.b 5 [],.r 6 [],.r 7 [],.r 8 [],.r 9 []] [] (A0:=[]) (Sub.refl _) (by kernel_rfl) ?_ ?_
  ·repeat constructor
  refine DT.b rfl rfl rfl (WO.load rfl rfl (Cell.own (Pick.tail (Pick.tail (Pick.tail (Pick.tail (Pick.head))))) rfl) rfl (WO.nil ⟨rfl,rfl⟩)) (DT.b rfl rfl rfl (WO.callR (r:=.int .i64 (w1 l 1:Int)) rfl Tryz.call127 (fun L w hi'=>c_wide w p v l t Bc T lv 0 _ (hS'.at (by repeat first | exact .head | apply Pick.tail) hi') rfl (by omega) hg) rfl (WO.nil ⟨rfl,rfl⟩)) (DT.b rfl rfl rfl (WO.load rfl rfl (Cell.own Pick.head rfl) rfl (WO.nil ⟨rfl,rfl⟩)) (DT.r rfl rfl rfl (WO.mulN rfl rfl (by omega) rfl (WO.nil ⟨rfl,rfl⟩)) (DT.r rfl rfl rfl (WO.p rfl rfl (WO.nil ⟨rfl,rfl⟩)) ?_))))
  refine DT.b rfl rfl rfl (WO.callR (r:=.tuple #[.int .i64 ((kB Bc T l).1:Int),.int .i64 (kB Bc T l).2]) rfl Tryz.call128 (fun L w hi'=>c_least w (w1 l 1*w2 l 1) 129 [.pointer (some ⟨b1,0,none⟩),.pointer (some ⟨b3,0,none⟩)] (fun k=>gAt Bc T l 1 (k/w2 l 1) (k%w2 l 1) 0) (by omega) (by omega) (fun u hu hk x hx=>c_best1 u ⟨b1,0,none⟩ ⟨b3,0,none⟩ p v l t Bc T lv gg x ((Cap.of (b:=b1) (off:=0) (v:=.pointer (some p)) (by repeat first | exact .head | apply Pick.tail) rfl hi').upTo hu hk) ((Cap.of (b:=b3) (off:=0) (v:=.int .i64 (w2 l 1:Int)) (by repeat exact .head) rfl hi').upTo hu hk) (((hS'.at (by repeat first | exact .head | apply Pick.tail) hi').agree hk).up hu) (((RdT.of (by repeat first | exact .head | apply Pick.tail) (by omega) hi').agree hk).up hu) hg (by omega) hx (hgr.at_ (by omega) (by omega))) Tryz.call129) rfl (WO.nil ⟨rfl,rfl⟩)) ?_
  refine DT.r rfl rfl rfl (WO.p rfl rfl (WO.nil ⟨rfl,rfl⟩)) (DT.r rfl rfl rfl (WO.p rfl rfl (WO.nil ⟨rfl,rfl⟩)) (DT.r rfl rfl rfl (WO.p rfl rfl (WO.nil ⟨rfl,rfl⟩)) (DT.r rfl rfl rfl (WO.p rfl rfl (WO.nil ⟨rfl,rfl⟩)) (DT.nil [_,_,_,_,_] rfl (WO.p rfl rfl (WO.nil (W.seq ?_)))))))
  refine W.drawD 9 [.r 0 [],.b 1 [],.r 2 [],.r 3 [],.b 4 [],.r 5 [],.r 6 [],.r 7 [],.a 8 8 (.cells #[.int .i64 0,.int .i64 0,.int .i64 0,.int .i64 0] 220 (0,0))] [] (A0:=[]) (Sub.refl _) (by kernel_rfl) ?_ ?_
  ·exact (ALok.r (ALok.b (ALok.r (ALok.r (ALok.b (ALok.r (ALok.r (ALok.r (ALok.cons rfl rfl rfl rfl rfl ALok.nil)))))))))
  refine DT.r rfl rfl rfl (WO.p rfl rfl (WO.nil ⟨rfl,rfl⟩)) (DT.b rfl rfl rfl (WO.load rfl rfl (Cell.own Pick.head rfl) rfl (WO.nil ⟨rfl,rfl⟩)) (DT.r rfl rfl rfl (WO.quoN rfl rfl (by omega) (by omega) rfl (WO.nil ⟨rfl,rfl⟩)) (DT.r rfl rfl rfl (WO.p rfl rfl (WO.nil ⟨rfl,rfl⟩)) (DT.b rfl rfl rfl (WO.load rfl rfl (Cell.own Pick.head rfl) rfl (WO.nil ⟨rfl,rfl⟩)) (DT.r rfl rfl rfl (WO.remN rfl rfl (by omega) rfl (WO.nil ⟨rfl,rfl⟩)) (DT.r rfl rfl rfl (WO.build rfl rfl rfl rfl rfl (WO.nil ⟨rfl,rfl⟩)) (DT.r rfl rfl rfl (WO.build rfl rfl rfl rfl rfl (WO.nil ⟨rfl,rfl⟩)) (DT.a (fun b4=>(DT.nil [_,_,_,_,_,_] rfl (WO.storeA rfl rfl rfl rfl Pick.head rfl rfl (WO.nil ?_))))))))))))
  refine W.seq ?_
  refine W.drawD 5 [.r 0 [],.r 1 [],.f 2 [],.r 3 [],.b 4 []] [] (A0:=[_]) (H0:=[_,_,_,_,_]) (.cons (Pick.tail (Pick.tail .head)) (.cons .head (.cons .head (.cons .head (.cons .head (.cons .head .nil)))))) (by kernel_rfl) ?_ ?_
  ·repeat constructor
  refine DT.r rfl rfl rfl (WO.p rfl rfl (WO.nil ⟨rfl,rfl⟩)) (DT.r rfl rfl rfl (WO.indexAddr (i:=0) rfl rfl rfl (isSl_lit (n:=1) (c:=1) (by omega) (fun _=>⟨_,_,rfl⟩)) (by omega) rfl (WO.nil ⟨rfl,rfl⟩)) ?_)
  refine' DT.f [_,_,_,_,_,_] rfl rfl rfl rfl ?hq ?_
  case hq =>
   refine' WO.load (v:=_) rfl rfl ?hc rfl ?_
   case hc=>(first | (refine owE_cellS (e:=2) (v:=.slice (some ⟨v2,0,none⟩) 1 1) (xs:=[(l.getD 0 (0,0)).1]) (x:=(l.getD 0 (0,0)).1) (i:=0) ?_ (by simp) rfl rfl;exact (by repeat (first | exact Sub.nil | refine Sub.cons (by repeat exact .head) ?_))))
   exact WO.nil ⟨rfl,rfl⟩
  refine DT.r rfl rfl rfl (WO.fieldL rfl rfl rfl (WO.nil ⟨rfl,rfl⟩)) (DT.b rfl rfl rfl (WO.load rfl rfl (Cell.own Pick.head rfl) rfl (WO.nil ⟨rfl,rfl⟩)) (DT.nil [_,_,_,_,_,_] rfl (WO.ar rfl rfl rfl (by unfold in64;omega) rfl (WO.indexAddr (i:=0) rfl rfl rfl (isSl_lit (n:=1) (c:=1) (by omega) (fun _=>⟨_,_,rfl⟩)) (by omega) rfl (WO.storeE (n:=(l.getD 0 (0,0)).1+(((kB Bc T l).1/w2 l 1:Nat):Int)) (i:=0) (xs:=[(l.getD 0 (0,0)).1]) encI_ok rfl rfl rfl rfl (by repeat exact .head) (by simp) (WO.nil (W.seq ?_)))))))
  refine W.drawD 13 [.r 0 [],.b 1 [],.r 2 [],.r 3 [],.r 4 [],.b 5 [],.r 6 [],.r 7 [],.b 8 [],.r 9 [],.b 10 [],.r 11 [],.c 12 []] [] (A0:=[_]) (H0:=[_,_,_,_,_]) (.cons .head (.cons .head (.cons .head (.cons .head (.cons .head (.cons .head .nil)))))) (by kernel_rfl) ?_ ?_
  ·repeat constructor
  refine DT.r rfl rfl rfl (WO.p rfl rfl (WO.nil ⟨rfl,rfl⟩)) (DT.b rfl rfl rfl (WO.load rfl rfl (Cell.own (Pick.tail (Pick.tail (Pick.tail (Pick.tail (Pick.head))))) rfl) rfl (WO.nil ⟨rfl,rfl⟩)) (DT.r rfl rfl rfl (WO.p rfl rfl (WO.nil ⟨rfl,rfl⟩)) (DT.r rfl rfl rfl (WO.field0 rfl rfl rfl (WO.nil ⟨rfl,rfl⟩)) (DT.r rfl rfl rfl (WO.field0 rfl rfl rfl (WO.nil ⟨rfl,rfl⟩)) ?_))))
  refine' DT.b rfl rfl rfl ?hq ?_
  case hq =>
   refine' WO.load (v:=_) rfl rfl ?hc rfl ?_
   case hc=>(first | (refine DrS.cell0 (S:=S) (v:=v) hS' ?_;exact (by repeat (first | exact Sub.nil | refine Sub.cons (by repeat first | exact .head | apply Pick.tail) ?_))))
   exact WO.nil ⟨rfl,rfl⟩
  refine DT.r rfl rfl rfl (WO.indexAddr (i:=1) rfl rfl rfl hv (by omega) rfl (WO.nil ⟨rfl,rfl⟩)) (DT.r rfl rfl rfl (WO.field0 rfl rfl rfl (WO.nil ⟨rfl,rfl⟩)) ?_)
  refine' DT.b rfl rfl rfl ?hq ?_
  case hq =>
   refine' WO.load (v:=_) rfl rfl ?hc rfl ?_
   case hc=>(first | (refine DrS.lo (S:=S) (i:=1) hS' ?_ (by omega) rfl rfl;exact (by repeat (first | exact Sub.nil | refine Sub.cons (by repeat first | exact .head | apply Pick.tail) ?_))))
   exact WO.nil ⟨rfl,rfl⟩
  refine DT.r rfl rfl rfl (WO.fieldL rfl rfl rfl (WO.nil ⟨rfl,rfl⟩)) (DT.b rfl rfl rfl (WO.load rfl rfl (Cell.own Pick.head rfl) rfl (WO.nil ⟨rfl,rfl⟩)) (DT.r rfl rfl rfl (WO.ar rfl rfl rfl (by unfold in64;omega) rfl (WO.nil ⟨rfl,rfl⟩)) (DT.c [_,_,_,_,_,_] rfl rfl rfl rfl (WO.buildSl rfl rfl rfl rfl rfl rfl rfl rfl rfl (fun v5=>?_)))))
  refine WO.nil ⟨_,[_,_],rfl,rfl,(Keep.r (Keep.b (Keep.r (Keep.b (Keep.r (Keep.r (Keep.b (Keep.r (Keep.r (Keep.r (Keep.b (Keep.r Keep.nil)))))))))))),?_⟩
  refine DT.nil [_,_,_,_,_,_,_] rfl ?_
  refine' WO.appendE (enc:=encI) (m:=1) (xs:=[(l.getD 0 (0,0)).1+(((kB Bc T l).1/w2 l 1:Nat):Int)]) (ys:=[(l.getD 1 (0,0)).1+(((kB Bc T l).1%w2 l 1:Nat):Int)]) encI_ok rfl rfl rfl rfl rfl (by repeat first | exact .head | apply Pick.tail) (isSl_lit (by omega) (fun _=>⟨_,_,rfl⟩)) (by omega) rfl (OwC.cells .head) (by simp) (by simp) rfl (fun g c=>?_)
  refine WO.p rfl rfl (WO.nil (W.seq (W.block ?_)))
  refine W.loop6 (fun (i:Nat) (a:Nat) (b:Nat) (s:Nat) (o:Value) (pre:List Int)=>1≤i∧i<l.length∧a<w1 l i∧b<w2 l i∧s<3∧pre.length=i+1∧pre++goAt Bc T l i a b s=bestL Bc T l)
   (fun (i:Nat) (a:Nat) (b:Nat) (s:Nat) (o:Value) (pre:List Int)=>[(1,.pointer (some ⟨b1,0,none⟩)),(4,o),(7,.int .i64 (kB Bc T l).2),(8,.pointer (some ⟨b4,0,none⟩))])
   (fun (i:Nat) (a:Nat) (b:Nat) (s:Nat) (o:Value) (pre:List Int)=>[pt b1 (.cells #[.pointer (some p)] 144 (0,0)),S,TabP 309 75 lv l.length gg,pt b4 (.cells #[.int .i64 (i:Int),.int .i64 (a:Int),.int .i64 (b:Int),.int .i64 (s:Int)] 220 (0,0)),OwE encI 2 1 o pre])
   (fun (i:Nat) (a:Nat) (b:Nat) (s:Nat) (o:Value) (pre:List Int)=>l.length-i) 1 ((kB Bc T l).1/w2 l 1) ((kB Bc T l).1%w2 l 1) 0 _ [(l.getD 0 (0,0)).1+(((kB Bc T l).1/w2 l 1:Nat):Int),(l.getD 1 (0,0)).1+(((kB Bc T l).1%w2 l 1:Nat):Int)]
   (by exact ⟨by omega,by omega,hm1,hm2,by omega,rfl,by rw [e5];rfl⟩) ⟨rfl,rfl,rfl,rfl,trivial⟩ (by repeat (first | exact Sub.nil | refine Sub.cons (by repeat first | exact .head | apply Pick.tail) ?_)) ?_
  rintro i a b s o pre ⟨hi1,hil,ha,hb,hs,hpl,hpre⟩
  refine W.seq (W.seq ?_)
  refine W.drawD 9 [.r 0 [],.b 1 [],.r 2 [],.b 3 [],.r 4 [],.r 5 [],.r 6 [],.b 7 [],.r 8 []] [] (A0:=[]) (Sub.refl _) (by kernel_rfl) ?_ ?_
  ·repeat constructor
  refine DT.r rfl rfl rfl (WO.field0 rfl rfl rfl (WO.nil ⟨rfl,rfl⟩)) (DT.b rfl rfl rfl (WO.load rfl rfl (Cell.own (Pick.tail (Pick.tail (Pick.tail (Pick.head)))) rfl) rfl (WO.nil ⟨rfl,rfl⟩)) (DT.r rfl rfl rfl (WO.ar rfl rfl rfl (by unfold in64;omega) rfl (WO.nil ⟨rfl,rfl⟩)) (DT.b rfl rfl rfl (WO.load rfl rfl (Cell.own Pick.head rfl) rfl (WO.nil ⟨rfl,rfl⟩)) (DT.r rfl rfl rfl (WO.p rfl rfl (WO.nil ⟨rfl,rfl⟩)) (DT.r rfl rfl rfl (WO.field0 rfl rfl rfl (WO.nil ⟨rfl,rfl⟩)) (DT.r rfl rfl rfl (WO.field0 rfl rfl rfl (WO.nil ⟨rfl,rfl⟩)) ?_))))))
  refine' DT.b rfl rfl rfl ?hq ?_
  case hq =>
   refine' WO.load (v:=_) rfl rfl ?hc rfl ?_
   case hc=>(first | (refine DrS.cell0 (S:=S) (v:=v) hS' ?_;exact (by repeat (first | exact Sub.nil | refine Sub.cons (by repeat first | exact .head | apply Pick.tail) ?_))))
   exact WO.nil ⟨rfl,rfl⟩
  refine DT.r rfl rfl rfl (WO.len rfl rfl hv rfl (WO.nil ⟨rfl,rfl⟩)) (DT.nil [_,_,_,_,_] rfl (WO.p rfl rfl (WO.nil ?_)))
  refine W.cond_bl rfl (fun c2=>?_) (fun c2=>?_)
  ·refine W.skip (W.block ?_)
   have ha5:=wid_ok (hg _ (getD_mem (i:=i-1) (by omega) (0,0)))
   have hb5:=wid_ok (hg _ (getD_mem (i:=i) (by omega) (0,0)))
   have hc5:=wid_ok (hg _ (getD_mem (i:=i+1) (by omega) (0,0)))
   have hcc:=cAt_lt (B:=Bc) (T:=T) (i:=i) (a:=a) (b:=b) (s:=s) hg (by omega)
   have hgi:=hg _ (getD_mem (i:=i+1) (by omega) (0,0))
   unfold OkG at hgi
   have ha':a<wid (l.getD (i-1) (0,0)):=ha
   have hb':b<wid (l.getD i (0,0)):=hb
   refine W.sreg (WO.load rfl rfl (Cell.own Pick.head rfl) rfl (WO.loadA rfl rfl (Cells.own (Pick.tail (Pick.tail (Pick.tail (Pick.head))))) rfl rfl (WO.callR (r:=.tuple #[.int .i64 (cAt Bc T l i a b s:Int),.int .i64 (gAt Bc T l i a b s)]) rfl Tryz.call131 (fun L w hi'=>c_go1 w p v l t Bc T lv gg i a b s (hS'.at (by repeat first | exact .head | apply Pick.tail) hi') (RdT.of (by repeat first | exact .head | apply Pick.tail) (by omega) hi') hg h24 hC hi1 (by omega) ha hb hs (hgr.at_ (by omega) (by omega))) rfl (WO.p rfl rfl (WO.p rfl rfl (WO.p rfl rfl (WO.p rfl rfl (WO.p rfl rfl (WO.nil (W.sreg ?_))))))))))
   refine WO.load rfl rfl (Cell.own Pick.head rfl) rfl (WO.loadA rfl rfl (Cells.own (Pick.tail (Pick.tail (Pick.tail (Pick.head))))) rfl rfl (WO.p rfl rfl (WO.callR rfl Tryz.call132 (fun L w hi'=>c_on w p v l t Bc T lv i a b s (cAt Bc T l i a b s) (hS'.at (by repeat first | exact .head | apply Pick.tail) hi') hg hC hi1 (by omega) (by omega) (by omega) hs (by omega)) rfl (WO.p rfl rfl (WO.p rfl rfl (WO.p rfl rfl (WO.storeA rfl rfl rfl rfl (Pick.tail (Pick.tail (Pick.tail (Pick.head)))) rfl rfl (WO.nil ?_))))))))
   refine W.drawD 14 [.r 0 [],.b 1 [],.r 2 [],.r 3 [],.r 4 [],.b 5 [],.r 6 [],.b 7 [],.r 8 [],.r 9 [],.b 10 [],.r 11 [],.r 12 [],.c 13 []] [] (A0:=[_]) (H0:=[_,_,_,_]) (.cons (Pick.tail (Pick.tail (Pick.tail (Pick.tail .head)))) (.cons .head (.cons .head (.cons .head (.cons .head .nil))))) (by kernel_rfl) ?_ ?_
   ·repeat constructor
   refine DT.r rfl rfl rfl (WO.p rfl rfl (WO.nil ⟨rfl,rfl⟩)) (DT.b rfl rfl rfl (WO.load rfl rfl (Cell.own (Pick.tail (Pick.head)) rfl) rfl (WO.nil ⟨rfl,rfl⟩)) (DT.r rfl rfl rfl (WO.p rfl rfl (WO.nil ⟨rfl,rfl⟩)) (DT.r rfl rfl rfl (WO.field0 rfl rfl rfl (WO.nil ⟨rfl,rfl⟩)) (DT.r rfl rfl rfl (WO.field0 rfl rfl rfl (WO.nil ⟨rfl,rfl⟩)) ?_))))
   refine' DT.b rfl rfl rfl ?hq ?_
   case hq =>
    refine' WO.load (v:=_) rfl rfl ?hc rfl ?_
    case hc=>(first | (refine DrS.cell0 (S:=S) (v:=v) hS' ?_;exact (by repeat (first | exact Sub.nil | refine Sub.cons (by repeat first | exact .head | apply Pick.tail) ?_))))
    exact WO.nil ⟨rfl,rfl⟩
   refine DT.r rfl rfl rfl (WO.field0 rfl rfl rfl (WO.nil ⟨rfl,rfl⟩)) (DT.b rfl rfl rfl (WO.load rfl rfl (Cell.own Pick.head rfl) rfl (WO.nil ⟨rfl,rfl⟩)) (DT.r rfl rfl rfl (WO.indexAddr rfl rfl rfl hv (by omega) rfl (WO.nil ⟨rfl,rfl⟩)) (DT.r rfl rfl rfl (WO.field0 rfl rfl rfl (WO.nil ⟨rfl,rfl⟩)) ?_)))
   refine' DT.b rfl rfl rfl ?hq ?_
   case hq =>
    refine' WO.load (v:=_) rfl rfl ?hc rfl ?_
    case hc=>(first | (refine DrS.lo (S:=S) (i:=i+1) hS' ?_ (by omega) ?_ rfl;exact (by repeat (first | exact Sub.nil | refine Sub.cons (by repeat first | exact .head | apply Pick.tail) ?_));omega))
    exact WO.nil ⟨rfl,rfl⟩
   refine DT.r rfl rfl rfl (WO.p rfl rfl (WO.nil ⟨rfl,rfl⟩)) (DT.r rfl rfl rfl (WO.ar rfl rfl rfl (by unfold in64;omega) rfl (WO.nil ⟨rfl,rfl⟩)) (DT.c [_,_,_,_,_] rfl rfl rfl rfl (WO.buildSl rfl rfl rfl rfl rfl rfl rfl rfl rfl (fun v6=>?_))))
   refine WO.nil ⟨_,[_,_],rfl,rfl,(Keep.r (Keep.r (Keep.b (Keep.r (Keep.r (Keep.b (Keep.r (Keep.b (Keep.r (Keep.r (Keep.r (Keep.b (Keep.r Keep.nil))))))))))))),?_⟩
   refine DT.nil [_,_,_,_,_,_] rfl ?_
   refine' WO.appendE (enc:=encI) (m:=1) (xs:=pre) (ys:=[(l.getD (i+1) (0,0)).1+(cAt Bc T l i a b s:Int)]) encI_ok rfl rfl rfl rfl rfl (by repeat first | exact .head | apply Pick.tail) (isSl_lit (by omega) (fun _=>⟨_,_,rfl⟩)) (by omega) rfl (OwC.cells .head) (by omega) (by omega) rfl (fun g c=>?_)
   refine WO.p rfl rfl (WO.nil ?_)
   refine' ⟨i+1,b,cAt Bc T l i a b s,sg s (dif l i a b (cAt Bc T l i a b s)),_,_,?hp,?hmu,⟨rfl,rfl,rfl,rfl,trivial⟩,?hS⟩
   case hS=>repeat (first | exact Sub.nil | refine Sub.cons (by repeat first | exact .head | apply Pick.tail) ?_)
   case hp=>exact ⟨by omega,by omega,hb,hcc,sg_lt hs,by simp;omega,by rw [← hpre,goAt_succ (i:=i) (by omega)];simp⟩
   case hmu=>omega
  ·refine W.exit (blk_same (W.sreg (WO.p rfl rfl (WO.p rfl rfl (WO.p rfl rfl (WO.p rfl rfl (WO.nil (W.ret ?_))))))))
   first | (have e7:bestL Bc T l=[(l.getD 0 (0,0)).1]:=if_pos (by omega);have e8:bestC Bc T l=0:=if_pos (by omega);rw [e7,e8];exact fin.ret (Res.two rfl (RV.tmp rfl) (RV.tmp rfl)) ⟨_,rfl,fun h hs=>Sub.sat (.cons .head .nil) hs⟩) | (rw [goAt_last (i:=i) (by omega),List.append_nil] at hpre;rw [← hpre,e6];exact fin.ret (Res.two rfl (RV.tmp rfl) (RV.tmp rfl)) ⟨_,rfl,fun h hs=>Sub.sat (by repeat (first | exact Sub.nil | refine Sub.cons (by repeat first | exact .head | apply Pick.tail) ?_)) hs⟩)
end Go.Proofs.YtfchgmiiicidcaaGreat.Fa
namespace Go.Proofs.YtfchgmiiicidcaaGreat.Fa
open Go Go.TH
attribute [local irreducible] W WO pt
set_option maxRecDepth 10000
set_option maxHeartbeats 1000000
def faL (l:List (Int × Int)) (t:Int):List Int:=if chkF l t=0 then bestL 1 t l else []
def faC (l:List (Int × Int)) (t:Int):Int:=if chkF l t=0 then bestC 1 t l else 0
theorem c_Fairest (w:World) (v:Value) (l:List (Int × Int)) (t:Int) (hR:RdF encP 2 w.heap.size w v l):Ct Tryz.prog 24 [.agg #[v,.int .i64 t]].toArray w fun r w'=>∃ Hq,(∃ rv:Value,r=.tuple #[rv,.int .i64 (faC l t),.int .i64 (chkF l t)]∧Hq=[OwE encI 2 1 rv (faL l t)])∧Inv w [] Hq w':=by
  refine Ct.ofI (X:=Value) (p:=fun rv r=>r=.tuple #[rv,.int .i64 (faC l t),.int .i64 (chkF l t)]) (Hx:=fun rv=>[OwE encI 2 1 rv (faL l t)]) mixed tyTab Tryz.func24 rfl rfl ?_
  replace hR:RdF encP 2 (fnCx mixed tyTab Tryz.f24.ntmps w).B (fnCx mixed tyTab Tryz.f24.ntmps w).w0 v l:=hR
  have hoc:=hR.sl.oc
  refine W.sreg (WO.boxA rfl rfl (fun b1 hb1=>(WO.p rfl rfl (WO.p rfl rfl (WO.p rfl rfl (WO.nil (W.seq (W.sreg (WO.loadA rfl rfl (Cells.own Pick.head) rfl rfl (WO.callR rfl Tryz.call67 (fun L w hi=>c_CheckSpots w v l t (hR.later hi)) rfl (WO.p rfl rfl (WO.nil (W.sreg (WO.p rfl rfl (WO.p rfl rfl (WO.nil ?_))))))))))))))))
  refine W.cond_bl rfl (fun c1=>?_) (fun c1=>?_)
  · refine W.sreg (WO.p rfl rfl (WO.p rfl rfl (WO.p rfl rfl (WO.p rfl rfl (WO.nil (W.ret ?_))))))
    (have e1:faL l t=[]:=if_neg (by assumption);have e2:faC l t=0:=if_neg (by assumption);rw [e1,e2];refine fin.ret (Res.three rfl (RV.tmp rfl) (RV.tmp rfl) (RV.tmp rfl)) ⟨_,rfl,fun h hs=>?_⟩;exact Sub.sat (.cons .head .nil) (owNil (enc:=encI) (e:=2) (sz:=1) h hs))
  · refine W.skip ?_
    have hcf:=chkF0.1 (show chkF l t=0 by omega)
    refine W.sreg (WO.loadA rfl rfl (Cells.own Pick.head) rfl rfl (WO.fieldL rfl rfl rfl (WO.load rfl rfl (Cell.own Pick.head rfl) rfl (WO.call rfl Tryz.call68 (fun L w hi=>c_new w v l t 1 t hR.sl hcf.1.2 hoc) rfl ?_))))
    rintro _ _ ⟨⟨q,lv⟩,rfl,rfl⟩
    refine WO.callH (Hp:=[pt q (.cells #[v,.int .i64 t,.int .i64 1,.int .i64 t,lv] 213 (0,0)),TabP 309 75 lv l.length (fun _=>0)]) rfl Tryz.call69 (.cons (by repeat exact .head) (.cons (by repeat exact .head) (Sub.refl _))) (fun L w hi hB2=>c_best _ w _ ⟨q,0,none⟩ v l t 1 t lv hB2 ((DrS.own hR).agree hi.keepB) hR.sl hcf.2.2 hcf.1.2 hcf.1.1 ⟨.inr rfl,hcf.2.1⟩) rfl ?_
    rintro _ _ ⟨rv,rfl,rfl⟩
    refine WO.p rfl rfl (WO.p rfl rfl (WO.p rfl rfl (WO.p rfl rfl (WO.p rfl rfl (WO.nil (W.sreg (WO.p rfl rfl (WO.p rfl rfl (WO.p rfl rfl (WO.p rfl rfl (WO.p rfl rfl (WO.nil (W.ret ?_)))))))))))))
    (have e1:faL l t=_:=if_pos (show chkF l t=0 by omega);have e2:faC l t=_:=if_pos (show chkF l t=0 by omega);have e3:chkF l t=0:=(by omega);rw [e1,e2,e3];exact fin.ret (Res.three rfl (RV.tmp rfl) (RV.tmp rfl) (RV.tmp rfl)) ⟨_,rfl,fun h hs=>Sub.sat (.cons .head .nil) hs⟩)
def lin:List (Int × Int)→List (List Int)
  | []=>[[]]
  | r::rs=>(List.range (wid r)).flatMap fun (c:Nat)=>(lin rs).map ((r.1+(c:Int))::·)
theorem lin_cons (r:Int × Int) (rs:List (Int × Int)):lin (r::rs)=(List.range (wid r)).flatMap fun (c:Nat)=>(lin rs).map ((r.1+(c:Int))::·):=rfl
end Go.Proofs.YtfchgmiiicidcaaGreat.Fa
namespace Go.Proofs.YtfchgmiiicidcaaGreat.Fa
open Go Go.TH
attribute [local irreducible] W WO pt
set_option maxRecDepth 10000
set_option maxHeartbeats 1000000
theorem InS_nil:InS [] []:=⟨rfl,fun i hi=>absurd hi (Nat.not_lt_zero i)⟩
theorem InS_cons {r:Int × Int} {rs:List (Int × Int)} {y:Int} {ys:List Int}:InS (r::rs) (y::ys)↔(r.1≤y∧y≤r.2)∧InS rs ys:=by
  unfold InS InTo
  constructor
  · rintro ⟨h1,h2⟩
    refine ⟨h2 0 (by simp),by simpa using h1,fun i hi=>?_⟩
    have:=h2 (i+1) (by simp;omega)
    simpa using this
  · rintro ⟨h1,h2,h3⟩
    refine ⟨by simp [h2],fun i hi=>?_⟩
    rcases Nat.eq_zero_or_pos i with e | e
    · subst e;exact h1
    · obtain ⟨k,rfl⟩:∃ k,i=k+1:=⟨i-1,by omega⟩
      have:=h3 k (by simp at hi;omega)
      simpa using this
theorem mem_lin:∀ {l:List (Int × Int)} {x:List Int},x∈lin l↔InS l x
  | [],x=>by
    unfold lin
    constructor
    · intro h;obtain rfl:x=[]:=by simpa using h
      exact InS_nil
    · intro h;have:=h.1;simp at this;simp [this]
  | r::rs,x=>by
    rw [lin_cons,List.mem_flatMap]
    constructor
    · rintro ⟨c,hc,hx⟩
      obtain ⟨z,hz,rfl⟩:=List.mem_map.1 hx
      have:=List.mem_range.1 hc
      unfold wid at this
      exact InS_cons.2 ⟨⟨by omega,by omega⟩,mem_lin.1 hz⟩
    · intro h
      cases x with
      | nil=>have:=h.1;simp at this
      | cons y ys =>
        obtain ⟨h1,h2⟩:=InS_cons.1 h
        refine ⟨(y-r.1).toNat,List.mem_range.2 (by unfold wid;omega),List.mem_map.2 ⟨ys,mem_lin.2 h2,?_⟩⟩
        rw [show r.1+((y-r.1).toNat:Int)=y by omega]
end Go.Proofs.YtfchgmiiicidcaaGreat.Fa
namespace Go.Proofs.YtfchgmiiicidcaaGreat.Fa
open Go Go.TH
set_option maxRecDepth 10000
set_option maxHeartbeats 1000000
/-- the first one of the least -/
def IsFM {α:Type} (f:α→Int) (xs:List α) (x:α):Prop:=∃ i:Nat,xs[i]?=some x∧∀ (j:Nat) (y:α),xs[j]?=some y→f x≤f y∧(j<i→f x<f y)
section
variable {α β:Type}
theorem IsFM.mem {f:α→Int} {xs:List α} {x:α} (h:IsFM f xs x):x∈xs:=by
  obtain ⟨i,hi,_⟩:=h;exact List.mem_of_getElem? hi
theorem IsFM.le {f:α→Int} {xs:List α} {x:α} (h:IsFM f xs x):∀ y∈xs,f x≤f y:=fun y hy=>by
  obtain ⟨i,_,h⟩:=h
  obtain ⟨j,hj⟩:=List.getElem?_of_mem hy
  exact (h j y hj).1
theorem IsFM.one (f:α→Int) (x:α):IsFM f [x] x:=⟨0,rfl,fun j y h=>by
  cases j with
  | zero=>simp at h;subst h;exact ⟨Int.le_refl _,fun h=>absurd h (Nat.lt_irrefl _)⟩
  | succ j=>simp at h⟩
theorem IsFM.app {f:α→Int} {xs ys:List α} {x y:α} (h:IsFM f xs x) (g:IsFM f ys y):IsFM f (xs++ys) (if f y<f x then y else x):=by
  obtain ⟨i,hi,h⟩:=h
  obtain ⟨j,hj,g⟩:=g
  have hil:i<xs.length:=(List.getElem?_eq_some_iff.1 hi).1
  by_cases c:f y<f x
  · rw [if_pos c]
    refine ⟨xs.length+j,by rw [List.getElem?_append_right (by omega)];simpa using hj,fun k z hz=>?_⟩
    rcases Nat.lt_or_ge k xs.length with e | e
    · rw [List.getElem?_append_left e] at hz
      have:=h k z hz
      exact ⟨by omega,fun _=>by omega⟩
    · rw [List.getElem?_append_right e] at hz
      have:=g _ z hz
      exact ⟨this.1,fun q=>this.2 (by omega)⟩
  · rw [if_neg c]
    refine ⟨i,by rw [List.getElem?_append_left hil];exact hi,fun k z hz=>?_⟩
    rcases Nat.lt_or_ge k xs.length with e | e
    · rw [List.getElem?_append_left e] at hz
      exact h k z hz
    · rw [List.getElem?_append_right e] at hz
      have:=g _ z hz
      exact ⟨by omega,fun q=>by omega⟩
theorem IsFM.map {f:β→Int} {k:α→β} {xs:List α} {x:α} (h:IsFM (fun a=>f (k a)) xs x):IsFM f (xs.map k) (k x):=by
  obtain ⟨i,hi,h⟩:=h
  refine ⟨i,by rw [List.getElem?_map,hi];rfl,fun j y hy=>?_⟩
  rw [List.getElem?_map] at hy
  cases hx:xs[j]? with
  | none=>rw [hx] at hy;cases hy
  | some z =>
    rw [hx] at hy
    obtain rfl:=Option.some.inj hy
    exact h j z hx
theorem IsFM.shift {f g:α→Int} {a:Int} {xs:List α} {x:α} (h:IsFM f xs x) (e:∀ y∈xs,g y=a+f y):IsFM g xs x:=by
  have hx:=h.mem
  obtain ⟨i,hi,h⟩:=h
  refine ⟨i,hi,fun j y hy=>?_⟩
  rw [e x hx,e y (List.mem_of_getElem? hy)]
  have:=h j y hy
  exact ⟨by omega,fun q=>by have:=this.2 q;omega⟩
theorem IsFM.flat {f:α→Int} {g:Nat→List α} {h:Nat→α}:∀ (n:Nat),(∀ c,c≤n→IsFM f (g c) (h c))→IsFM f ((List.range (n+1)).flatMap g) (h (lst (fun c=>f (h c)) n).1)
  | 0,hc=>by simpa [lst] using hc 0 (by omega)
  | n+1,hc=>by
    rw [List.range_succ,List.flatMap_append]
    have h1:=IsFM.flat n (fun c q=>hc c (by omega))
    have h2:=hc (n+1) (by omega)
    have h3:=h1.app h2
    have e:[n+1].flatMap g=g (n+1):=by simp
    rw [e]
    have e2:=(lst_spec (fun c=>f (h c)) n).2.1
    by_cases c:f (h (n+1))<f (h (lst (fun c=>f (h c)) n).1)
    · rw [if_pos c] at h3
      rw [lst_yes (by rw [e2];exact c)]
      exact h3
    · rw [if_neg c] at h3
      rw [lst_no (by rw [e2];exact c)]
      exact h3
theorem IsFM.at_ {f:α→Int} {xs:List α} {z:α} (h:1≤xs.length):IsFM f xs (xs.getD (lst (fun i=>f (xs.getD i z)) (xs.length-1)).1 z):=by
  have hs:=lst_spec (fun i=>f (xs.getD i z)) (xs.length-1)
  refine ⟨_,getD_some (by omega) z,fun j y hy=>?_⟩
  have hj:=(List.getElem?_eq_some_iff.1 hy).1
  have ey:y=xs.getD j z:=by rw [List.getD_eq_getElem?_getD,hy];rfl
  have h2:=hs.2.1
  have h3:=hs.2.2.1 j (by omega)
  rw [ey]
  rw [h2] at h3
  exact ⟨h3,fun q=>by have:=hs.2.2.2 j q;rw [h2] at this;exact this⟩
theorem flat2 {g:Nat→Nat→List α} (m:Nat) (hm:0<m):∀ n,(List.range n).flatMap (fun a=>(List.range m).flatMap (g a))=(List.range (n*m)).flatMap (fun k=>g (k/m) (k%m))
  | 0=>by simp
  | n+1=>by
    rw [List.range_succ,List.flatMap_append,flat2 m hm n,Nat.add_mul,Nat.one_mul,List.range_add,List.flatMap_append]
    congr 1
    rw [List.flatMap_map]
    simp only [List.flatMap_cons,List.flatMap_nil,List.append_nil]
    rw [List.flatMap_def,List.flatMap_def]
    congr 1
    refine List.map_congr_left fun b hb=>?_
    have hb:=List.mem_range.1 hb
    rw [show n*m+b=b+m*n by rw [Nat.mul_comm,Nat.add_comm],Nat.add_mul_div_left _ _ hm,Nat.add_mul_mod_self_left,Nat.div_eq_of_lt hb,Nat.mod_eq_of_lt hb,Nat.zero_add]
end
/-- what is paid for the rest of a line -/
def tl (B T:Int):Int→Int→Nat→List Int→Int
  | _,_,_,[]=>0
  | x,y,s,z::zs=>stp B T s (x-2*y+z)+tl B T y z (sg s (x-2*y+z)) zs
def costG (B T:Int) (x:List Int):Int:=B*beL x+T*(chL x:Int)
theorem bds_cons (x y z:Int) (zs:List Int):bds (x::y::z::zs)=(x-2*y+z)::bds (y::z::zs):=by
  unfold bds
  rw [show (x::y::z::zs).length-2=zs.length+1 by simp,show (y::z::zs).length-2=zs.length by simp,List.range_succ_eq_map,List.map_cons,List.map_map]
  refine List.cons_eq_cons.2 ⟨by simp,?_⟩
  refine List.map_congr_left fun i _=>?_
  simp
theorem fold_tl (B T:Int):∀ (zs:List Int) (x y:Int) (s c:Nat) (b:Int),B*((bds (x::y::zs)).foldl nxt (s,c,b)).2.2+T*(((bds (x::y::zs)).foldl nxt (s,c,b)).2.1:Int)=B*b+T*(c:Int)+tl B T x y s zs
  | [],x,y,s,c,b=>by simp [bds,tl]
  | z::zs,x,y,s,c,b=>by
    rw [bds_cons,List.foldl_cons,show nxt (s,c,b) (x-2*y+z)=(sg s (x-2*y+z),c+chg s (x-2*y+z),b+ab (x-2*y+z)) from rfl,fold_tl B T zs y z]
    show _=B*b+T*(c:Int)+(stp B T s (x-2*y+z)+tl B T y z (sg s (x-2*y+z)) zs)
    unfold stp
    rw [Int.mul_add,Int.natCast_add,Int.mul_add]
    omega
theorem costG_tl (B T x y:Int) (zs:List Int):costG B T (x::y::zs)=tl B T x y 0 zs:=by
  have:=fold_tl B T zs x y 0 0 0
  unfold costG beL chL mst
  rw [this];simp
theorem costG_short {B T:Int} {x:List Int} (h:x.length<2):costG B T x=0:=by
  have e:bds x=[]:=List.eq_nil_of_length_eq_zero (by rw [bds_len];omega)
  unfold costG beL chL mst
  rw [e];simp
theorem go_fm {B T:Int}:∀ {rs:List (Int × Int)},OkS rs→∀ {x y:Int} {s:Nat},IsFM (tl B T x y s) (lin rs) (goL B T rs x y s)∧tl B T x y s (goL B T rs x y s)=gof B T rs x y s
  | [],_,x,y,s=>⟨IsFM.one _ _,rfl⟩
  | r::rs,hS,x,y,s=>by
    have hw:=wid_ok (hS r (by simp))
    have ih:=fun {x y:Int} {s:Nat}=>go_fm (B:=B) (T:=T) (rs:=rs) (fun q hq=>hS q (by simp [hq])) (x:=x) (y:=y) (s:=s)
    obtain ⟨F,hF⟩:∃ F:Nat→Int,F=fun (c:Nat)=>stp B T s (x-2*y+(r.1+(c:Int)))+gof B T rs y (r.1+(c:Int)) (sg s (x-2*y+(r.1+(c:Int)))):=⟨_,rfl⟩
    obtain ⟨h,hh⟩:∃ h:Nat→List Int,h=fun (c:Nat)=>(r.1+(c:Int))::goL B T rs y (r.1+(c:Int)) (sg s (x-2*y+(r.1+(c:Int)))):=⟨_,rfl⟩
    have e1:∀ c,tl B T x y s (h c)=F c:=fun c=>by
      rw [hh,hF]
      show stp B T s _+tl B T y _ _ _=_
      rw [ih.2]
    have e2:goL B T (r::rs) x y s=h (lst F (wid r-1)).1:=by rw [hh,hF];rfl
    have e3:gof B T (r::rs) x y s=(lst F (wid r-1)).2:=by rw [hF];rfl
    have k:=IsFM.flat (f:=tl B T x y s) (g:=fun (c:Nat)=>(lin rs).map ((r.1+(c:Int))::·)) (h:=h) (wid r-1) (fun c _=>by
      rw [hh]
      refine IsFM.map (k:=((r.1+(c:Int))::·)) (IsFM.shift (ih (x:=y) (y:=r.1+(c:Int)) (s:=sg s (x-2*y+(r.1+(c:Int))))).1 (a:=stp B T s (x-2*y+(r.1+(c:Int)))) (fun z _=>rfl)))
    rw [show (fun c=>tl B T x y s (h c))=F from funext e1,show wid r-1+1=wid r by omega] at k
    rw [e2,e3,e1]
    exact ⟨k,(lst_spec F _).2.1.symm⟩
theorem best_fm {B T:Int}:∀ {l:List (Int × Int)},OkS l→1≤l.length→IsFM (costG B T) (lin l) (bestL B T l)∧costG B T (bestL B T l)=bestC B T l
  | [],_,h=>by simp at h
  | [r],hS,_=>by
    have hw:=wid_ok (hS r (by simp))
    have e:bestL B T [r]=[r.1]:=by unfold bestL;simp
    have e2:bestC B T [r]=0:=by unfold bestC;simp
    rw [e,e2,costG_short (by simp)]
    refine ⟨⟨0,?_,fun j y hy=>?_⟩,rfl⟩
    · obtain ⟨n,hn⟩:∃ n,wid r=n+1:=⟨wid r-1,by omega⟩
      rw [lin_cons,hn,List.range_succ_eq_map]
      simp [lin]
    · have h1:=(mem_lin.1 (List.mem_of_getElem? hy)).1
      have h1:y.length=1:=h1
      rw [costG_short (x:=y) (by omega),costG_short (by simp)]
      exact ⟨Int.le_refl _,fun h=>absurd h (Nat.not_lt_zero _)⟩
  | r0::r1::rs,hS,_=>by
    have hw0:=wid_ok (hS r0 (by simp))
    have hw1:=wid_ok (hS r1 (by simp))
    have ih:=fun {x y:Int} {s:Nat}=>go_fm (B:=B) (T:=T) (rs:=rs) (fun q hq=>hS q (by simp [hq])) (x:=x) (y:=y) (s:=s)
    have q:1≤wid r0*wid r1:=Nat.mul_le_mul hw0.1 hw1.1
    obtain ⟨F,hF⟩:∃ F:Nat→Int,F=fun (k:Nat)=>gof B T rs (r0.1+((k/wid r1:Nat):Int)) (r1.1+((k%wid r1:Nat):Int)) 0:=⟨_,rfl⟩
    obtain ⟨h,hh⟩:∃ h:Nat→List Int,h=fun (k:Nat)=>(r0.1+((k/wid r1:Nat):Int))::(r1.1+((k%wid r1:Nat):Int))::goL B T rs (r0.1+((k/wid r1:Nat):Int)) (r1.1+((k%wid r1:Nat):Int)) 0:=⟨_,rfl⟩
    have e1:∀ c,costG B T (h c)=F c:=fun c=>by
      rw [hh,hF]
      rw [costG_tl,ih.2]
    have e2:bestL B T (r0::r1::rs)=h (lst F (wid r0*wid r1-1)).1:=by rw [hh,hF];rfl
    have e3:bestC B T (r0::r1::rs)=(lst F (wid r0*wid r1-1)).2:=by rw [hF];rfl
    have el:lin (r0::r1::rs)=(List.range (wid r0*wid r1)).flatMap (fun k=>(lin rs).map (fun zs=>(r0.1+((k/wid r1:Nat):Int))::(r1.1+((k%wid r1:Nat):Int))::zs)):=by
      rw [← flat2 (g:=fun a b=>(lin rs).map (fun zs=>(r0.1+(a:Int))::(r1.1+(b:Int))::zs)) (wid r1) (by omega),lin_cons]
      congr 1
      funext a
      rw [lin_cons,List.map_flatMap]
      congr 1
      funext b
      rw [List.map_map]
      rfl
    have k:=IsFM.flat (f:=costG B T) (g:=fun k=>(lin rs).map (fun zs=>(r0.1+((k/wid r1:Nat):Int))::(r1.1+((k%wid r1:Nat):Int))::zs)) (h:=h) (wid r0*wid r1-1) (fun c _=>by
      rw [hh]
      refine IsFM.map (k:=fun zs=>(r0.1+((c/wid r1:Nat):Int))::(r1.1+((c%wid r1:Nat):Int))::zs) (IsFM.shift (ih (x:=r0.1+((c/wid r1:Nat):Int)) (y:=r1.1+((c%wid r1:Nat):Int)) (s:=0)).1 (a:=0) (fun z _=>by rw [costG_tl];omega)))
    rw [show (fun c=>costG B T (h c))=F from funext e1,show wid r0*wid r1-1+1=wid r0*wid r1 by omega,← el] at k
    rw [e2,e3,e1]
    exact ⟨k,(lst_spec F _).2.1.symm⟩
end Go.Proofs.YtfchgmiiicidcaaGreat.Fa
namespace Go.Proofs.YtfchgmiiicidcaaGreat
open Go Go.TH
theorem mst_sum (ds:List Int):∀ k,k≤ds.length→0≤(Fa.mst 0 (ds.take k)).2.2∧((Fa.mst 0 (ds.take k)).2.2=0→∀ i,i<k→ds.getD i 0=0)
 | 0,_=>⟨by simp [Fa.mst],fun _ i hi=>by omega⟩
 | k+1,hk=>by
  obtain ⟨h1,h2⟩:=mst_sum ds k (by omega)
  rw [Fa.mst_succ (by omega)]
  have ha:0≤Fa.ab (ds.getD k 0)∧(Fa.ab (ds.getD k 0)=0→ds.getD k 0=0):=by unfold Fa.ab;omega
  unfold Fa.nxt
  dsimp only
  refine ⟨by omega,fun h i hi=>?_⟩
  rcases Nat.lt_or_ge i k with g | g
  ·exact h2 (by omega) i g
  ·obtain rfl:i=k:=by omega
   exact ha.2 (by omega)
theorem be_zero {xs:List Int} (h:Fa.beL xs=0) {i:Nat} (hi:i+2<xs.length):xs.getD i 0-2*xs.getD (i+1) 0+xs.getD (i+2) 0=0:=by
 have hs:=(mst_sum (Fa.bds xs) (Fa.bds xs).length (Nat.le_refl _)).2
 rw [List.take_length] at hs
 rw [← Fa.bds_get hi]
 exact hs h i (by rw [Fa.bds_len];omega)
theorem be_prog {xs:List Int} (h:Fa.beL xs=0):∀ i,i+1<xs.length→xs.getD i 0=xs.getD 0 0+(i:Int)*(xs.getD 1 0-xs.getD 0 0)∧xs.getD (i+1) 0=xs.getD 0 0+((i:Int)+1)*(xs.getD 1 0-xs.getD 0 0)
 | 0,_=>⟨by grind,by grind⟩
 | i+1,hi=>by
  obtain ⟨h1,h2⟩:=be_prog h i (by omega)
  have h3:=be_zero h (i:=i) (by omega)
  refine ⟨by rw [h2];grind,?_⟩
  have e:xs.getD (i+1+1) 0=2*xs.getD (i+1) 0-xs.getD i 0:=by
   have:xs.getD (i+1+1) 0=xs.getD (i+2) 0:=rfl
   omega
  rw [e,h2,h1];grind
theorem be_at {xs:List Int} (h:Fa.beL xs=0) {i:Nat} (h2:2≤xs.length) (hi:i<xs.length):xs.getD i 0=xs.getD 0 0+(i:Int)*(xs.getD 1 0-xs.getD 0 0):=by
 match i,hi with
 | 0,_=>simp
 | i+1,hi=>exact (be_prog h i hi).2
theorem fa_in {l:List (Int × Int)} {t:Int} (hc:Fa.chkF l t=0):Fa.InS l (Fa.faL l t):=by
 have hcf:=Fa.chkF0.1 hc
 have h:=Fa.best_fm (B:=1) (T:=t) hcf.2.2 hcf.1.1
 have e1:Fa.faL l t=Fa.bestL 1 t l:=if_pos hc
 rw [e1]
 exact Fa.mem_lin.1 h.1.mem
def faT (R:Ch.Rws) (t:Int) (n:Nat):List (List Int):=(List.range n).map fun i=>Fa.faL (R.getD i []) t
theorem faT_succ (R:Ch.Rws) (t:Int) (n:Nat):faT R t n++[Fa.faL (R.getD n []) t]=faT R t (n+1):=by unfold faT;rw [List.range_succ,List.map_append];rfl
theorem faT_len (R:Ch.Rws) (t:Int) (n:Nat):(faT R t n).length=n:=by unfold faT;simp
theorem faT_get {R:Ch.Rws} {t:Int} {n i:Nat} (h:i<n):(faT R t n).getD i []=Fa.faL (R.getD i []) t:=by
 unfold faT;rw [List.getD_eq_getElem?_getD,List.getElem?_map,List.getElem?_range h];rfl
def Thin (R:Ch.Rws) (i k:Nat):Prop:=((R.getD i []).getD k (0,0)).2-((R.getD i []).getD k (0,0)).1≤4
theorem thin_chk {P A:List Int} {R:Ch.Rws} {t:Int} (hc:Ch.OkC P A R) (ht:0≤t∧t≤1000000) {i:Nat} (hi:i<R.length) (h:∀ k,k<(R.getD i []).length→Thin R i k):Fa.chkF (R.getD i []) t=0:=by
 have hrw:=hc.row hi
 have hna:=hc.na
 refine Fa.chkF0.2 ⟨by omega,ht,fun p hp=>?_⟩
 obtain ⟨k,hk,rfl⟩:∃ k,k<(R.getD i []).length∧(R.getD i []).getD k (0,0)=p:=by
  obtain ⟨k,hk,e⟩:=List.getElem_of_mem hp
  exact ⟨k,hk,by rw [List.getD_eq_getElem?_getD,List.getElem?_eq_getElem hk];exact e⟩
 have h1:=hc.at_ hi hk
 have h2:=h k hk
 unfold Thin at h2
 unfold Fa.OkG
 omega
theorem faT_tr {P A:List Int} {R:Ch.Rws} {t:Int} (hc:Ch.OkC P A R) (ht:0≤t∧t≤1000000) (h:∀ i,i<R.length→∀ k,k<(R.getD i []).length→Thin R i k):Ch.OkTr R (faT R t R.length):=by
 refine ⟨faT_len ..,fun i hi=>?_,fun i hi k hk=>?_⟩
 ·rw [faT_get hi];exact (fa_in (thin_chk hc ht hi (h i hi))).1
 ·rw [faT_get hi];exact (fa_in (thin_chk hc ht hi (h i hi))).2 k hk
theorem step_at {A:List Int} {s:Int} (h:∀ k,0<k→k<A.length→A.getD k 0-A.getD (k-1) 0=s):∀ k:Nat,k<A.length→A.getD k 0=A.getD 0 0+(k:Int)*s
 | 0,_=>by simp
 | k+1,hk=>by
  have h1:=step_at h k (by omega)
  have h2:=h (k+1) (by omega) hk
  rw [Nat.add_sub_cancel] at h2
  have e:((k+1:Nat):Int)*s=(k:Int)*s+s:=by rw [Int.natCast_add,Int.add_mul];simp
  omega
theorem straight {P A:List Int} {R:Ch.Rws} {T:List (List Int)} {y s:Int} (hc:Ch.OkC P A R) (hl:(T.getD 0 []).length=A.length) (hb:Fa.beL (T.getD 0 [])=0) (hs:∀ k,0<k→k<A.length→A.getD k 0-A.getD (k-1) 0=s) (hy:Ch.On A y) :
 Ch.valQ P A (P.getD 0 0) y (Ch.tAt T)=Ch.red ((T.getD 0 []).getD 0 0*(((A.length:Int)-1)*s-(y-A.getD 0 0))+(T.getD 0 []).getD (A.length-1) 0*(y-A.getD 0 0)) (((A.length:Int)-1)*s):=by
 have hnp:=hc.np
 have hna:=hc.na
 have hba:=Ch.on_bd hc.ua hna.1 hy
 have hup:=hc.up.1.lt (show 0<1 by omega) (show 1<P.length by omega)
 have hua:=hc.ua.1.lt (show 0<1 by omega) (show 1<A.length by omega)
 have hs1:=hs 1 (by omega) (by omega)
 rw [show (1:Nat)-1=0 from rfl] at hs1
 have n0:=nb_first (l:=P) (by omega)
 have f0:Ch.fr0 P (P.getD 0 0)=0:=by unfold Ch.fr0;rw [n0];omega
 have f1:Ch.fr1 P (P.getD 0 0)=P.getD 1 0-P.getD 0 0:=by unfold Ch.fr1;rw [n0]
 have k1:=step_at hs (Ch.nbI A y) (by omega)
 have k2:=step_at hs (Ch.nbI A y+1) hba.1
 have e1:=be_at hb (i:=Ch.nbI A y) (by omega) (by omega)
 have e2:=be_at hb (i:=Ch.nbI A y+1) (by omega) (by omega)
 have e3:=be_at hb (i:=A.length-1) (by omega) (by omega)
 have g1:Ch.fr1 A y=A.getD 0 0+(Ch.nbI A y:Int)*s+s-y:=by
  unfold Ch.fr1;rw [k2]
  have e:((Ch.nbI A y+1:Nat):Int)*s=(Ch.nbI A y:Int)*s+s:=by rw [Int.natCast_add,Int.add_mul];simp
  omega
 have g0:Ch.fr0 A y=y-A.getD 0 0-(Ch.nbI A y:Int)*s:=by unfold Ch.fr0;rw [k1];omega
 have hn:((A.length-1:Nat):Int)=(A.length:Int)-1:=by omega
 rw [hn] at e3
 unfold Ch.valQ
 have ew:Ch.whS P A (P.getD 0 0) y=(P.getD 1 0-P.getD 0 0)*s:=by
  unfold Ch.whS;rw [f0,f1,g0,g1];grind
 have ep:Ch.plS P A (P.getD 0 0) y (Ch.tAt T) 4=(P.getD 1 0-P.getD 0 0)*((T.getD 0 []).getD 0 0*s+((T.getD 0 []).getD 1 0-(T.getD 0 []).getD 0 0)*(y-A.getD 0 0)):=by
  unfold Ch.plS
  show Ch.aS _ (Ch.cnL _ _ _ _ _ _) 4=_
  unfold Ch.cnL
  simp only [Ch.aS,List.getD_cons_zero,List.getD_cons_succ,n0,f0,f1]
  unfold Ch.tAt
  rw [e1,e2,g0,g1]
  have e:((Ch.nbI A y+1:Nat):Int)=(Ch.nbI A y:Int)+1:=by omega
  rw [e]
  grind
 rw [ew,ep,e3]
 refine red_same (k:=(A.length:Int)-1) (j:=P.getD 1 0-P.getD 0 0) (by omega) (by omega) (Int.mul_pos (by omega) (by omega)) (Int.mul_pos (by omega) (by omega)) ?_ ?_ <;> grind
end Go.Proofs.YtfchgmiiicidcaaGreat
namespace Go.Proofs.YtfchgmiiicidcaaGreat
open Go Go.TH
attribute [local irreducible] W WO pt
set_option maxRecDepth 10000
set_option maxHeartbeats 2000000
theorem ref_Fraction8 (w:World) (n d:Int) (hn : -4000000000000000000≤n∧n≤4000000000000000000) (hd:0<d∧d≤4000000000000000000):Ret Tryz.prog 11 [.int .i64 n,.int .i64 d].toArray w (Ch.raV (Ch.red n d)):=by
 refine Ret.of mixed tyTab Tryz.func11 rfl rfl ?_
 have hgp:=Ch.gcd2_pos (Ch.ab_nn n) hd.1
 have h1:=Ch.tdiv_bd hgp hn
 have h2:=Ch.tdiv_bd hgp (n:=d) (M:=4000000000000000000) (by omega)
 refine W.sreg (WO.alloc rfl rfl rfl (fun b1 hb1=>(WO.nil (W.sreg (WO.p rfl rfl (WO.p rfl rfl (WO.neg rfl (by unfold in64;omega) rfl (WO.max2 rfl rfl rfl (WO.p rfl rfl (WO.p rfl rfl (WO.neg rfl (by unfold in64;omega) rfl (WO.max2 rfl rfl rfl ?_))))))))))))
 rw [show max d (-d)=d by omega]
 refine WO.p rfl rfl (WO.p rfl rfl (WO.nil (W.seq (W.block ?_))))
 refine W.loop2 (fun (x:Int) (y:Int)=>0≤x∧0≤y∧Ch.gcd2 x y=Ch.gcd2 (Ch.ab n) d)
  (fun (x:Int) (y:Int)=>[(5,.int .i64 x),(6,.int .i64 y),(0,.int .i64 n),(1,.int .i64 d),(4,.pointer (some ⟨b1,0,none⟩))])
  (fun (x:Int) (y:Int)=>[pt b1 (.cells #[.int .i64 0,.int .i64 0] 38 (0,0))])
  (fun (x:Int) (y:Int)=>y.toNat) (Ch.ab n) d
  (by exact ⟨Ch.ab_nn n,by omega,rfl⟩) ⟨rfl,rfl,rfl,rfl,rfl,trivial⟩ (by repeat (first | exact Sub.nil | refine Sub.cons (by repeat exact .head) ?_)) ?_
 rintro x y ⟨hx,hy,hg⟩
 have hgx:y=0→0<x:=by intro e;subst e;rw [Ch.gcd2_zero hx] at hg;omega
 refine W.seq (W.sreg (WO.p rfl rfl (WO.p rfl rfl (WO.nil ?_))))
 refine W.cond_bl rfl (fun c1=>?_) (fun c1=>?_)
 ·refine W.skip (W.block ?_)
  refine W.drawD 5 [.r 0 [],.r 1 [],.r 2 [5],.r 3 [5],.r 4 [5]] [5] (A0:=[]) (Sub.refl _) (by kernel_rfl) ?_ ?_
  ·repeat constructor
  refine DT.r rfl rfl rfl (WO.p rfl rfl (WO.nil ⟨rfl,rfl⟩)) (DT.r rfl rfl rfl (WO.p rfl rfl (WO.nil ⟨rfl,rfl⟩)) (DT.r rfl rfl rfl (WO.p rfl rfl (WO.nil ⟨rfl,rfl⟩)) (DT.r rfl rfl rfl (WO.rem rfl rfl (by omega) rfl (WO.nil ⟨rfl,rfl⟩)) (DT.r rfl rfl rfl (WO.p rfl rfl (WO.nil ⟨rfl,rfl⟩)) (DT.nil [_] rfl (WO.p rfl rfl (WO.nil ?_)))))))
  refine' ⟨_,_,?hp,?hmu,⟨rfl,rfl,rfl,rfl,rfl,trivial⟩,?hS⟩
  case hS=>repeat (first | exact Sub.nil | refine Sub.cons (by repeat exact .head) ?_)
  case hp=>exact ⟨hy,(Ch.tmod_lt hx (by omega)).1,by rw [Ch.gcd2_step hx (by omega)];exact hg⟩
  case hmu=>have:=Ch.tmod_lt hx (show 0<y by omega);omega
 ·refine W.exit (blk_same (W.seq ?_))
  obtain rfl:y=0:=by omega
  rw [Ch.gcd2_zero hx] at hg
  subst hg
  refine W.sreg (WO.p rfl rfl (WO.lssF rfl rfl (by omega) rfl (WO.nil (W.cond_f rfl (W.skip (W.seq ?_))))))
  refine W.drawD 6 [.r 0 [],.r 1 [],.r 2 [],.r 3 [],.r 4 [],.r 5 []] [] (A0:=[]) (Sub.refl _) (by kernel_rfl) ?_ ?_
  ·repeat constructor
  refine DT.r rfl rfl rfl (WO.p rfl rfl (WO.nil ⟨rfl,rfl⟩)) (DT.r rfl rfl rfl (WO.p rfl rfl (WO.nil ⟨rfl,rfl⟩)) (DT.r rfl rfl rfl (WO.quo rfl rfl (by omega) (by unfold in64;omega) rfl (WO.nil ⟨rfl,rfl⟩)) (DT.r rfl rfl rfl (WO.p rfl rfl (WO.nil ⟨rfl,rfl⟩)) (DT.r rfl rfl rfl (WO.p rfl rfl (WO.nil ⟨rfl,rfl⟩)) (DT.r rfl rfl rfl (WO.quo rfl rfl (by omega) (by unfold in64;omega) rfl (WO.nil ⟨rfl,rfl⟩)) (DT.nil [_] rfl (WO.build rfl rfl rfl rfl rfl (WO.storeA rfl rfl rfl rfl Pick.head rfl rfl (WO.nil (W.ret ?_))))))))))
  exact fin.ret (Res.one rfl (RV.cell rfl rfl rfl (Cells.own Pick.head))) rfl
end Go.Proofs.YtfchgmiiicidcaaGreat
namespace Go.Proofs.YtfchgmiiicidcaaGreat
open Go Go.TH
attribute [local irreducible] W WO pt
set_option maxRecDepth 10000
set_option maxHeartbeats 2000000
theorem ref_rising (w:World) (v:Value) (l:List Int) (hR:RdF encI 1 w.heap.size w v l):Ret Tryz.prog 79 [v].toArray w (.bool (bl (Ch.Ris l))):=by
 refine Ret.of mixed tyTab Tryz.func79 rfl rfl ?_
 replace hR:RdF encI 1 (fnCx mixed tyTab Tryz.f79.ntmps w).B (fnCx mixed tyTab Tryz.f79.ntmps w).w0 v l:=hR
 have hle:=hR.sl.le
 refine W.sreg (WO.p rfl rfl (WO.nil (W.seq (W.sreg (WO.p rfl rfl (WO.nil (W.block ?_)))))))
 refine W.loop (fun (i:Nat)=>i≤l.length∧Ch.Up l i∧∀ x∈l.take i,0≤x∧x≤2000)
  (fun (i:Nat)=>[(3,.int .i64 (i:Int)),(0,v)])
  (fun (i:Nat)=>[])
  (fun (i:Nat)=>l.length-i) 0
  (by exact ⟨by omega,fun i hi=>by omega,by simp⟩) ⟨rfl,rfl,trivial⟩ (by repeat (first | exact Sub.nil | refine Sub.cons (by repeat first | exact .head | apply Pick.tail) ?_)) ?_
 rintro i ⟨hi0,hu,ha⟩
 refine W.seq (W.sreg (WO.p rfl rfl (WO.p rfl rfl (WO.len rfl rfl hR.sl rfl (WO.p rfl rfl (WO.nil ?_))))))
 refine W.cond_bl rfl (fun c1=>?_) (fun c1=>?_)
 ·refine W.skip (W.seq (W.block (W.seq ?_)))
  refine W.drawD 25 [.r 0 [],.r 1 [],.r 2 [],.b 3 [],.r 4 [],.r 5 [],.r 6 [],.r 7 [],.r 8 [],.b 9 [],.r 10 [],.r 11 [],.r 12 [],.r 13 [],.r 14 [],.r 15 [],.r 16 [],.r 17 [],.r 18 [],.b 19 [],.r 20 [],.r 21 [],.r 22 [],.r 23 [],.b 24 []] [] (A0:=[]) (Sub.refl _) (by kernel_rfl) ?_ ?_
  ·repeat constructor
  refine DT.r rfl rfl rfl (WO.p rfl rfl (WO.nil ⟨rfl,rfl⟩)) (DT.r rfl rfl rfl (WO.p rfl rfl (WO.nil ⟨rfl,rfl⟩)) (DT.r rfl rfl rfl (WO.indexAddr rfl rfl rfl hR.sl (by omega) rfl (WO.nil ⟨rfl,rfl⟩)) ?_))
  refine' DT.b rfl rfl rfl ?hq ?_
  case hq =>
   refine' WO.load (v:=_) rfl rfl ?hc rfl ?_
   case hc=>(first | (refine hR.cell0 (i:=i) ?_ 0 ?_ <;> first | rfl | omega))
   exact WO.nil ⟨rfl,rfl⟩
  refine DT.r rfl rfl rfl (WO.p rfl rfl (WO.nil ⟨rfl,rfl⟩)) ?_
  refine DT.rB rfl rfl rfl (WO.p rfl rfl (WO.nil ⟨rfl,rfl⟩)) (fun c2=>?_) (fun c2=>?_)
  ·refine DT.r rfl rfl rfl (WO.no rfl rfl (WO.nil ⟨rfl,rfl⟩)) (DT.r rfl rfl rfl (WO.no rfl rfl (WO.nil ⟨rfl,rfl⟩)) (DT.r rfl rfl rfl (WO.no rfl rfl (WO.nil ⟨rfl,rfl⟩)) (DT.b rfl rfl rfl (WO.no rfl rfl (WO.nil ⟨rfl,rfl⟩)) (DT.r rfl rfl rfl (WO.no rfl rfl (WO.nil ⟨rfl,rfl⟩)) (DT.r rfl rfl rfl (WO.p rfl rfl (WO.nil ⟨rfl,rfl⟩)) (DT.r rfl rfl rfl (WO.p rfl rfl (WO.nil ⟨rfl,rfl⟩)) (DT.r rfl rfl rfl (WO.no rfl rfl (WO.nil ⟨rfl,rfl⟩)) (DT.r rfl rfl rfl (WO.no rfl rfl (WO.nil ⟨rfl,rfl⟩)) (DT.r rfl rfl rfl (WO.no rfl rfl (WO.nil ⟨rfl,rfl⟩)) (DT.r rfl rfl rfl (WO.no rfl rfl (WO.nil ⟨rfl,rfl⟩)) (DT.r rfl rfl rfl (WO.no rfl rfl (WO.nil ⟨rfl,rfl⟩)) ?_)))))))))))
   refine DT.r rfl rfl rfl (WO.no rfl rfl (WO.nil ⟨rfl,rfl⟩)) (DT.b rfl rfl rfl (WO.no rfl rfl (WO.nil ⟨rfl,rfl⟩)) (DT.r rfl rfl rfl (WO.no rfl rfl (WO.nil ⟨rfl,rfl⟩)) (DT.r rfl rfl rfl (WO.no rfl rfl (WO.nil ⟨rfl,rfl⟩)) (DT.r rfl rfl rfl (WO.no rfl rfl (WO.nil ⟨rfl,rfl⟩)) (DT.r rfl rfl rfl (WO.no rfl rfl (WO.nil ⟨rfl,rfl⟩)) (DT.b rfl rfl rfl (WO.no rfl rfl (WO.nil ⟨rfl,rfl⟩)) (DT.nil [] rfl (WO.no rfl rfl (WO.no rfl rfl (WO.p rfl rfl (WO.nil (W.cond_t rfl (W.sreg (WO.p rfl rfl (WO.nil (W.ret (fin.ret (Res.one rfl (RV.tmp rfl)) (congrArg Value.bool ?_))))))))))))))))))
   (refine (bl_f.2 (fun h=>?_)).symm;have h2:=h.2 _ (getD_mem (show i<l.length by omega) 0);omega)
  ·refine DT.r rfl rfl rfl (WO.pg rfl rfl rfl (WO.nil ⟨rfl,rfl⟩)) (DT.r rfl rfl rfl (WO.pg rfl rfl rfl (WO.nil ⟨rfl,rfl⟩)) (DT.r rfl rfl rfl (WO.go' rfl (WO.indexAddr rfl rfl rfl hR.sl (by omega) rfl (WO.nil ⟨rfl,rfl⟩))) ?_))
   refine' DT.b rfl rfl rfl ?hq ?_
   case hq =>
    refine WO.go' rfl ?_
    refine' WO.load (v:=_) rfl rfl ?hc rfl ?_
    case hc=>(first | (refine hR.cell0 (i:=i) ?_ 0 ?_ <;> first | rfl | omega))
    exact WO.nil ⟨rfl,rfl⟩
   refine DT.r rfl rfl rfl (WO.pg rfl rfl rfl (WO.nil ⟨rfl,rfl⟩)) (DT.r rfl rfl rfl (WO.p rfl rfl (WO.nil ⟨rfl,rfl⟩)) ?_)
   refine DT.rB rfl rfl rfl (WO.p rfl rfl (WO.nil ⟨rfl,rfl⟩)) (fun c3=>?_) (fun c3=>?_)
   ·refine DT.r rfl rfl rfl (WO.no rfl rfl (WO.nil ⟨rfl,rfl⟩)) (DT.r rfl rfl rfl (WO.no rfl rfl (WO.nil ⟨rfl,rfl⟩)) (DT.r rfl rfl rfl (WO.no rfl rfl (WO.nil ⟨rfl,rfl⟩)) (DT.r rfl rfl rfl (WO.no rfl rfl (WO.nil ⟨rfl,rfl⟩)) (DT.r rfl rfl rfl (WO.no rfl rfl (WO.nil ⟨rfl,rfl⟩)) (DT.r rfl rfl rfl (WO.no rfl rfl (WO.nil ⟨rfl,rfl⟩)) (DT.b rfl rfl rfl (WO.no rfl rfl (WO.nil ⟨rfl,rfl⟩)) (DT.r rfl rfl rfl (WO.no rfl rfl (WO.nil ⟨rfl,rfl⟩)) (DT.r rfl rfl rfl (WO.no rfl rfl (WO.nil ⟨rfl,rfl⟩)) (DT.r rfl rfl rfl (WO.no rfl rfl (WO.nil ⟨rfl,rfl⟩)) (DT.r rfl rfl rfl (WO.no rfl rfl (WO.nil ⟨rfl,rfl⟩)) (DT.b rfl rfl rfl (WO.no rfl rfl (WO.nil ⟨rfl,rfl⟩)) (DT.nil [] rfl ?_))))))))))))
    refine WO.no rfl rfl (WO.no rfl rfl (WO.p rfl rfl (WO.nil (W.cond_t rfl (W.sreg (WO.p rfl rfl (WO.nil (W.ret (fin.ret (Res.one rfl (RV.tmp rfl)) (congrArg Value.bool ?_))))))))))
    (refine (bl_f.2 (fun h=>?_)).symm;have h2:=h.2 _ (getD_mem (show i<l.length by omega) 0);omega)
   ·refine DT.r rfl rfl rfl (WO.pg rfl rfl rfl (WO.nil ⟨rfl,rfl⟩)) (DT.r rfl rfl rfl (WO.pg rfl rfl rfl (WO.nil ⟨rfl,rfl⟩)) ?_)
    refine DT.rB rfl rfl rfl (WO.pg rfl rfl rfl (WO.nil ⟨rfl,rfl⟩)) (fun c4=>?_) (fun c4=>?_)
    ·refine DT.r rfl rfl rfl (WO.pg rfl rfl rfl (WO.nil ⟨rfl,rfl⟩)) (DT.r rfl rfl rfl (WO.pg rfl rfl rfl (WO.nil ⟨rfl,rfl⟩)) (DT.r rfl rfl rfl (WO.go' rfl (WO.indexAddr rfl rfl rfl hR.sl (by omega) rfl (WO.nil ⟨rfl,rfl⟩))) ?_))
     refine' DT.b rfl rfl rfl ?hq ?_
     case hq =>
      refine WO.go' rfl ?_
      refine' WO.load (v:=_) rfl rfl ?hc rfl ?_
      case hc=>(first | (refine hR.cell0 (i:=i) ?_ 0 ?_ <;> first | rfl | omega))
      exact WO.nil ⟨rfl,rfl⟩
     refine DT.r rfl rfl rfl (WO.pg rfl rfl rfl (WO.nil ⟨rfl,rfl⟩)) (DT.r rfl rfl rfl (WO.pg rfl rfl rfl (WO.nil ⟨rfl,rfl⟩)) (DT.r rfl rfl rfl (WO.go' rfl (WO.ar rfl rfl rfl (by unfold in64;omega) rfl (WO.nil ⟨rfl,rfl⟩))) ?_))
     refine' DT.r rfl rfl rfl ?hq ?_
     case hq =>
      refine WO.go' rfl ?_
      refine' WO.indexAddrZ (n:=_) rfl rfl rfl ?hs ?h00 ?h1 rfl ?_
      case hs=>exact hR.sl
      case h00=>omega
      case h1=>(omega)
      exact WO.nil ⟨rfl,rfl⟩
     refine' DT.b rfl rfl rfl ?hq ?_
     case hq =>
      refine WO.go' rfl ?_
      refine' WO.load (v:=_) rfl rfl ?hc rfl ?_
      case hc=>(first | (refine hR.cell0 (i:=((i:Int)-1).toNat) ?_ 0 ?_ <;> first | rfl | omega))
      exact WO.nil ⟨rfl,rfl⟩
     refine DT.nil [] rfl (WO.pg rfl rfl rfl (WO.pg rfl rfl rfl (WO.p rfl rfl (WO.nil ?_))))
     refine W.cond_bl rfl (fun c5=>?_) (fun c5=>?_)
     ·refine W.sreg (WO.p rfl rfl (WO.nil (W.ret (fin.ret (Res.one rfl (RV.tmp rfl)) (congrArg Value.bool ?_)))))
      (refine (bl_f.2 (fun h=>?_)).symm;have h1:=h.1 i (by omega) (by omega);rw [show i-1=((i:Int)-1).toNat by omega] at h1;omega)
     ·refine W.skip (W.region (WO.p rfl rfl (WO.ar rfl rfl rfl (by unfold in64;omega) rfl (WO.p rfl rfl (WO.nil ?_)))))
      refine' ⟨i+1,?hp,?hmu,⟨rfl,rfl,trivial⟩,?hS⟩
      case hS=>repeat (first | exact Sub.nil | refine Sub.cons (by repeat first | exact .head | apply Pick.tail) ?_)
      case hp=>exact ⟨by omega,hu.next fun h0=>(by rw [show i-1=((i:Int)-1).toNat by omega];omega),all_succ (by omega) 0 ha (by omega)⟩
      case hmu=>omega
    ·refine DT.r rfl rfl rfl (WO.no rfl rfl (WO.nil ⟨rfl,rfl⟩)) (DT.r rfl rfl rfl (WO.no rfl rfl (WO.nil ⟨rfl,rfl⟩)) (DT.r rfl rfl rfl (WO.no rfl rfl (WO.nil ⟨rfl,rfl⟩)) (DT.b rfl rfl rfl (WO.no rfl rfl (WO.nil ⟨rfl,rfl⟩)) (DT.r rfl rfl rfl (WO.no rfl rfl (WO.nil ⟨rfl,rfl⟩)) (DT.r rfl rfl rfl (WO.no rfl rfl (WO.nil ⟨rfl,rfl⟩)) (DT.r rfl rfl rfl (WO.no rfl rfl (WO.nil ⟨rfl,rfl⟩)) (DT.r rfl rfl rfl (WO.no rfl rfl (WO.nil ⟨rfl,rfl⟩)) (DT.b rfl rfl rfl (WO.no rfl rfl (WO.nil ⟨rfl,rfl⟩)) (DT.nil [] rfl (WO.no rfl rfl (WO.pg rfl rfl rfl (WO.p rfl rfl (WO.nil (W.cond_f rfl (W.skip (W.region ?_))))))))))))))))
     refine WO.p rfl rfl (WO.ar rfl rfl rfl (by unfold in64;omega) rfl (WO.p rfl rfl (WO.nil ?_)))
     refine' ⟨i+1,?hp,?hmu,⟨rfl,rfl,trivial⟩,?hS⟩
     case hS=>repeat (first | exact Sub.nil | refine Sub.cons (by repeat first | exact .head | apply Pick.tail) ?_)
     case hp=>exact ⟨by omega,hu.next fun h0=>(by rw [show i-1=((i:Int)-1).toNat by omega];omega),all_succ (by omega) 0 ha (by omega)⟩
     case hmu=>omega
 ·refine W.exit (blk_same (W.sreg (WO.p rfl rfl (WO.nil (W.ret (fin.ret (Res.one rfl (RV.tmp rfl)) (congrArg Value.bool ?_)))))))
  (have hl:i=l.length:=(by omega);subst hl;rw [List.take_length] at ha;exact (bl_t.2 ⟨hu,ha⟩).symm)
end Go.Proofs.YtfchgmiiicidcaaGreat
namespace Go.Proofs.YtfchgmiiicidcaaGreat
open Go Go.TH
attribute [local irreducible] W WO pt
set_option maxRecDepth 10000
set_option maxHeartbeats 2000000
def ptN (l:List Int) (g:Int):Int:=l.getD 0 0+g.tmod (l.getD (l.length-1) 0-l.getD 0 0+1)
theorem pt_bd {l:List Int} {g:Int} (hr:Ch.Ris l) (h2:2≤l.length) (hg:0≤g):l.getD 0 0≤ptN l g∧ptN l g≤l.getD (l.length-1) 0∧(0≤l.getD 0 0∧l.getD 0 0≤l.getD (l.length-1) 0∧l.getD (l.length-1) 0≤2000):=by
 have h0:=hr.2 _ (getD_mem (show 0<l.length by omega) 0)
 have h1:=hr.2 _ (getD_mem (show l.length-1<l.length by omega) 0)
 have hlt:=hr.1.lt (show 0<l.length-1 by omega) (show l.length-1<l.length by omega)
 have m0:=Int.tmod_nonneg (l.getD (l.length-1) 0-l.getD 0 0+1) hg
 have m1:=Int.tmod_lt_of_pos g (show 0<l.getD (l.length-1) 0-l.getD 0 0+1 by omega)
 unfold ptN
 omega
theorem pt_on {l:List Int} {g:Int} (hr:Ch.Ris l) (h2:2≤l.length) (hg:0≤g):Ch.On l (ptN l g):=by
 have h:=pt_bd hr h2 hg
 refine ⟨h.1,List.findIdx_lt_length.2 ⟨l.getD (l.length-1) 0,getD_mem (by omega) 0,decide_eq_true h.2.1⟩⟩
theorem c_Point (w:World) (vp va o:Value) (P A:List Int) (R:Ch.Rws) (g h:Int) (hg:0≤g∧g≤65535) (hh:0≤h∧h≤65535) (hc:Ch.OkC P A R) (ho:o.oneCell'=true) (hP:RdF encI 1 w.heap.size w vp P) (hA:RdF encI 1 w.heap.size w va A):Ret Tryz.prog 19 [.agg #[vp,va,o],.agg #[.int .u16 g,.int .u16 h]].toArray w (.agg #[.int .i64 (ptN P g),.int .i64 (ptN A h)]):=by
 refine Ret.of mixed tyTab Tryz.func19 rfl rfl ?_
 replace hP:RdF encI 1 (fnCx mixed tyTab Tryz.f19.ntmps w).B (fnCx mixed tyTab Tryz.f19.ntmps w).w0 vp P:=hP
 replace hA:RdF encI 1 (fnCx mixed tyTab Tryz.f19.ntmps w).B (fnCx mixed tyTab Tryz.f19.ntmps w).w0 va A:=hA
 have hlp:=hP.sl.le
 have hla:=hA.sl.le
 have hnp:=hc.np
 have hna:=hc.na
 have bp:=pt_bd hc.up hnp.1 hg.1
 have ba:=pt_bd hc.ua hna.1 hh.1
 unfold ptN at bp ba
 have e1:((P.length:Int)-1).toNat=P.length-1:=by omega
 have e2:((A.length:Int)-1).toNat=A.length-1:=by omega
 rw [← e1] at bp
 rw [← e2] at ba
 unfold ptN
 rw [← e1,← e2]
 refine W.sreg (WO.boxA rfl rfl (fun b1 hb1=>(WO.boxA rfl rfl (fun b2 hb2=>(WO.alloc rfl rfl rfl (fun b3 hb3=>(WO.nil (W.seq ?_))))))))
 refine W.drawD 13 [.r 0 [],.b 1 [],.r 2 [],.b 3 [],.r 4 [],.b 5 [],.r 6 [],.b 7 [],.r 8 [],.r 9 [],.r 10 [],.b 11 [],.r 12 []] [] (A0:=[]) (Sub.refl _) (by kernel_rfl) ?_ ?_
 ·repeat constructor
 refine DT.r rfl rfl rfl (WO.field0 rfl rfl rfl (WO.nil ⟨rfl,rfl⟩)) (DT.b rfl rfl rfl (WO.load rfl rfl (Cell.own (Pick.tail (Pick.tail (Pick.head))) rfl) rfl (WO.nil ⟨rfl,rfl⟩)) (DT.r rfl rfl rfl (WO.indexAddr (i:=0) rfl rfl rfl hP.sl (by omega) rfl (WO.nil ⟨rfl,rfl⟩)) ?_))
 refine' DT.b rfl rfl rfl ?hq ?_
 case hq =>
  refine' WO.load (v:=_) rfl rfl ?hc rfl ?_
  case hc=>(first | (refine hP.cell0 (i:=0) ?_ 0 ?_ <;> first | rfl | omega))
  exact WO.nil ⟨rfl,rfl⟩
 refine DT.r rfl rfl rfl (WO.field0 rfl rfl rfl (WO.nil ⟨rfl,rfl⟩)) (DT.b rfl rfl rfl (WO.load rfl rfl (Cell.own (Pick.tail (Pick.tail (Pick.head))) rfl) rfl (WO.nil ⟨rfl,rfl⟩)) (DT.r rfl rfl rfl (WO.field0 rfl rfl rfl (WO.nil ⟨rfl,rfl⟩)) (DT.b rfl rfl rfl (WO.load rfl rfl (Cell.own (Pick.tail (Pick.tail (Pick.head))) rfl) rfl (WO.nil ⟨rfl,rfl⟩)) (DT.r rfl rfl rfl (WO.len rfl rfl hP.sl rfl (WO.nil ⟨rfl,rfl⟩)) (DT.r rfl rfl rfl (WO.ar rfl rfl rfl (by unfold in64;omega) rfl (WO.nil ⟨rfl,rfl⟩)) ?_)))))
 refine' DT.r rfl rfl rfl ?hq ?_
 case hq =>
  refine' WO.indexAddrZ (n:=_) rfl rfl rfl ?hs ?h00 ?h1 rfl ?_
  case hs=>exact hP.sl
  case h00=>omega
  case h1=>(omega)
  exact WO.nil ⟨rfl,rfl⟩
 refine' DT.b rfl rfl rfl ?hq ?_
 case hq =>
  refine' WO.load (v:=_) rfl rfl ?hc rfl ?_
  case hc=>(first | (refine hP.cell0 (i:=((P.length:Int)-1).toNat) ?_ 0 ?_ <;> first | rfl | omega))
  exact WO.nil ⟨rfl,rfl⟩
 refine DT.r rfl rfl rfl (WO.p rfl rfl (WO.nil ⟨rfl,rfl⟩)) (DT.nil [_,_,_] rfl (WO.p rfl rfl (WO.nil (W.seq ?_))))
 refine W.drawD 13 [.r 0 [],.b 1 [],.r 2 [],.b 3 [],.r 4 [],.b 5 [],.r 6 [],.b 7 [],.r 8 [],.r 9 [],.r 10 [],.b 11 [],.r 12 []] [] (A0:=[]) (Sub.refl _) (by kernel_rfl) ?_ ?_
 ·repeat constructor
 refine DT.r rfl rfl rfl (WO.fieldL rfl rfl rfl (WO.nil ⟨rfl,rfl⟩)) (DT.b rfl rfl rfl (WO.load rfl rfl (Cell.own (Pick.tail (Pick.tail (Pick.head))) rfl) rfl (WO.nil ⟨rfl,rfl⟩)) (DT.r rfl rfl rfl (WO.indexAddr (i:=0) rfl rfl rfl hA.sl (by omega) rfl (WO.nil ⟨rfl,rfl⟩)) ?_))
 refine' DT.b rfl rfl rfl ?hq ?_
 case hq =>
  refine' WO.load (v:=_) rfl rfl ?hc rfl ?_
  case hc=>(first | (refine hA.cell0 (i:=0) ?_ 0 ?_ <;> first | rfl | omega))
  exact WO.nil ⟨rfl,rfl⟩
 refine DT.r rfl rfl rfl (WO.fieldL rfl rfl rfl (WO.nil ⟨rfl,rfl⟩)) (DT.b rfl rfl rfl (WO.load rfl rfl (Cell.own (Pick.tail (Pick.tail (Pick.head))) rfl) rfl (WO.nil ⟨rfl,rfl⟩)) (DT.r rfl rfl rfl (WO.fieldL rfl rfl rfl (WO.nil ⟨rfl,rfl⟩)) (DT.b rfl rfl rfl (WO.load rfl rfl (Cell.own (Pick.tail (Pick.tail (Pick.head))) rfl) rfl (WO.nil ⟨rfl,rfl⟩)) (DT.r rfl rfl rfl (WO.len rfl rfl hA.sl rfl (WO.nil ⟨rfl,rfl⟩)) (DT.r rfl rfl rfl (WO.ar rfl rfl rfl (by unfold in64;omega) rfl (WO.nil ⟨rfl,rfl⟩)) ?_)))))
 refine' DT.r rfl rfl rfl ?hq ?_
 case hq =>
  refine' WO.indexAddrZ (n:=_) rfl rfl rfl ?hs ?h00 ?h1 rfl ?_
  case hs=>exact hA.sl
  case h00=>omega
  case h1=>(omega)
  exact WO.nil ⟨rfl,rfl⟩
 refine' DT.b rfl rfl rfl ?hq ?_
 case hq =>
  refine' WO.load (v:=_) rfl rfl ?hc rfl ?_
  case hc=>(first | (refine hA.cell0 (i:=((A.length:Int)-1).toNat) ?_ 0 ?_ <;> first | rfl | omega))
  exact WO.nil ⟨rfl,rfl⟩
 refine DT.r rfl rfl rfl (WO.p rfl rfl (WO.nil ⟨rfl,rfl⟩)) (DT.nil [_,_,_] rfl (WO.p rfl rfl (WO.nil (W.seq ?_))))
 refine W.drawD 20 [.r 0 [],.r 1 [],.b 2 [],.r 3 [],.r 4 [],.r 5 [],.r 6 [],.r 7 [],.r 8 [],.r 9 [],.r 10 [],.r 11 [],.b 12 [],.r 13 [],.r 14 [],.r 15 [],.r 16 [],.r 17 [],.r 18 [],.r 19 []] [] (A0:=[_]) (H0:=[_,_]) (.cons .head (.cons .head (.cons .head .nil))) (by kernel_rfl) ?_ ?_
 ·repeat constructor
 refine DT.r rfl rfl rfl (WO.p rfl rfl (WO.nil ⟨rfl,rfl⟩)) (DT.r rfl rfl rfl (WO.indexArrL (o':=0) rfl rfl rfl (by decide) rfl rfl (WO.nil ⟨rfl,rfl⟩)) (DT.b rfl rfl rfl (WO.load rfl rfl (Cell.own Pick.head rfl) rfl (WO.nil ⟨rfl,rfl⟩)) (DT.r rfl rfl rfl (WO.conv64 rfl rfl rfl (by unfold in64;omega) rfl (WO.nil ⟨rfl,rfl⟩)) (DT.r rfl rfl rfl (WO.p rfl rfl (WO.nil ⟨rfl,rfl⟩)) (DT.r rfl rfl rfl (WO.p rfl rfl (WO.nil ⟨rfl,rfl⟩)) (DT.r rfl rfl rfl (WO.ar rfl rfl rfl (by unfold in64;omega) rfl (WO.nil ⟨rfl,rfl⟩)) (DT.r rfl rfl rfl (WO.ar rfl rfl rfl (by unfold in64;omega) rfl (WO.nil ⟨rfl,rfl⟩)) (DT.r rfl rfl rfl (WO.rem rfl rfl (by omega) rfl (WO.nil ⟨rfl,rfl⟩)) ?_))))))))
 refine DT.r rfl rfl rfl (WO.ar rfl rfl rfl (by unfold in64;omega) rfl (WO.nil ⟨rfl,rfl⟩)) (DT.r rfl rfl rfl (WO.p rfl rfl (WO.nil ⟨rfl,rfl⟩)) (DT.r rfl rfl rfl (WO.indexArrL (o':=1) rfl rfl rfl (by decide) rfl rfl (WO.nil ⟨rfl,rfl⟩)) (DT.b rfl rfl rfl (WO.load rfl rfl (Cell.own Pick.head rfl) rfl (WO.nil ⟨rfl,rfl⟩)) (DT.r rfl rfl rfl (WO.conv64 rfl rfl rfl (by unfold in64;omega) rfl (WO.nil ⟨rfl,rfl⟩)) (DT.r rfl rfl rfl (WO.p rfl rfl (WO.nil ⟨rfl,rfl⟩)) (DT.r rfl rfl rfl (WO.p rfl rfl (WO.nil ⟨rfl,rfl⟩)) (DT.r rfl rfl rfl (WO.ar rfl rfl rfl (by unfold in64;omega) rfl (WO.nil ⟨rfl,rfl⟩)) ?_)))))))
 refine DT.r rfl rfl rfl (WO.ar rfl rfl rfl (by unfold in64;omega) rfl (WO.nil ⟨rfl,rfl⟩)) (DT.r rfl rfl rfl (WO.rem rfl rfl (by omega) rfl (WO.nil ⟨rfl,rfl⟩)) (DT.r rfl rfl rfl (WO.ar rfl rfl rfl (by unfold in64;omega) rfl (WO.nil ⟨rfl,rfl⟩)) (DT.nil [_,_,_] rfl (WO.build rfl rfl rfl rfl rfl (WO.storeA rfl rfl rfl rfl Pick.head rfl rfl (WO.nil (W.ret ?_)))))))
 (rw [e1,e2];exact fin.ret (Res.one rfl (RV.cell rfl rfl rfl (Cells.own (by repeat exact .head)))) rfl)
end Go.Proofs.YtfchgmiiicidcaaGreat
