/-
  What is proved here: operations on the bits of numbers. Conditions: none; each rule states its own.
-/
import Derived.Test.YtfchgmiiicidcaaGreatM2
import Derived.Laws.Shifts
import Derived.WideKeyRuns
import Derived.Maps.RangeRun
set_option linter.unusedVariables false
set_option linter.unusedSimpArgs false
namespace Go.TH
open Go
/-- how many bits a number of a kind has that is not below 0 -/
def room (k:IntKind):Nat:=if k.signed then k.bits-1 else k.bits
def Fits (k:IntKind) (a:Nat):Prop:=a<2 ^ room k
theorem wrap_nat {k:IntKind} {a:Nat} (h:Fits k a):k.wrap (a:Int)=(a:Int):=by
  unfold Fits room at h
  have e1:(a:Int)%(2 ^ k.bits:Int)=(a:Int):=by
    refine Int.emod_eq_of_lt (by omega) ?_
    have h2:a<2 ^ k.bits:=Nat.lt_of_lt_of_le h (Nat.pow_le_pow_right (by omega) (by split <;> omega))
    exact_mod_cast h2
  unfold IntKind.wrap
  simp only [e1]
  split
  · rename_i hs
    simp only [Bool.and_eq_true,decide_eq_true_eq] at hs
    rw [if_pos hs.1] at h
    have h3:(a:Int)<(2 ^ (k.bits-1):Int):=by exact_mod_cast h
    omega
  · rfl
theorem ofInt_nat {k:IntKind} {a:Nat} (h:Fits k a):(BitVec.ofInt k.bits (a:Int)).toNat=a:=by
  have h2:a<2 ^ k.bits:=Nat.lt_of_lt_of_le h (Nat.pow_le_pow_right (by omega) (by unfold room;split <;> omega))
  rw [show BitVec.ofInt k.bits (a:Int)=BitVec.ofNat k.bits a by simp,BitVec.toNat_ofNat]
  exact Nat.mod_eq_of_lt h2
theorem mod_fits {k:IntKind} {a:Nat} (h:Fits k a):a%2 ^ k.bits=a:=Nat.mod_eq_of_lt (Nat.lt_of_lt_of_le h (Nat.pow_le_pow_right (by omega) (by unfold room;split <;> omega)))
theorem Fits.and {k:IntKind} {a b:Nat} (h:Fits k a):Fits k (a&&&b):=Nat.lt_of_le_of_lt Nat.and_le_left h
theorem Fits.or {k:IntKind} {a b:Nat} (h:Fits k a) (h':Fits k b):Fits k (a|||b):=Nat.or_lt_two_pow h h'
theorem Fits.xor {k:IntKind} {a b:Nat} (h:Fits k a) (h':Fits k b):Fits k (a^^^b):=Nat.xor_lt_two_pow h h'
theorem Fits.shr {k:IntKind} {a s:Nat} (h:Fits k a):Fits k (a>>>s):=Nat.lt_of_le_of_lt (by rw [Nat.shiftRight_eq_div_pow];exact Nat.div_le_self _ _) h
section
variable {P:Program} {C:Cx P} {E:Env} {H:List HP}
variable {ops:Array Oper} {K:KP} {rest:List Oper} {d:Nat} {ty:TypeId} {pos:String} {af:Array Edge} {x y:Operand} {T T':TypeId} {k:IntKind} {a b:Nat}
theorem WO.shrN {k':IntKind} {s:Nat} (hx:ev E x=some (.int k (a:Int))) (hy:ev E y=some (.int k' (s:Int))) (hs:s≤k.bits) (hN:Nat.blt d C.N=true) (h:WO C ops rest K ((d,.int k ((a>>>s:Nat):Int))::E) H):WO C ops (⟨some d,.binOp .shr T x y T',ty,pos,af,none⟩::rest) K E H :=
  WO.pure _ (by simp) (fun L c w hf _=>by
    simp only [execOp,hf.eval hx,hf.eval hy]
    simp [binOp_shr,eqGuard_shr,shift_shr_any k k' a s (by omega),Nat.min_eq_left hs,Nat.shiftRight_eq_div_pow]) hN h
end
section
variable {P:Program} {C:Cx P} {E:Env} {H:List HP}
variable {ops:Array Oper} {K:KP} {rest:List Oper} {d:Nat} {ty:TypeId} {pos:String} {af:Array Edge} {x y:Operand} {T:TypeId}
/-- an element of an array's value -/
theorem WO.indexV {len e i:Nat} {k:IntKind} {vs:List Value} {v:Value} (hT:C.tt.ar? T=some (len,e,1)) (hO:C.tt.one? e=true) (hx:ev E x=some (.agg vs.toArray)) (hy:ev E y=some (.int k (i:Int))) (h1:i<len) (hv:lget vs i=some v) (hN:Nat.blt d C.N=true)
    (h:WO C ops rest K ((d,v)::E) H):WO C ops (⟨some d,.index T x y,ty,pos,af,none⟩::rest) K E H :=
  WO.pure v (by simp) (fun L a w hf hi=>by
    rw [lget_eq] at hv
    have hp:=run_part1 (P:=P) (w:=w) (CT.of hO) hv
    simp [execOp,hf.eval hx,hf.eval hy,Instr.index,run_underlying (ArT.of hT).u,asIntOf,h1,run_sizeOf (ArT.of hT).size,hp]) hN h
end
end Go.TH
namespace Go.TH
open Go
section
variable {P:Program} {C:Cx P} {E:Env} {H:List HP} {Q:Post} {c:Code}
end
end Go.TH
namespace Go.TH
open Go
section
variable {P:Program} (w:World)
end
/-- a part of an array of one's own: n elements of one cell each -/
def WinC (e:Nat) (v:Value) (n:Nat) (cs:List Value):HP:=fun h =>
  cs.length=n∧∃ (g o cap:Nat) (cur:List Value),v=.slice (some ⟨g,o,none⟩) n cap∧n≤cap∧cap≤maxLen∧o+cap≤cur.length∧(cur.drop o).take n=cs∧pt g (.cells cur.toArray e (0,0)) h
/-- a window that began as the slice of another's array, which has no room left -/
def NowP (e b n:Nat) (ss:List Value) (v:Value) (cs:List Value):HP:=fun h =>
  (v=.slice (some ⟨b,0,none⟩) n n∧cs=ss∧OwC e 1 (.slice (some ⟨b,0,none⟩) n n) n ss h) ∨
  ∃ h1 h2,Split h h1 h2∧OwC e 1 (.slice (some ⟨b,0,none⟩) n n) n ss h1∧WinC e v n cs h2
theorem WinC.open {w0:World} {M:List Nat} {L H:List HP} {w:World} {e n:Nat} {v:Value} {cs:List Value} (h:Inv w0 M (L++WinC e v n cs::H) w) :
    cs.length=n∧∃ (g o cap:Nat) (cur:List Value),v=.slice (some ⟨g,o,none⟩) n cap∧n≤cap∧cap≤maxLen∧o+cap≤cur.length∧(cur.drop o).take n=cs∧Inv w0 M (L++pt g (.cells cur.toArray e (0,0))::H) w:=by
  have h1:=h.perm List.perm_middle
  obtain ⟨ha,hb,s,⟨hl,g,o,cap,cur,h2,h3,h4,h5,h6,h7⟩,hr⟩:=h1.mine
  refine ⟨hl,g,o,cap,cur,h2,h3,h4,h5,h6,?_⟩
  have:Inv w0 M (pt g (.cells cur.toArray e (0,0))::(L++H)) w:=⟨h1.os,h1.tape,h1.output,h1.size,h1.keep,ha,hb,s,h7,hr⟩
  exact this.perm List.perm_middle.symm
theorem WinC.shut {w0:World} {M:List Nat} {L H:List HP} {w:World} {e n g o cap:Nat} {cs cur:List Value} (hl:cs.length=n) (hn:n≤cap) (hm:cap≤maxLen) (hc:o+cap≤cur.length) (ht:(cur.drop o).take n=cs)
    (h:Inv w0 M (L++pt g (.cells cur.toArray e (0,0))::H) w):Inv w0 M (L++WinC e (.slice (some ⟨g,o,none⟩) n cap) n cs::H) w :=
  h.mono fun h hp=>⟨hl,g,o,cap,cur,rfl,hn,hm,hc,ht,hp⟩
theorem NowP.open {w0:World} {M:List Nat} {L H:List HP} {w:World} {e b n:Nat} {v:Value} {ss cs:List Value} (h:Inv w0 M (L++NowP e b n ss v cs::H) w) :
    (v=.slice (some ⟨b,0,none⟩) n n∧cs=ss∧Inv w0 M (L++OwC e 1 (.slice (some ⟨b,0,none⟩) n n) n ss::H) w) ∨
    Inv w0 M (L++OwC e 1 (.slice (some ⟨b,0,none⟩) n n) n ss::WinC e v n cs::H) w:=by
  have h1:=h.perm List.perm_middle
  obtain ⟨ha,hb,s,hc,hr⟩:=h1.mine
  rcases hc with ⟨q1,q2,q3⟩ | ⟨x,y,t,q1,q2⟩
  · refine .inl ⟨q1,q2,?_⟩
    have:Inv w0 M (OwC e 1 (.slice (some ⟨b,0,none⟩) n n) n ss::(L++H)) w:=⟨h1.os,h1.tape,h1.output,h1.size,h1.keep,ha,hb,s,q3,hr⟩
    exact this.perm List.perm_middle.symm
  · refine .inr ?_
    have:Inv w0 M (OwC e 1 (.slice (some ⟨b,0,none⟩) n n) n ss::WinC e v n cs::(L++H)) w:=by
      refine ⟨h1.os,h1.tape,h1.output,h1.size,h1.keep,?_⟩
      exact sat_join (H1:=[_,_]) s ⟨x,y,t,q1,y,fun _=>none,(split_none y).comm,q2,trivial⟩ hr
    refine this.perm ?_
    refine List.Perm.trans ?_ (List.perm_middle (l₁:=L) (l₂:=WinC e v n cs::H)).symm
    exact List.Perm.cons _ (List.perm_middle (l₁:=L) (l₂:=H)).symm
theorem NowP.start {e b n:Nat} {ss:List Value} {H H':List HP} (p:Pick (OwC e 1 (.slice (some ⟨b,0,none⟩) n n) n ss) H H'):∀ h,sat H h→sat (NowP e b n ss (.slice (some ⟨b,0,none⟩) n n) ss::H') h:=fun h hs=>by
  obtain ⟨h1,h2,s,a,r⟩:=p.sat hs
  exact ⟨h1,h2,s,.inl ⟨rfl,rfl,a⟩,r⟩
theorem NowP.stop {e b n:Nat} {ss:List Value} {v:Value} {cs:List Value} {H H':List HP} (p:Pick (NowP e b n ss v cs) H H'):∀ h,sat H h→sat (OwC e 1 (.slice (some ⟨b,0,none⟩) n n) n ss::H') h:=fun h hs=>by
  obtain ⟨h1,h2,s,a,r⟩:=p.sat hs
  rcases a with ⟨_,_,q⟩ | ⟨x,y,t,q1,q2⟩
  · exact ⟨h1,h2,s,q,r⟩
  · have:=sat_join (H1:=[OwC e 1 (.slice (some ⟨b,0,none⟩) n n) n ss,WinC e v n cs]) s ⟨x,y,t,q1,y,fun _=>none,(split_none y).comm,q2,trivial⟩ r
    exact Sub.sat (.cons .head (.tail (Sub.refl _))) this
section
variable {P:Program} {C:Cx P} {E:Env} {H:List HP}
variable {ops:Array Oper} {K:KP} {rest:List Oper} {d:Nat} {ty:TypeId} {pos:String} {af:Array Edge} {x y z:Operand} {T T':TypeId}
theorem WinC.cellsI {e n:Nat} {v:Value} {cs:List Value} {L H':List HP} {w:World} (hi:Inv C.w0 C.M (L++WinC e v n cs::H') w):∀ j u,cs[j]?=some u→w.cell? ((base v).add j)=some u:=by
  intro j u hu
  obtain ⟨hl,g,o,cap,cur,rfl,h1,h2,h3,h4,hi'⟩:=WinC.open hi
  have hlook:=(hi'.look (b:=g) (o:=.cells cur.toArray e (0,0)) ((Pick.head).app L)).1
  have ea:(base (.slice (some ⟨g,o,none⟩) n cap)).add j=⟨g,o+j,none⟩:=by simp [base,Addr.add_lit]
  rw [ea]
  subst h4
  rw [List.getElem?_take] at hu
  split at hu
  · rw [List.getElem?_drop] at hu
    simp [World.cell?,hlook,hu]
  · cases hu
theorem NowP.cells {e b n:Nat} {ss:List Value} {v:Value} {cs:List Value} {H':List HP} (p:Pick (NowP e b n ss v cs) H H'):Cells C H (base v) cs:=by
  intro j u hu L w hi
  rcases NowP.open (hi.pickL p) with ⟨rfl,rfl,q⟩ | q
  · exact OwC.cells (C:=C) (.head) j u hu L w q
  · have q':Inv C.w0 C.M ((L++[OwC e 1 (.slice (some ⟨b,0,none⟩) n n) n ss])++WinC e v n cs::H') w:=by rw [List.append_assoc];exact q
    exact WinC.cellsI q' j u hu
theorem NowP.len {e b n:Nat} {ss:List Value} {v:Value} {cs:List Value} {H':List HP} (p:Pick (NowP e b n ss v cs) H H'):∀ (L:List HP) w,Inv C.w0 C.M (L++H) w→cs.length=n∧IsSl v n:=fun L w hi=>by
  rcases NowP.open (hi.pickL p) with ⟨rfl,rfl,q⟩ | q
  · obtain ⟨hl,_⟩:=OwC.open q
    exact ⟨by omega,OwC.isSl q⟩
  · have q':Inv C.w0 C.M ((L++[OwC e 1 (.slice (some ⟨b,0,none⟩) n n) n ss])++WinC e v n cs::H') w:=by rw [List.append_assoc];exact q
    obtain ⟨hl,g,o,cap,cur,rfl,h1,h2,h3,h4,hi'⟩:=WinC.open q'
    simp only [maxLen] at h2
    exact ⟨hl,by omega,_,_,rfl,fun _=>⟨_,_,rfl⟩⟩
theorem NowP.cell {e b n i:Nat} {ss:List Value} {v:Value} {cs:List Value} {H':List HP} (p:Pick (NowP e b n ss v cs) H H') (hi:i<cs.length):Cell C H (elt v i 1) (cs.getD i undef):=by
  have:=NowP.cells (C:=C) p i (cs.getD i undef) (by simp [hi])
  rw [elt_eq,Nat.mul_one]
  exact this
end
/-- the window is moved by one -/
theorem NowP.next {e b n g o c:Nat} {ss cs:List Value} {H H1 H2:List HP} (p:Pick (OwC e 1 (.slice (some ⟨b,0,none⟩) n n) n ss) H H1) (q:Pick (WinC e (.slice (some ⟨g,o,none⟩) (n+1) c) (n+1) cs) H1 H2) :
    ∀ h,sat H h→sat (NowP e b n ss (.slice (if c=1 then some ⟨g,o,none⟩ else ofs (some ⟨g,o,none⟩) (1*1)) (n+1-1) (c-1)) (cs.drop 1)::H2) h:=fun h hs=>by
  obtain ⟨h1,h2,s,a,r⟩:=p.sat hs
  obtain ⟨h3,h4,s2,a2,r2⟩:=q.sat r
  obtain ⟨r',s3,s4⟩:=split_assoc s s2
  refine ⟨r',h4,s3,.inr ⟨h1,h3,s4,a,?_⟩,r2⟩
  obtain ⟨hl,g',o',cap,cur,e1,q1,q2,q3,q4,q5⟩:=a2
  injection e1 with e1 e2 e3
  injection e1 with e1
  injection e1 with e1 e4
  subst e1;subst e4;subst e3
  refine ⟨by simp [hl],?_⟩
  by_cases h1c:c=1
  · subst h1c
    obtain rfl:n=0:=by omega
    refine ⟨g,o,0,cur,by simp,by omega,by omega,by omega,?_,q5⟩
    rw [← q4];simp
  · refine ⟨g,o+1,c-1,cur,?_,by omega,by omega,by omega,?_,q5⟩
    · rw [if_neg h1c];simp [ofs,Addr.add_lit]
    · rw [← q4,show n+1=1+n by omega,List.drop_take,List.drop_drop];simp
end Go.TH
namespace Go.Proofs.YtfchgmiiicidcaaGreat.Ch
open Go Go.TH
attribute [local irreducible] W WO pt
set_option maxRecDepth 10000
set_option maxHeartbeats 1000000
theorem c_within1 (w:World) (x top:Int) (p:Addr) (h1:Cap w p (.int .i64 top)):Ret Tryz.prog 203 [.int .i64 x,.pointer (some p)].toArray w (.bool (bl (¬ (0≤x∧x≤top)))):=by
 refine Ret.of mixed tyTab Tryz.func203 rfl rfl ?_
 replace h1:Cap (fnCx mixed tyTab Tryz.f203.ntmps w).w0 p (.int .i64 top):=h1
 refine W.sreg (WO.p rfl rfl (WO.nil (W.sreg (WO.p rfl rfl (WO.p rfl rfl (WO.p rfl rfl ?_))))))
 refine WO.guard_bl rfl rfl (fun c1=>?_) (fun c1=>?_)
 ·refine WO.no rfl rfl (WO.no rfl rfl (WO.no rfl rfl (WO.p rfl rfl (WO.p rfl rfl (WO.nil (W.ret (fin.ret (Res.one rfl (RV.tmp rfl)) (congrArg Value.bool ?_))))))))
  exact (bl_t.2 (by omega)).symm
 ·refine WO.pg rfl rfl rfl (WO.go' rfl ?_)
  refine' WO.load (v:=_) rfl rfl ?hc rfl ?_
  case hc=>(refine Cap.cell (v:=.int .i64 top) rfl h1)
  refine WO.pg rfl rfl rfl (WO.p rfl rfl (WO.p rfl rfl (WO.nil (W.ret (fin.ret (Res.one rfl (RV.tmp rfl)) (congrArg Value.bool ?_))))))
  (rw [bl_eq,bl_eq,decide_eq_decide];omega)
theorem c_IndexI (w:World) (v:Value) (xs:List Int) (top:Int) (p:Addr) (hR:RdF encI 1 w.heap.size w v xs) (h1:Cap w p (.int .i64 top)):RetE Tryz.prog 211 [v,.func (.func 203) #[] #[.pointer (some p)]].toArray w (fun r=>∃ n:Int,r=.int .i64 n∧(0≤n↔¬ ∀ x∈xs,0≤x∧x≤top)):=by
 refine RetE.of mixed tyTab Tryz.func211 rfl rfl ?_
 replace hR:RdF encI 1 (fnCx mixed tyTab Tryz.f211.ntmps w).B (fnCx mixed tyTab Tryz.f211.ntmps w).w0 v xs:=hR
 replace h1:Cap (fnCx mixed tyTab Tryz.f211.ntmps w).w0 p (.int .i64 top):=h1
 have hle:=hR.sl.le
 refine W.sreg (WO.p rfl rfl (WO.nil (W.seq (W.sreg (WO.p rfl rfl (WO.len rfl rfl hR.sl rfl (WO.p rfl rfl (WO.nil (W.block ?_)))))))))
 refine W.loop (fun (i:Nat)=>i≤xs.length∧∀ x∈xs.take i,0≤x∧x≤top)
  (fun (i:Nat)=>[(8,.int .i64 (i:Int)),(7,.int .i64 (xs.length:Int)),(0,v),(1,.func (.func 203) #[] #[.pointer (some p)])])
  (fun (i:Nat)=>[])
  (fun (i:Nat)=>xs.length-i) 0
  (by exact ⟨by omega,by simp⟩) ⟨rfl,rfl,rfl,rfl,trivial⟩ (by repeat (first | exact Sub.nil | refine Sub.cons (by repeat first | exact .head | apply Pick.tail) ?_)) ?_
 rintro i ⟨hi0,hal⟩
 refine W.sreg (WO.p rfl rfl (WO.nil (W.seq ?_)))
 refine W.cond_bl rfl (fun c1=>?_) (fun c1=>?_)
 ·refine W.skip (W.seq (W.block (W.sreg (WO.p rfl rfl (WO.p rfl rfl (WO.nil (W.sreg (WO.p rfl rfl (WO.p rfl rfl (WO.p rfl rfl (WO.indexAddr rfl rfl rfl hR.sl (by omega) rfl ?_)))))))))))
  refine' WO.load (v:=_) rfl rfl ?hc rfl ?_
  case hc=>(first | (refine hR.cell0 ?_ 0 ?_ <;> first | rfl | omega))
  refine WO.callCR (first:=[]) (captured:=[.pointer (some p)]) rfl rfl Tryz.call203 (fun L w hi'=>c_within1 w (xs.getD i 0) top p (h1.old rfl hi')) rfl (WO.nil ?_)
  refine W.cond_bl rfl (fun c2=>?_) (fun c2=>?_)
  ·refine W.sreg (WO.p rfl rfl (WO.p rfl rfl (WO.nil (W.ret ?_))))
   exact fin.ret (Res.one rfl (RV.tmp rfl)) ⟨_,rfl,by exact ⟨fun _=>not_all_getD (i:=i) (by omega) 0 (by assumption),fun _=>by omega⟩⟩
  ·refine W.skip (W.region (WO.ar rfl rfl rfl (by unfold in64;omega) rfl (WO.p rfl rfl (WO.nil ?_))))
   refine' ⟨i+1,?hp,?hmu,⟨rfl,rfl,rfl,rfl,trivial⟩,?hS⟩
   case hS=>repeat (first | exact Sub.nil | refine Sub.cons (by repeat first | exact .head | apply Pick.tail) ?_)
   case hp=>exact ⟨by omega,all_succ (by omega) 0 hal (Decidable.not_not.1 (by assumption))⟩
   case hmu=>omega
 ·refine W.exit (blk_same (W.sreg (WO.p rfl rfl (WO.nil (W.ret ?_)))))
  exact fin.ret (Res.one rfl (RV.tmp rfl)) ⟨_,rfl,by exact ⟨fun h=>by omega,fun h=>absurd (all_len (by omega) hal) h⟩⟩
theorem c_ContI (w:World) (v:Value) (xs:List Int) (top:Int) (p:Addr) (hR:RdF encI 1 w.heap.size w v xs) (h1:Cap w p (.int .i64 top)):Ret Tryz.prog 138 [v,.func (.func 203) #[] #[.pointer (some p)]].toArray w (.bool (bl (¬ ∀ x∈xs,0≤x∧x≤top))):=by
 refine Ret.of mixed tyTab Tryz.func138 rfl rfl ?_
 replace hR:RdF encI 1 (fnCx mixed tyTab Tryz.f138.ntmps w).B (fnCx mixed tyTab Tryz.f138.ntmps w).w0 v xs:=hR
 replace h1:Cap (fnCx mixed tyTab Tryz.f138.ntmps w).w0 p (.int .i64 top):=h1
 refine W.sreg (WO.p rfl rfl (WO.nil (W.sreg (WO.p rfl rfl (WO.p rfl rfl (WO.callE rfl Tryz.call211 (fun L w hi'=>c_IndexI w v xs top p (hR.later hi') (h1.old rfl hi')) rfl ?_))))))
 rintro _ ⟨n,rfl,hn⟩
 refine WO.p rfl rfl (WO.p rfl rfl (WO.nil (W.ret (fin.ret (Res.one rfl (RV.tmp rfl)) (congrArg Value.bool ?_)))))
 rw [bl_eq,bl_eq];exact decide_eq_decide.2 hn
theorem c_within (w:World) (v:Value) (xs:List Int) (top:Int) (hR:RdF encI 1 w.heap.size w v xs):Ret Tryz.prog 120 [.int .i64 top,v].toArray w (.bool (bl (∀ x∈xs,0≤x∧x≤top))):=by
 refine Ret.of mixed tyTab Tryz.func120 rfl rfl ?_
 replace hR:RdF encI 1 (fnCx mixed tyTab Tryz.f120.ntmps w).B (fnCx mixed tyTab Tryz.f120.ntmps w).w0 v xs:=hR
 refine W.sreg (WO.box1 rfl (by rfl) rfl (fun b1 hb1=>(WO.p rfl rfl (WO.nil (W.sreg (WO.p rfl rfl (WO.p rfl rfl (WO.callR rfl Tryz.call138 (fun L w hi'=>c_ContI w v xs top _ (hR.later hi') (Cap.of (b:=b1) (by repeat exact .head) rfl hi')) rfl (WO.p rfl rfl (WO.p rfl rfl (WO.nil (W.ret (fin.ret (Res.one rfl (RV.tmp rfl)) (congrArg Value.bool ?_))))))))))))))
 rcases Decidable.em (∀ x∈xs,0≤x∧x≤top) with h | h
 ·(rw [bl_t.2 h,bl_f.2 (fun g=>g h)];try rfl)
 ·(rw [bl_f.2 h,bl_t.2 h];try rfl)
def Up (l:List Int) (n:Nat):Prop:=∀ i,i<n→0<i→l.getD (i-1) 0<l.getD i 0
instance (l:List Int) (n:Nat):Decidable (Up l n):=by unfold Up;infer_instance
theorem Up.next {l:List Int} {n:Nat} (h:Up l n) (g:0<n→l.getD (n-1) 0<l.getD n 0):Up l (n+1):=fun i hi h0=>by
 rcases Nat.lt_or_ge i n with q | q
 ·exact h i q h0
 ·obtain rfl:i=n:=by omega
  exact g h0
def Ris (l:List Int):Prop:=Up l l.length∧∀ x∈l,0≤x∧x≤2000
instance (l:List Int):Decidable (Ris l):=by unfold Ris;infer_instance
theorem c_rising (w:World) (v:Value) (l:List Int) (hR:RdF encI 1 w.heap.size w v l):Ret Tryz.prog 135 [v].toArray w (.bool (bl (Ris l))):=by
 refine Ret.of mixed tyTab Tryz.func135 rfl rfl ?_
 replace hR:RdF encI 1 (fnCx mixed tyTab Tryz.f135.ntmps w).B (fnCx mixed tyTab Tryz.f135.ntmps w).w0 v l:=hR
 have hle:=hR.sl.le
 refine W.sreg (WO.p rfl rfl (WO.nil (W.seq (W.sreg (WO.p rfl rfl (WO.len rfl rfl hR.sl rfl (WO.p rfl rfl (WO.nil (W.block ?_)))))))))
 refine W.loop (fun (i:Nat)=>i≤l.length∧Up l i)
  (fun (i:Nat)=>[(7,.int .i64 (i:Int)),(6,.int .i64 (l.length:Int)),(5,v),(0,v)])
  (fun (i:Nat)=>[])
  (fun (i:Nat)=>l.length-i) 0
  (by exact ⟨by omega,fun i hi=>by omega⟩) ⟨rfl,rfl,rfl,rfl,trivial⟩ (by repeat (first | exact Sub.nil | refine Sub.cons (by repeat first | exact .head | apply Pick.tail) ?_)) ?_
 rintro i ⟨hi0,hu⟩
 refine W.sreg (WO.p rfl rfl (WO.nil (W.seq ?_)))
 refine W.cond_bl rfl (fun c1=>?_) (fun c1=>?_)
 ·refine W.skip (W.seq (W.block (W.sreg (WO.p rfl rfl (WO.indexAddr rfl rfl rfl hR.sl (by omega) rfl ?_)))))
  refine' WO.load (v:=_) rfl rfl ?hc rfl ?_
  case hc=>(first | (refine hR.cell0 (i:=i) ?_ 0 ?_ <;> first | rfl | omega))
  refine WO.p rfl rfl (WO.p rfl rfl (WO.nil (W.sreg (WO.p rfl rfl (WO.p rfl rfl (WO.p rfl rfl ?_))))))
  refine WO.guard_bl rfl rfl (fun c2=>?_) (fun c2=>?_)
  ·refine WO.pg rfl rfl rfl (WO.pg rfl rfl rfl (WO.pg rfl rfl rfl (WO.go' rfl (WO.ar rfl rfl rfl (by unfold in64;omega) rfl (WO.go' rfl ?_)))))
   refine' WO.indexAddrZ (n:=_) rfl rfl rfl ?hs ?h00 ?h1 rfl ?_
   case hs=>exact hR.sl
   case h00=>omega
   case h1=>(omega)
   refine WO.go' rfl ?_
   refine' WO.load (v:=_) rfl rfl ?hc rfl ?_
   case hc=>(first | (refine hR.cell0 (i:=((i:Int)-1).toNat) ?_ 0 ?_ <;> first | rfl | omega))
   refine WO.pg rfl rfl rfl (WO.p rfl rfl (WO.nil ?_))
   refine W.cond_bl rfl (fun c3=>?_) (fun c3=>?_)
   ·refine W.sreg (WO.p rfl rfl (WO.nil (W.ret (fin.ret (Res.one rfl (RV.tmp rfl)) (congrArg Value.bool ?_)))))
    (refine (bl_f.2 (fun h=>?_)).symm;have h1:=h.1 i (by omega) (by omega);rw [show i-1=((i:Int)-1).toNat by omega] at h1;omega)
   ·refine W.skip (W.region (WO.ar rfl rfl rfl (by unfold in64;omega) rfl (WO.p rfl rfl (WO.nil ?_))))
    refine' ⟨i+1,?hp,?hmu,⟨rfl,rfl,rfl,rfl,trivial⟩,?hS⟩
    case hS=>repeat (first | exact Sub.nil | refine Sub.cons (by repeat first | exact .head | apply Pick.tail) ?_)
    case hp=>exact ⟨by omega,hu.next fun h0=>by rw [show i-1=((i:Int)-1).toNat by omega];omega⟩
    case hmu=>omega
  ·refine WO.no rfl rfl (WO.no rfl rfl (WO.no rfl rfl (WO.no rfl rfl (WO.no rfl rfl (WO.no rfl rfl (WO.no rfl rfl (WO.p rfl rfl (WO.nil (W.cond_f rfl (W.skip (W.region (WO.ar rfl rfl rfl (by unfold in64;omega) rfl (WO.p rfl rfl (WO.nil ?_))))))))))))))
   refine' ⟨i+1,?hp,?hmu,⟨rfl,rfl,rfl,rfl,trivial⟩,?hS⟩
   case hS=>repeat (first | exact Sub.nil | refine Sub.cons (by repeat first | exact .head | apply Pick.tail) ?_)
   case hp=>exact ⟨by omega,hu.next fun h0=>by rw [show i-1=((i:Int)-1).toNat by omega];omega⟩
   case hmu=>omega
 ·refine W.exit (blk_same (W.sreg (WO.p rfl rfl (WO.callR rfl Tryz.call120 (fun L w hi=>c_within w v l 2000 (hR.later hi)) rfl (WO.p rfl rfl (WO.nil (W.ret (fin.ret (Res.one rfl (RV.tmp rfl)) (congrArg Value.bool ?_)))))))))
  (have hl:i=l.length:=(by omega);subst hl;rw [bl_eq,bl_eq,decide_eq_decide];exact ⟨fun h=>⟨hu,h⟩,fun h=>h.2⟩)
end Go.Proofs.YtfchgmiiicidcaaGreat.Ch
namespace Go.Proofs.YtfchgmiiicidcaaGreat.Ch
open Go Go.TH
attribute [local irreducible] W WO pt
set_option maxRecDepth 10000
set_option maxHeartbeats 1000000
theorem c_isNaN (w:World) (x:Int):Ret Tryz.prog 205 [.int .i64 x].toArray w (.bool false):=by
 refine Ret.of mixed tyTab Tryz.func205 rfl rfl (W.sreg (WO.p rfl rfl (WO.nil (W.sreg (WO.p rfl rfl (WO.p rfl rfl (WO.p rfl rfl (WO.p rfl rfl (WO.nil (W.ret ?_))))))))))
 exact fin.ret (Res.one rfl (RV.tmp rfl)) (congrArg Value.bool (bl_f.2 (by omega)))
theorem c_isNaN2 (w:World) (x:Int):Ret Tryz.prog 277 [.int .i64 x].toArray w (.bool false):=by
 refine Ret.of mixed tyTab Tryz.func277 rfl rfl (W.sreg (WO.p rfl rfl (WO.nil (W.sreg (WO.p rfl rfl (WO.p rfl rfl (WO.p rfl rfl (WO.p rfl rfl (WO.nil (W.ret ?_))))))))))
 exact fin.ret (Res.one rfl (RV.tmp rfl)) (congrArg Value.bool (bl_f.2 (by omega)))
theorem c_Less (w:World) (x y:Int):Ret Tryz.prog 122 [.int .i64 x,.int .i64 y].toArray w (.bool (bl (x<y))):=by
 refine Ret.of mixed tyTab Tryz.func122 rfl rfl (W.sreg (WO.p rfl rfl (WO.nil (W.sreg (WO.p rfl rfl (WO.callR rfl Tryz.call205 (fun L w hi=>c_isNaN w _) rfl (WO.p rfl rfl (WO.no rfl rfl (WO.no rfl rfl (WO.no rfl rfl (WO.p rfl rfl (WO.p rfl rfl (WO.pg rfl rfl rfl (WO.pg rfl rfl rfl (WO.pg rfl rfl rfl (WO.p rfl rfl (WO.p rfl rfl (WO.nil (W.ret (fin.ret (Res.one rfl (RV.tmp rfl)) (congrArg Value.bool ?_)))))))))))))))))))))
 rfl
def fI (l:List Int) (x:Int):Nat:=l.findIdx fun y=>decide (x≤y)
theorem Up.lt {l:List Int} {n:Nat} (h:Up l n):∀ {i j:Nat},i<j→j<n→l.getD i 0<l.getD j 0
 | i,0,hi,_=>by omega
 | i,j+1,hi,hj=>by
  have h1:=h (j+1) hj (by omega)
  rw [show j+1-1=j by omega] at h1
  rcases Nat.lt_or_ge i j with g | g
  ·have:=Up.lt h g (show j<n by omega)
   omega
  ·obtain rfl:i=j:=by omega
   exact h1
theorem fI_eq {l:List Int} {x:Int} {i:Nat} (h1:i≤l.length) (h2:∀ j,j<i→l.getD j 0<x) (h3:i<l.length→x≤l.getD i 0):i=fI l x:=by
 unfold fI
 rcases Nat.lt_or_ge i l.length with g | g
 ·refine ((List.findIdx_eq g).2 ⟨?_,fun j hj=>?_⟩).symm
  ·have:=h3 g
   rw [List.getD_eq_getElem?_getD,List.getElem?_eq_getElem g] at this
   exact decide_eq_true this
  ·have:=h2 j hj
   rw [List.getD_eq_getElem?_getD,List.getElem?_eq_getElem (by omega)] at this
   exact decide_eq_false (by simpa using this)
 ·obtain rfl:i=l.length:=by omega
  refine (List.findIdx_eq_length.2 fun y hy=>?_).symm
  obtain ⟨j,hj,rfl⟩:=List.getElem_of_mem hy
  have:=h2 j hj
  rw [List.getD_eq_getElem?_getD,List.getElem?_eq_getElem hj] at this
  exact decide_eq_false (by simpa using this)
theorem bs_l {l:List Int} {x:Int} {m:Nat} (hu:Up l l.length) (hm:m<l.length) (h:l.getD m 0<x):∀ j,j<m+1→l.getD j 0<x:=fun j hj=>by
 rcases Nat.lt_or_ge j m with g | g
 ·have:=hu.lt g hm
  omega
 ·obtain rfl:j=m:=by omega
  exact h
theorem bs_r {l:List Int} {x:Int} {m:Nat} (hu:Up l l.length) (h:¬ l.getD m 0<x):∀ j,m≤j→j<l.length→x≤l.getD j 0:=fun j hj hl=>by
 rcases Nat.lt_or_ge m j with g | g
 ·have:=hu.lt g hl
  omega
 ·obtain rfl:j=m:=by omega
  omega
theorem c_Binary (w:World) (v:Value) (l:List Int) (x:Int) (hu:Up l l.length) (hs:l.length≤1000) (hR:RdF encI 1 w.heap.size w v l):RetE Tryz.prog 204 [v,.int .i64 x].toArray w (fun r=>∃ b:Bool,r=.tuple #[.int .i64 (fI l x:Int),.bool b]):=by
 refine RetE.of mixed tyTab Tryz.func204 rfl rfl ?_
 replace hR:RdF encI 1 (fnCx mixed tyTab Tryz.f204.ntmps w).B (fnCx mixed tyTab Tryz.f204.ntmps w).w0 v l:=hR
 have hle:=hR.sl.le
 refine W.sreg (WO.p rfl rfl (WO.p rfl rfl (WO.nil (W.sreg (WO.p rfl rfl (WO.len rfl rfl hR.sl rfl (WO.p rfl rfl (WO.nil (W.sreg (WO.p rfl rfl (WO.p rfl rfl (WO.p rfl rfl (WO.nil (W.seq (W.block ?_)))))))))))))))
 refine W.loop2 (fun (za:Int) (zb:Int)=>0≤za∧(za≤zb∧zb≤l.length)∧(∀ j:Nat,(j:Int)<za→l.getD j 0<x)∧∀ j:Nat,zb≤(j:Int)→j<l.length→x≤l.getD j 0)
  (fun (za:Int) (zb:Int)=>[(8,.int .i64 zb),(7,.int .i64 za),(6,.int .i64 (l.length:Int)),(1,.int .i64 x),(0,v)])
  (fun (za:Int) (zb:Int)=>[])
  (fun (za:Int) (zb:Int)=>(zb-za).toNat) 0 (l.length:Int)
  (by exact ⟨by omega,by omega,fun j hj=>by omega,fun j h1 h2=>by omega⟩) ⟨rfl,rfl,rfl,rfl,rfl,trivial⟩ (by repeat (first | exact Sub.nil | refine Sub.cons (by repeat first | exact .head | apply Pick.tail) ?_)) ?_
 rintro za zb ⟨hz0,hab,hlt,hge⟩
 refine W.seq (W.sreg (WO.p rfl rfl (WO.p rfl rfl (WO.p rfl rfl (WO.nil ?_)))))
 refine W.cond_bl rfl (fun c1=>?_) (fun c1=>?_)
 ·refine W.skip (W.block ?_)
  obtain ⟨a,rfl⟩:=Int.eq_ofNat_of_zero_le hz0
  obtain ⟨b,rfl⟩:=Int.eq_ofNat_of_zero_le (show 0≤zb by omega)
  refine W.sreg (WO.p rfl rfl (WO.p rfl rfl (WO.ar rfl rfl rfl (by unfold in64;omega) rfl (WO.convI (b:=((a+b:Nat):Int)) rfl rfl rfl (by rw [show (a:Int)+(b:Int)=((a+b:Nat):Int) by omega];exact wrap_nat (k:=.u64) (show a+b<2 ^ 64 by omega)) rfl (WO.shrN (a:=a+b) (s:=1) rfl rfl (by decide) rfl (WO.conv64 rfl rfl rfl (by unfold in64;rw [Nat.shiftRight_eq_div_pow];omega) rfl ?_))))))
  obtain ⟨m,hm⟩:∃ m,(a+b)>>>1=m:=⟨_,rfl⟩
  have hm2:m=(a+b)/2:=by rw [← hm,Nat.shiftRight_eq_div_pow]
  rw [hm]
  refine WO.p rfl rfl (WO.nil (W.sreg (WO.p rfl rfl (WO.p rfl rfl (WO.indexAddr rfl rfl rfl hR.sl (by omega) rfl ?_)))))
  refine' WO.load (v:=_) rfl rfl ?hc rfl ?_
  case hc=>(first | (refine hR.cell0 (i:=m) ?_ 0 ?_ <;> first | rfl | omega))
  refine WO.p rfl rfl (WO.callR rfl Tryz.call122 (fun L w hi=>c_Less w _ _) rfl (WO.nil ?_))
  refine W.cond_bl rfl (fun c2=>?_) (fun c2=>?_)
  ·refine W.region (WO.p rfl rfl (WO.ar rfl rfl rfl (by unfold in64;omega) rfl (WO.p rfl rfl (WO.nil ?_))))
   refine' ⟨_,_,?hp,?hmu,⟨rfl,rfl,rfl,rfl,rfl,trivial⟩,?hS⟩
   case hS=>repeat (first | exact Sub.nil | refine Sub.cons (by repeat first | exact .head | apply Pick.tail) ?_)
   case hp=>exact ⟨by omega,by omega,fun j hj=>bs_l hu (show m<l.length by omega) (by assumption) j (by omega),hge⟩
   case hmu=>omega
  ·refine W.region (WO.p rfl rfl (WO.p rfl rfl (WO.nil ?_)))
   refine' ⟨_,_,?hp,?hmu,⟨rfl,rfl,rfl,rfl,rfl,trivial⟩,?hS⟩
   case hS=>repeat (first | exact Sub.nil | refine Sub.cons (by repeat first | exact .head | apply Pick.tail) ?_)
   case hp=>exact ⟨by omega,by omega,hlt,fun j h1 h2=>bs_r (m:=m) hu (by assumption) j (by omega) h2⟩
   case hmu=>omega
 ·refine W.exit (blk_same ?_)
  obtain ⟨a,rfl⟩:=Int.eq_ofNat_of_zero_le hz0
  refine W.sreg (WO.p rfl rfl (WO.p rfl rfl (WO.p rfl rfl (WO.p rfl rfl (WO.p rfl rfl ?_)))))
  refine WO.guard_bl rfl rfl (fun c3=>?_) (fun c3=>?_)
  ·refine WO.pg rfl rfl rfl (WO.pg rfl rfl rfl (WO.go' rfl (WO.indexAddr rfl rfl rfl hR.sl (by omega) rfl (WO.go' rfl ?_))))
   refine' WO.load (v:=_) rfl rfl ?hc rfl ?_
   case hc=>(first | (refine hR.cell0 (i:=a) ?_ 0 ?_ <;> first | rfl | omega))
   refine WO.pg rfl rfl rfl (WO.pg rfl rfl rfl (WO.pg rfl rfl rfl ?_))
   refine WO.guard_bl rfl rfl (fun c4=>?_) (fun c4=>?_)
   ·refine WO.no rfl rfl (WO.no rfl rfl (WO.no rfl rfl (WO.no rfl rfl (WO.no rfl rfl (WO.no rfl rfl (WO.no rfl rfl (WO.no rfl rfl (WO.no rfl rfl (WO.pg rfl rfl rfl (WO.p rfl rfl (WO.p rfl rfl (WO.p rfl rfl (WO.nil (W.ret ?_))))))))))))))
    (have hai:=fI_eq (l:=l) (x:=x) (i:=a) (by omega) (fun j hj=>hlt j (by omega)) (fun h=>hge a (by omega) h);rw [← hai];exact fin.ret (Res.two rfl (RV.tmp rfl) (RV.tmp rfl)) ⟨_,rfl⟩)
   ·refine WO.pg rfl rfl rfl (WO.pg rfl rfl rfl (WO.go' rfl (WO.indexAddr rfl rfl rfl hR.sl (by omega) rfl (WO.go' rfl ?_))))
    refine' WO.load (v:=_) rfl rfl ?hc rfl ?_
    case hc=>(first | (refine hR.cell0 (i:=a) ?_ 0 ?_ <;> first | rfl | omega))
    refine WO.go' rfl (WO.callR rfl Tryz.call277 (fun L w hi=>c_isNaN2 w _) rfl (WO.pg rfl rfl rfl (WO.no rfl rfl (WO.no rfl rfl (WO.pg rfl rfl rfl (WO.pg rfl rfl rfl (WO.p rfl rfl (WO.p rfl rfl (WO.p rfl rfl (WO.nil (W.ret ?_)))))))))))
    (have hai:=fI_eq (l:=l) (x:=x) (i:=a) (by omega) (fun j hj=>hlt j (by omega)) (fun h=>hge a (by omega) h);rw [← hai];exact fin.ret (Res.two rfl (RV.tmp rfl) (RV.tmp rfl)) ⟨_,rfl⟩)
  ·refine WO.no rfl rfl (WO.no rfl rfl (WO.no rfl rfl (WO.no rfl rfl (WO.no rfl rfl (WO.no rfl rfl (WO.no rfl rfl (WO.no rfl rfl (WO.no rfl rfl (WO.no rfl rfl (WO.no rfl rfl (WO.no rfl rfl (WO.no rfl rfl (WO.no rfl rfl (WO.no rfl rfl (WO.no rfl rfl (WO.no rfl rfl (WO.p rfl rfl (WO.p rfl rfl (WO.p rfl rfl (WO.nil (W.ret ?_)))))))))))))))))))))
   (have hai:=fI_eq (l:=l) (x:=x) (i:=a) (by omega) (fun j hj=>hlt j (by omega)) (fun h=>hge a (by omega) h);rw [← hai];exact fin.ret (Res.two rfl (RV.tmp rfl) (RV.tmp rfl)) ⟨_,rfl⟩)
def nbI (l:List Int) (x:Int):Nat:=fI l x-1
def On (l:List Int) (x:Int):Prop:=l.getD 0 0≤x∧fI l x<l.length
instance (l:List Int) (x:Int):Decidable (On l x):=by unfold On;infer_instance
theorem fI_le (l:List Int) (x:Int):fI l x≤l.length:=List.findIdx_le_length
theorem c_neighbour (w:World) (v:Value) (l:List Int) (x:Int) (hu:Up l l.length) (h0:0<l.length) (hs:l.length≤1000) (hR:RdF encI 1 w.heap.size w v l):Ret Tryz.prog 121 [v,.int .i64 x].toArray w (.tuple #[.int .i64 (nbI l x:Int),.bool (bl (On l x))]):=by
 refine Ret.of mixed tyTab Tryz.func121 rfl rfl ?_
 replace hR:RdF encI 1 (fnCx mixed tyTab Tryz.f121.ntmps w).B (fnCx mixed tyTab Tryz.f121.ntmps w).w0 v l:=hR
 have hle:=hR.sl.le
 have hfl:=fI_le l x
 refine W.sreg (WO.p rfl rfl (WO.p rfl rfl (WO.nil (W.sreg (WO.p rfl rfl (WO.p rfl rfl (WO.callE rfl Tryz.call204 (fun L w hi=>c_Binary w v l x hu hs (hR.later hi)) rfl ?_)))))))
 rintro _ ⟨b,rfl⟩
 refine WO.p rfl rfl (WO.p rfl rfl (WO.p rfl rfl (WO.p rfl rfl (WO.p rfl rfl (WO.nil (W.sreg (WO.p rfl rfl (WO.ar rfl rfl rfl (by unfold in64;omega) rfl (WO.max2 rfl rfl rfl ?_)))))))))
 rw [show max 0 ((fI l x:Int)-1)=(nbI l x:Int) by unfold nbI;omega]
 refine WO.p rfl rfl (WO.p rfl rfl (WO.indexAddr (i:=0) rfl rfl rfl hR.sl (by omega) rfl ?_))
 refine' WO.load (v:=_) rfl rfl ?hc rfl ?_
 case hc=>(first | (refine hR.cell0 (i:=0) ?_ 0 ?_ <;> first | rfl | omega))
 refine WO.p rfl rfl (WO.p rfl rfl ?_)
 refine WO.guard_bl rfl rfl (fun c1=>?_) (fun c1=>?_)
 ·refine WO.pg rfl rfl rfl (WO.pg rfl rfl rfl (WO.go' rfl (WO.len rfl rfl hR.sl rfl (WO.pg rfl rfl rfl (WO.p rfl rfl (WO.p rfl rfl (WO.p rfl rfl (WO.nil (W.ret (fin.ret (Res.two rfl (RV.tmp rfl) (RV.tmp rfl)) ?_))))))))))
  (rw [show bl ((fI l x:Int)<(l.length:Int))=bl (On l x) by rw [bl_eq,bl_eq,decide_eq_decide];unfold On;omega];done)
 ·refine WO.no rfl rfl (WO.no rfl rfl (WO.no rfl rfl (WO.no rfl rfl (WO.p rfl rfl (WO.p rfl rfl (WO.p rfl rfl (WO.nil (W.ret (fin.ret (Res.two rfl (RV.tmp rfl) (RV.tmp rfl)) ?_)))))))))
  (rw [show bl (On l x)=false from bl_f.2 (fun h=>by unfold On at h;omega)];done)
end Go.Proofs.YtfchgmiiicidcaaGreat.Ch
namespace Go.Proofs.YtfchgmiiicidcaaGreat.Ch
open Go Go.TH
attribute [local irreducible] W WO pt
set_option maxRecDepth 10000
set_option maxHeartbeats 1000000
abbrev Rws:=List (List (Int × Int))
structure OkC (P A:List Int) (R:Rws):Prop where
 np:2≤P.length∧P.length≤8
 na:2≤A.length∧A.length≤10
 nr:R.length=P.length
 nc:∀ r∈R,r.length=A.length
 up:Ris P
 ua:Ris A
 rg:∀ r∈R,∀ x∈r,0≤x.1∧x.1≤x.2∧x.2≤100000
 fl:∀ r∈R,∀ k,k<r.length→0<k→(r.getD k (0,0)).1≤(r.getD (k-1) (0,0)).1∧(r.getD k (0,0)).2≤(r.getD (k-1) (0,0)).2
theorem OkC.row {P A:List Int} {R:Rws} (h:OkC P A R) {i:Nat} (hi:i<R.length):(R.getD i []).length=A.length:=h.nc _ (getD_mem hi [])
theorem OkC.at_ {P A:List Int} {R:Rws} (h:OkC P A R) {i k:Nat} (hi:i<R.length) (hk:k<(R.getD i []).length):0≤((R.getD i []).getD k (0,0)).1∧((R.getD i []).getD k (0,0)).1≤((R.getD i []).getD k (0,0)).2∧((R.getD i []).getD k (0,0)).2≤100000:=h.rg _ (getD_mem hi []) _ (getD_mem hk (0,0))
theorem OkC.fall {P A:List Int} {R:Rws} (h:OkC P A R) {i k:Nat} (hi:i<R.length) (hk:k+1<(R.getD i []).length):((R.getD i []).getD (k+1) (0,0)).1≤((R.getD i []).getD k (0,0)).1∧((R.getD i []).getD (k+1) (0,0)).2≤((R.getD i []).getD k (0,0)).2:=h.fl _ (getD_mem hi []) (k+1) hk (by omega)
theorem all3 {a b c t:Int} (h1:0≤a∧a≤t) (h2:0≤b∧b≤t) (h3:0≤c∧c≤t):∀ x∈[a,b,c],0≤x∧x≤t:=by simp;omega
theorem c_row1 (w:World) (u vp va o:Value) (p:Addr) (r:List (Int × Int)) (A:List Int) (hr:RdF encP 2 w.heap.size w u r) (hC:RdC w.heap.size w p [vp,va,o]) (hA:RdF encI 1 w.heap.size w va A):Ret Tryz.prog 134 [u,.pointer (some p)].toArray w (.bool (bl ((r.length:Int)≠(A.length:Int)))):=by
 refine Ret.of mixed tyTab Tryz.func134 rfl rfl ?_
 replace hr:RdF encP 2 (fnCx mixed tyTab Tryz.f134.ntmps w).B (fnCx mixed tyTab Tryz.f134.ntmps w).w0 u r:=hr
 replace hA:RdF encI 1 (fnCx mixed tyTab Tryz.f134.ntmps w).B (fnCx mixed tyTab Tryz.f134.ntmps w).w0 va A:=hA
 replace hC:RdC (fnCx mixed tyTab Tryz.f134.ntmps w).B (fnCx mixed tyTab Tryz.f134.ntmps w).w0 p [vp,va,o]:=hC
 have hle:=hr.sl.le
 have hla:=hA.sl.le
 refine W.sreg (WO.p rfl rfl (WO.nil (W.sreg (WO.p rfl rfl (WO.len rfl rfl hr.sl rfl (WO.field rfl rfl rfl ?_))))))
 refine' WO.load (v:=_) rfl rfl ?hc rfl ?_
 case hc=>((refine hC.cellAt ?_;rfl))
 refine WO.len rfl rfl hA.sl rfl (WO.p rfl rfl (WO.p rfl rfl (WO.nil (W.ret ?_))))
 exact fin.ret (Res.one rfl (RV.tmp rfl)) rfl
theorem c_IndexR (w:World) (vp va o:Value) (p:Addr) (rv:List Value) (P A:List Int) (R:Rws) (hc:OkC P A R) (hR:RdR encP 2 w.heap.size w o rv R) (hC:RdC w.heap.size w p [vp,va,o]) (hA:RdF encI 1 w.heap.size w va A):Ret Tryz.prog 209 [o,.func (.func 134) #[] #[.pointer (some p)]].toArray w (.int .i64 (-1)):=by
 refine Ret.of mixed tyTab Tryz.func209 rfl rfl ?_
 replace hR:RdR encP 2 (fnCx mixed tyTab Tryz.f209.ntmps w).B (fnCx mixed tyTab Tryz.f209.ntmps w).w0 o rv R:=hR
 replace hA:RdF encI 1 (fnCx mixed tyTab Tryz.f209.ntmps w).B (fnCx mixed tyTab Tryz.f209.ntmps w).w0 va A:=hA
 replace hC:RdC (fnCx mixed tyTab Tryz.f209.ntmps w).B (fnCx mixed tyTab Tryz.f209.ntmps w).w0 p [vp,va,o]:=hC
 have hle:=hR.sl.le
 have hla:=hA.sl.le
 refine W.sreg (WO.p rfl rfl (WO.nil (W.seq (W.sreg (WO.p rfl rfl (WO.len rfl rfl hR.sl rfl (WO.p rfl rfl (WO.nil (W.block ?_)))))))))
 refine W.loop (fun (i:Nat)=>i≤R.length)
  (fun (i:Nat)=>[(8,.int .i64 (i:Int)),(7,.int .i64 (R.length:Int)),(0,o),(1,.func (.func 134) #[] #[.pointer (some p)])])
  (fun (i:Nat)=>[])
  (fun (i:Nat)=>R.length-i) 0
  (by omega) ⟨rfl,rfl,rfl,rfl,trivial⟩ (by repeat (first | exact Sub.nil | refine Sub.cons (by repeat first | exact .head | apply Pick.tail) ?_)) ?_
 rintro i hi0
 refine W.sreg (WO.p rfl rfl (WO.nil (W.seq ?_)))
 refine W.cond_bl rfl (fun c1=>?_) (fun c1=>?_)
 ·refine W.skip (W.seq (W.block (W.sreg (WO.p rfl rfl (WO.p rfl rfl (WO.nil (W.sreg (WO.p rfl rfl (WO.p rfl rfl (WO.p rfl rfl (WO.indexAddr rfl rfl rfl hR.sl (by omega) rfl ?_)))))))))))
  refine' WO.load (v:=_) rfl rfl ?hc rfl ?_
  case hc=>((refine hR.cellV ?_;omega))
  refine WO.callCR (r:=.bool false) (first:=[]) (captured:=[.pointer (some p)]) rfl rfl Tryz.call134 (fun L w hi'=>by have h:=c_row1 w _ vp va o p (R.getD i []) A ((hR.later hi').row i (by omega)) (hC.later hi') (hA.later hi');rw [bl_f.2 (by rw [hc.row (by omega)];exact fun h=>h rfl)] at h;exact h) rfl (WO.nil (W.cond_f rfl (W.skip (W.region (WO.ar rfl rfl rfl (by unfold in64;omega) rfl (WO.p rfl rfl (WO.nil ?_)))))))
  refine' ⟨i+1,?hp,?hmu,⟨rfl,rfl,rfl,rfl,trivial⟩,?hS⟩
  case hS=>repeat (first | exact Sub.nil | refine Sub.cons (by repeat first | exact .head | apply Pick.tail) ?_)
  case hp=>omega
  case hmu=>omega
 ·refine W.exit (blk_same (W.sreg (WO.p rfl rfl (WO.nil (W.ret ?_)))))
  exact fin.ret (Res.one rfl (RV.tmp rfl)) rfl
theorem c_ContR (w:World) (vp va o:Value) (p:Addr) (rv:List Value) (P A:List Int) (R:Rws) (hc:OkC P A R) (hR:RdR encP 2 w.heap.size w o rv R) (hC:RdC w.heap.size w p [vp,va,o]) (hA:RdF encI 1 w.heap.size w va A):Ret Tryz.prog 133 [o,.func (.func 134) #[] #[.pointer (some p)]].toArray w (.bool false):=by
 refine Ret.of mixed tyTab Tryz.func133 rfl rfl ?_
 replace hR:RdR encP 2 (fnCx mixed tyTab Tryz.f133.ntmps w).B (fnCx mixed tyTab Tryz.f133.ntmps w).w0 o rv R:=hR
 replace hA:RdF encI 1 (fnCx mixed tyTab Tryz.f133.ntmps w).B (fnCx mixed tyTab Tryz.f133.ntmps w).w0 va A:=hA
 replace hC:RdC (fnCx mixed tyTab Tryz.f133.ntmps w).B (fnCx mixed tyTab Tryz.f133.ntmps w).w0 p [vp,va,o]:=hC
 refine W.sreg (WO.p rfl rfl (WO.nil (W.sreg (WO.p rfl rfl (WO.p rfl rfl (WO.callR rfl Tryz.call209 (fun L w hi=>c_IndexR w vp va o p rv P A R hc (hR.later hi) (hC.later hi) (hA.later hi)) rfl (WO.p rfl rfl (WO.p rfl rfl (WO.nil (W.ret ?_))))))))))
 exact fin.ret (Res.one rfl (RV.tmp rfl)) (congrArg Value.bool (bl_f.2 (by omega)))
theorem c_CheckChart (w:World) (vp va o:Value) (rv:List Value) (P A:List Int) (R:Rws) (hc:OkC P A R) (hP:RdF encI 1 w.heap.size w vp P) (hA:RdF encI 1 w.heap.size w va A) (hR:RdR encP 2 w.heap.size w o rv R):Ret Tryz.prog 70 [.agg #[vp,va,o]].toArray w (.int .i64 0):=by
 refine Ret.of mixed tyTab Tryz.func70 rfl rfl ?_
 replace hR:RdR encP 2 (fnCx mixed tyTab Tryz.f70.ntmps w).B (fnCx mixed tyTab Tryz.f70.ntmps w).w0 o rv R:=hR
 replace hP:RdF encI 1 (fnCx mixed tyTab Tryz.f70.ntmps w).B (fnCx mixed tyTab Tryz.f70.ntmps w).w0 vp P:=hP
 replace hA:RdF encI 1 (fnCx mixed tyTab Tryz.f70.ntmps w).B (fnCx mixed tyTab Tryz.f70.ntmps w).w0 va A:=hA
 have hle:=hR.sl.le
 have hnp:=hc.np
 have hna:=hc.na
 have hnr:=hc.nr
 refine W.sreg (WO.boxA rfl rfl (fun b1 hb1=>(WO.p rfl rfl (WO.nil (W.seq (W.block (W.sreg (WO.field0 rfl rfl rfl (WO.load rfl rfl (Cell.own Pick.head rfl) rfl (WO.len rfl rfl hP.sl rfl (WO.p rfl rfl (WO.p rfl rfl ?_))))))))))))
 refine WO.guard_bl rfl rfl (fun c1=>?_) (fun c1=>?_)
 ·exfalso;omega
 ·refine WO.go' rfl (WO.field0 rfl rfl rfl (WO.go' rfl (WO.load rfl rfl (Cell.own Pick.head rfl) rfl (WO.go' rfl (WO.len rfl rfl hP.sl rfl (WO.pg rfl rfl rfl (WO.p rfl rfl (WO.p rfl rfl ?_))))))))
  refine WO.guard_bl rfl rfl (fun c2=>?_) (fun c2=>?_)
  ·exfalso;omega
  ·refine WO.go' rfl (WO.fieldL rfl rfl rfl (WO.go' rfl (WO.load rfl rfl (Cell.own Pick.head rfl) rfl (WO.go' rfl (WO.len rfl rfl hA.sl rfl (WO.pg rfl rfl rfl (WO.p rfl rfl (WO.p rfl rfl ?_))))))))
   refine WO.guard_bl rfl rfl (fun c3=>?_) (fun c3=>?_)
   ·exfalso;omega
   ·refine WO.go' rfl (WO.fieldL rfl rfl rfl (WO.go' rfl (WO.load rfl rfl (Cell.own Pick.head rfl) rfl (WO.go' rfl (WO.len rfl rfl hA.sl rfl (WO.pg rfl rfl rfl (WO.p rfl rfl (WO.p rfl rfl (WO.nil ?_)))))))))
    refine W.cond_bl rfl (fun c4=>?_) (fun c4=>?_)
    ·exfalso;omega
    ·refine W.sreg (WO.fieldL rfl rfl rfl (WO.load rfl rfl (Cell.own Pick.head rfl) rfl (WO.len rfl rfl hR.sl rfl (WO.field0 rfl rfl rfl (WO.load rfl rfl (Cell.own Pick.head rfl) rfl (WO.len rfl rfl hP.sl rfl (WO.p rfl rfl (WO.p rfl rfl ?_))))))))
     refine WO.guard_bl rfl rfl (fun c5=>?_) (fun c5=>?_)
     ·exfalso;omega
     ·refine WO.go' rfl (WO.fieldL rfl rfl rfl (WO.go' rfl (WO.load rfl rfl (Cell.own Pick.head rfl) rfl (WO.pg rfl rfl rfl (WO.go' rfl (WO.callR rfl Tryz.call133 (fun L w hi=>c_ContR w vp va o ⟨b1,0,none⟩ rv P A R hc (hR.later hi) (RdC.own (by repeat exact .head) hi) (hA.later hi)) rfl (WO.p rfl rfl (WO.p rfl rfl (WO.nil (W.cond_f rfl (W.sreg (WO.field0 rfl rfl rfl (WO.load rfl rfl (Cell.own Pick.head rfl) rfl (WO.callR (r:=.bool true) rfl Tryz.call135 (fun L w hi=>by have h:=c_rising w vp P (hP.later hi);rw [bl_t.2 hc.up] at h;exact h) rfl ?_))))))))))))))
      refine WO.p rfl rfl (WO.p rfl rfl (WO.go' rfl (WO.fieldL rfl rfl rfl (WO.go' rfl (WO.load rfl rfl (Cell.own Pick.head rfl) rfl (WO.go' rfl (WO.callR (r:=.bool true) rfl Tryz.call135 (fun L w hi=>by have h:=c_rising w va A (hA.later hi);rw [bl_t.2 hc.ua] at h;exact h) rfl (WO.pg rfl rfl rfl (WO.p rfl rfl (WO.p rfl rfl (WO.nil (W.cond_f rfl (W.skip (W.sreg (WO.p rfl rfl (WO.nil (W.seq (W.sreg (WO.fieldL rfl rfl rfl (WO.load rfl rfl (Cell.own Pick.head rfl) rfl (WO.len rfl rfl hR.sl rfl (WO.p rfl rfl (WO.nil (W.block ?_))))))))))))))))))))))))
      refine W.loop (fun (i:Nat)=>i≤R.length)
       (fun (i:Nat)=>[(60,.int .i64 (i:Int)),(59,.int .i64 (R.length:Int)),(58,o),(3,.bool true),(1,.pointer (some ⟨b1,0,none⟩))])
       (fun (i:Nat)=>[pt b1 (.cells #[vp,va,o] 25 (0,0))])
       (fun (i:Nat)=>R.length-i) 0
       (by omega) ⟨rfl,rfl,rfl,rfl,rfl,trivial⟩ (by repeat (first | exact Sub.nil | refine Sub.cons (by repeat exact .head) ?_)) ?_
      rintro i hi0
      refine W.sreg (WO.p rfl rfl (WO.nil (W.seq ?_)))
      refine W.cond_bl rfl (fun c6=>?_) (fun c6=>?_)
      ·refine W.skip (W.seq (W.block (W.sreg (WO.indexAddr rfl rfl rfl hR.sl (by omega) rfl ?_))))
       refine' WO.load (v:=_) rfl rfl ?hc rfl ?_
       case hc=>((refine hR.cellV ?_;omega))
       refine WO.p rfl rfl (WO.nil (W.sreg (WO.build rfl rfl rfl rfl rfl (WO.alloc rfl rfl rfl (fun b2 hb2=>(WO.storeA rfl rfl rfl rfl Pick.head rfl rfl (WO.nil (W.sreg (WO.p rfl rfl ?_)))))))))
       refine' WO.len (n:=_) rfl rfl ?hs rfl ?_
       case hs=>((refine (hR.row i ?_).sl;omega))
       refine WO.p rfl rfl (WO.nil (W.block ?_))
       refine W.loop3 (fun (k:Nat) (y:Int) (z:Int)=>k≤(R.getD i []).length∧(k<(R.getD i []).length→((R.getD i []).getD k (0,0)).1≤y∧((R.getD i []).getD k (0,0)).2≤z))
        (fun (k:Nat) (y:Int) (z:Int)=>[(67,.int .i64 (k:Int)),(66,.int .i64 ((R.getD i []).length:Int)),(65,rv.getD i undef),(60,.int .i64 (i:Int)),(59,.int .i64 (R.length:Int)),(58,o),(6,.pointer (some ⟨b2,0,none⟩)),(3,.bool true),(1,.pointer (some ⟨b1,0,none⟩))])
        (fun (k:Nat) (y:Int) (z:Int)=>[pt b2 (.cells #[.int .i64 y,.int .i64 z] 30 (0,0)),pt b1 (.cells #[vp,va,o] 25 (0,0))])
        (fun (k:Nat) (y:Int) (z:Int)=>(R.getD i []).length-k) 0 100000 100000
        (by exact ⟨by omega,fun hk=>by have:=hc.at_ (show i<R.length by omega) hk;omega⟩) ⟨rfl,rfl,rfl,rfl,rfl,rfl,rfl,rfl,rfl,trivial⟩ (by repeat (first | exact Sub.nil | refine Sub.cons (by repeat exact .head) ?_)) ?_
       rintro k y z ⟨hk0,hyz⟩
       refine W.sreg (WO.p rfl rfl (WO.nil (W.seq ?_)))
       refine W.cond_bl rfl (fun c7=>?_) (fun c7=>?_)
       ·refine W.skip (W.seq (W.block (W.sreg ?_)))
        refine' WO.indexAddr (n:=_) (i:=_) rfl rfl rfl ?hs ?h1 rfl ?_
        case hs=>((refine (hR.row i ?_).sl;omega))
        case h1=>(omega)
        refine' WO.loadA (vs:=_) rfl rfl ?hc ?hl rfl ?_
        case hc=>((refine (hR.row i ?_).cells ?_ (0,0) <;> omega))
        case hl=>rfl
        refine WO.alloc rfl rfl rfl (fun b3 hb3=>(WO.storeA rfl rfl rfl rfl Pick.head rfl rfl (WO.nil (W.seq ?_))))
        have hrw:=hc.row (show i<R.length by omega)
        have hx:=hc.at_ (show i<R.length by omega) (show k<(R.getD i []).length by omega)
        refine W.sreg (WO.field0 rfl rfl rfl (WO.load rfl rfl (Cell.own Pick.head rfl) rfl (WO.fieldL rfl rfl rfl (WO.load rfl rfl (Cell.own Pick.head rfl) rfl (WO.fieldL rfl rfl rfl (WO.load rfl rfl (Cell.own Pick.head rfl) rfl (WO.field0 rfl rfl rfl (WO.load rfl rfl (Cell.own Pick.head rfl) rfl (WO.ar rfl rfl rfl (by unfold in64;omega) rfl (WO.buildSl rfl rfl rfl rfl rfl rfl rfl rfl rfl (fun v4=>?_)))))))))))
        refine WO.callR (r:=.bool true) rfl Tryz.call120 (fun L w hi=>by have h:=c_within w _ [((R.getD i []).getD k (0,0)).1,((R.getD i []).getD k (0,0)).2,((R.getD i []).getD k (0,0)).2-((R.getD i []).getD k (0,0)).1] 100000 (RdF.of_ow (e:=2) encI_ok (by repeat exact .head) hi);rw [bl_t.2 (all3 (by omega) (by omega) (by omega))] at h;exact h) rfl (WO.p rfl rfl (WO.nil (W.cond_f rfl (W.skip (W.sreg ?_)))))
        refine WO.p rfl rfl (WO.p rfl rfl (WO.go' rfl (WO.field0 rfl rfl rfl (WO.go' rfl (WO.load rfl rfl (Cell.own (Pick.tail (Pick.head)) rfl) rfl (WO.go' rfl (WO.field0 rfl rfl rfl (WO.go' rfl (WO.load rfl rfl (Cell.own (Pick.tail (Pick.tail (Pick.head))) rfl) rfl (WO.go' rfl (WO.leqT rfl rfl (by omega) rfl (WO.p rfl rfl (WO.p rfl rfl (WO.go' rfl (WO.fieldL rfl rfl rfl (WO.go' rfl (WO.load rfl rfl (Cell.own (Pick.tail (Pick.head)) rfl) rfl (WO.go' rfl (WO.fieldL rfl rfl rfl (WO.go' rfl (WO.load rfl rfl (Cell.own (Pick.tail (Pick.tail (Pick.head))) rfl) rfl (WO.go' rfl (WO.leqT rfl rfl (by omega) rfl (WO.p rfl rfl (WO.p rfl rfl (WO.nil ?_))))))))))))))))))))))))))
        refine W.region (WO.loadA rfl rfl (Cells.own (Pick.tail (Pick.head))) rfl rfl (WO.storeA rfl rfl rfl rfl (Pick.tail (Pick.tail (Pick.head))) rfl rfl (WO.nil (W.region (WO.ar rfl rfl rfl (by unfold in64;omega) rfl (WO.p rfl rfl (WO.nil ?_)))))))
        refine' ⟨k+1,_,_,?hp,?hmu,⟨rfl,rfl,rfl,rfl,rfl,rfl,rfl,rfl,rfl,trivial⟩,?hS⟩
        case hS=>repeat (first | exact Sub.nil | refine Sub.cons (by repeat first | exact .head | apply Pick.tail) ?_)
        case hp=>exact ⟨by omega,fun hk=>hc.fall (show i<R.length by omega) hk⟩
        case hmu=>omega
       ·refine W.exit (blk_same (W.region (WO.ar rfl rfl rfl (by unfold in64;omega) rfl (WO.p rfl rfl (WO.nil ?_)))))
        refine' ⟨i+1,?hp,?hmu,⟨rfl,rfl,rfl,rfl,rfl,trivial⟩,?hS⟩
        case hS=>repeat (first | exact Sub.nil | refine Sub.cons (by repeat first | exact .head | apply Pick.tail) ?_)
        case hp=>omega
        case hmu=>omega
      ·refine W.exit (blk_same (W.seq (W.sreg (WO.p rfl rfl (WO.p rfl rfl (WO.nil (W.cond_f rfl (W.skip (W.sreg (WO.p rfl rfl (WO.nil (W.ret ?_))))))))))))
       exact fin.ret (Res.one rfl (RV.tmp rfl)) rfl
end Go.Proofs.YtfchgmiiicidcaaGreat.Ch
namespace Go.Proofs.YtfchgmiiicidcaaGreat.Ch
open Go Go.TH
attribute [local irreducible] W WO pt
set_option maxRecDepth 10000
set_option maxHeartbeats 1000000
theorem c_on1 (w:World) (vp va o:Value) (q:Addr) (P A:List Int) (R:Rws) (x:Int × Int) (hc:OkC P A R) (hx:On P x.1∧On A x.2) (hC:RdC w.heap.size w q [vp,va,o]) (hP:RdF encI 1 w.heap.size w vp P) (hA:RdF encI 1 w.heap.size w va A):Ret Tryz.prog 137 [.agg #[.int .i64 x.1,.int .i64 x.2],.pointer (some q)].toArray w (.bool false):=by
 refine Ret.of mixed tyTab Tryz.func137 rfl rfl ?_
 replace hP:RdF encI 1 (fnCx mixed tyTab Tryz.f137.ntmps w).B (fnCx mixed tyTab Tryz.f137.ntmps w).w0 vp P:=hP
 replace hA:RdF encI 1 (fnCx mixed tyTab Tryz.f137.ntmps w).B (fnCx mixed tyTab Tryz.f137.ntmps w).w0 va A:=hA
 replace hC:RdC (fnCx mixed tyTab Tryz.f137.ntmps w).B (fnCx mixed tyTab Tryz.f137.ntmps w).w0 q [vp,va,o]:=hC
 have hnp:=hc.np
 have hna:=hc.na
 refine W.sreg (WO.boxA rfl rfl (fun b1 hb1=>(WO.p rfl rfl (WO.nil (W.sreg (WO.field0 rfl rfl rfl (WO.field0 rfl rfl rfl ?_)))))))
 refine' WO.load (v:=_) rfl rfl ?hc rfl ?_
 case hc=>(first | (refine hC.cell0 ?_;rfl))
 refine WO.field0 rfl rfl rfl (WO.load rfl rfl (Cell.own Pick.head rfl) rfl (WO.callR (r:=.tuple #[.int .i64 (nbI P x.1:Int),.bool true]) rfl Tryz.call121 (fun L w hi=>by have h:=c_neighbour w vp P x.1 hc.up.1 (by omega) (by omega) (hP.later hi);rw [bl_t.2 hx.1] at h;exact h) rfl (WO.p rfl rfl (WO.p rfl rfl (WO.p rfl rfl (WO.p rfl rfl (WO.p rfl rfl (WO.nil (W.sreg (WO.field0 rfl rfl rfl (WO.field rfl rfl rfl ?_)))))))))))
 refine' WO.load (v:=_) rfl rfl ?hc rfl ?_
 case hc=>(first | (refine hC.cellAt ?_;rfl))
 refine WO.fieldL rfl rfl rfl (WO.load rfl rfl (Cell.own Pick.head rfl) rfl (WO.callR (r:=.tuple #[.int .i64 (nbI A x.2:Int),.bool true]) rfl Tryz.call121 (fun L w hi=>by have h:=c_neighbour w va A x.2 hc.ua.1 (by omega) (by omega) (hA.later hi);rw [bl_t.2 hx.2] at h;exact h) rfl (WO.p rfl rfl (WO.p rfl rfl (WO.p rfl rfl (WO.p rfl rfl (WO.p rfl rfl (WO.nil (W.sreg (WO.p rfl rfl (WO.p rfl rfl (WO.p rfl rfl (WO.pg rfl rfl rfl (WO.pg rfl rfl rfl (WO.p rfl rfl (WO.p rfl rfl (WO.nil (W.ret ?_))))))))))))))))))
 exact fin.ret (Res.one rfl (RV.tmp rfl)) rfl
theorem c_IndexP (w:World) (v vp va o:Value) (q:Addr) (P A:List Int) (R:Rws) (l:List (Int × Int)) (hc:OkC P A R) (hx:∀ x∈l,On P x.1∧On A x.2) (hl:RdF encP 2 w.heap.size w v l) (hC:RdC w.heap.size w q [vp,va,o]) (hP:RdF encI 1 w.heap.size w vp P) (hA:RdF encI 1 w.heap.size w va A):Ret Tryz.prog 210 [v,.func (.func 137) #[] #[.pointer (some q)]].toArray w (.int .i64 (-1)):=by
 refine Ret.of mixed tyTab Tryz.func210 rfl rfl ?_
 replace hl:RdF encP 2 (fnCx mixed tyTab Tryz.f210.ntmps w).B (fnCx mixed tyTab Tryz.f210.ntmps w).w0 v l:=hl
 replace hP:RdF encI 1 (fnCx mixed tyTab Tryz.f210.ntmps w).B (fnCx mixed tyTab Tryz.f210.ntmps w).w0 vp P:=hP
 replace hA:RdF encI 1 (fnCx mixed tyTab Tryz.f210.ntmps w).B (fnCx mixed tyTab Tryz.f210.ntmps w).w0 va A:=hA
 replace hC:RdC (fnCx mixed tyTab Tryz.f210.ntmps w).B (fnCx mixed tyTab Tryz.f210.ntmps w).w0 q [vp,va,o]:=hC
 have hle:=hl.sl.le
 refine W.sreg (WO.p rfl rfl (WO.nil (W.seq (W.sreg (WO.p rfl rfl (WO.len rfl rfl hl.sl rfl (WO.p rfl rfl (WO.nil (W.block ?_)))))))))
 refine W.loop (fun (i:Nat)=>i≤l.length)
  (fun (i:Nat)=>[(8,.int .i64 (i:Int)),(7,.int .i64 (l.length:Int)),(0,v),(1,.func (.func 137) #[] #[.pointer (some q)])])
  (fun (i:Nat)=>[])
  (fun (i:Nat)=>l.length-i) 0
  (by omega) ⟨rfl,rfl,rfl,rfl,trivial⟩ (by repeat (first | exact Sub.nil | refine Sub.cons (by repeat first | exact .head | apply Pick.tail) ?_)) ?_
 rintro i hi0
 refine W.sreg (WO.p rfl rfl (WO.nil (W.seq ?_)))
 refine W.cond_bl rfl (fun c1=>?_) (fun c1=>?_)
 ·refine W.skip (W.seq (W.block (W.sreg (WO.p rfl rfl (WO.p rfl rfl (WO.nil (W.sreg (WO.p rfl rfl (WO.p rfl rfl (WO.p rfl rfl (WO.indexAddr rfl rfl rfl hl.sl (by omega) rfl (WO.loadA rfl rfl ((RdF.cells hl (i:=i) (by omega) (0,0):Cells _ _ (elt v i 2) [.int .i64 (l.getD i (0,0)).1,.int .i64 (l.getD i (0,0)).2])) rfl rfl (WO.callCR (r:=.bool false) (first:=[]) (captured:=[.pointer (some q)]) rfl rfl Tryz.call137 (fun L w hi'=>c_on1 w vp va o q P A R (l.getD i (0,0)) hc (hx _ (getD_mem (by omega) (0,0))) (hC.later hi') (hP.later hi') (hA.later hi')) rfl (WO.nil (W.cond_f rfl (W.skip (W.region ?_)))))))))))))))))
  refine WO.ar rfl rfl rfl (by unfold in64;omega) rfl (WO.p rfl rfl (WO.nil ?_))
  refine' ⟨i+1,?hp,?hmu,⟨rfl,rfl,rfl,rfl,trivial⟩,?hS⟩
  case hS=>repeat (first | exact Sub.nil | refine Sub.cons (by repeat first | exact .head | apply Pick.tail) ?_)
  case hp=>omega
  case hmu=>omega
 ·refine W.exit (blk_same (W.sreg (WO.p rfl rfl (WO.nil (W.ret ?_)))))
  exact fin.ret (Res.one rfl (RV.tmp rfl)) rfl
theorem c_ContP (w:World) (v vp va o:Value) (q:Addr) (P A:List Int) (R:Rws) (l:List (Int × Int)) (hc:OkC P A R) (hx:∀ x∈l,On P x.1∧On A x.2) (hl:RdF encP 2 w.heap.size w v l) (hC:RdC w.heap.size w q [vp,va,o]) (hP:RdF encI 1 w.heap.size w vp P) (hA:RdF encI 1 w.heap.size w va A):Ret Tryz.prog 136 [v,.func (.func 137) #[] #[.pointer (some q)]].toArray w (.bool false):=by
 refine Ret.of mixed tyTab Tryz.func136 rfl rfl ?_
 replace hl:RdF encP 2 (fnCx mixed tyTab Tryz.f136.ntmps w).B (fnCx mixed tyTab Tryz.f136.ntmps w).w0 v l:=hl
 replace hP:RdF encI 1 (fnCx mixed tyTab Tryz.f136.ntmps w).B (fnCx mixed tyTab Tryz.f136.ntmps w).w0 vp P:=hP
 replace hA:RdF encI 1 (fnCx mixed tyTab Tryz.f136.ntmps w).B (fnCx mixed tyTab Tryz.f136.ntmps w).w0 va A:=hA
 replace hC:RdC (fnCx mixed tyTab Tryz.f136.ntmps w).B (fnCx mixed tyTab Tryz.f136.ntmps w).w0 q [vp,va,o]:=hC
 refine W.sreg (WO.p rfl rfl (WO.nil (W.sreg (WO.p rfl rfl (WO.p rfl rfl (WO.callR rfl Tryz.call210 (fun L w hi=>c_IndexP w v vp va o q P A R l hc hx (hl.later hi) (hC.later hi) (hP.later hi) (hA.later hi)) rfl (WO.p rfl rfl (WO.p rfl rfl (WO.nil (W.ret ?_))))))))))
 exact fin.ret (Res.one rfl (RV.tmp rfl)) (congrArg Value.bool (bl_f.2 (by omega)))
theorem c_on (w:World) (v vp va o:Value) (P A:List Int) (R:Rws) (l:List (Int × Int)) (hc:OkC P A R) (ho:o.oneCell'=true) (hx:∀ x∈l,On P x.1∧On A x.2) (hl:RdF encP 2 w.heap.size w v l) (hP:RdF encI 1 w.heap.size w vp P) (hA:RdF encI 1 w.heap.size w va A):Ret Tryz.prog 71 [.agg #[vp,va,o],v].toArray w (.bool true):=by
 refine Ret.of mixed tyTab Tryz.func71 rfl rfl ?_
 replace hl:RdF encP 2 (fnCx mixed tyTab Tryz.f71.ntmps w).B (fnCx mixed tyTab Tryz.f71.ntmps w).w0 v l:=hl
 replace hP:RdF encI 1 (fnCx mixed tyTab Tryz.f71.ntmps w).B (fnCx mixed tyTab Tryz.f71.ntmps w).w0 vp P:=hP
 replace hA:RdF encI 1 (fnCx mixed tyTab Tryz.f71.ntmps w).B (fnCx mixed tyTab Tryz.f71.ntmps w).w0 va A:=hA
 have hop:=hP.sl.oc
 have hoa:=hA.sl.oc
 refine W.sreg (WO.boxA rfl rfl (fun b1 hb1=>(WO.p rfl rfl (WO.nil (W.sreg (WO.p rfl rfl (WO.p rfl rfl (WO.callR (r:=.bool false) rfl Tryz.call136 (fun L w hi=>c_ContP w v vp va o ⟨b1,0,none⟩ P A R l hc hx (hl.later hi) (RdC.own (by repeat exact .head) hi) (hP.later hi) (hA.later hi)) rfl (WO.p rfl rfl (WO.p rfl rfl (WO.nil (W.ret ?_))))))))))))
 exact fin.ret (Res.one rfl (RV.tmp rfl)) rfl
end Go.Proofs.YtfchgmiiicidcaaGreat.Ch
namespace Go.Proofs.YtfchgmiiicidcaaGreat.Ch
open Go Go.TH
attribute [local irreducible] W WO pt
set_option maxRecDepth 10000
set_option maxHeartbeats 1000000
structure OkTr (R:Rws) (T:List (List Int)):Prop where
 n:T.length=R.length
 m:∀ i,i<R.length→(T.getD i []).length=(R.getD i []).length
 v:∀ i,i<R.length→∀ k,k<(R.getD i []).length→((R.getD i []).getD k (0,0)).1≤(T.getD i []).getD k 0∧(T.getD i []).getD k 0≤((R.getD i []).getD k (0,0)).2
theorem oc3 {a b c:Value} (h1:a.oneCell'=true) (h2:b.oneCell'=true) (h3:c.oneCell'=true):([a,b,c].all fun x=>x.oneCell')=true:=by simp [h1,h2,h3]
theorem c_newSheet (w:World) (v vp va o:Value) (rv:List Value) (P A:List Int) (R:Rws) (l:List (Int × Int)) (hc:OkC P A R) (hx:∀ x∈l,On P x.1∧On A x.2) (hl:RdF encP 2 w.heap.size w v l) (hP:RdF encI 1 w.heap.size w vp P) (hA:RdF encI 1 w.heap.size w va A) (hR:RdR encP 2 w.heap.size w o rv R):Ret Tryz.prog 35 [.agg #[vp,va,o],v].toArray w (.tuple #[.agg #[vp,va,o],.int .i64 0]):=by
 refine Ret.of mixed tyTab Tryz.func35 rfl rfl ?_
 replace hR:RdR encP 2 (fnCx mixed tyTab Tryz.f35.ntmps w).B (fnCx mixed tyTab Tryz.f35.ntmps w).w0 o rv R:=hR
 replace hl:RdF encP 2 (fnCx mixed tyTab Tryz.f35.ntmps w).B (fnCx mixed tyTab Tryz.f35.ntmps w).w0 v l:=hl
 replace hP:RdF encI 1 (fnCx mixed tyTab Tryz.f35.ntmps w).B (fnCx mixed tyTab Tryz.f35.ntmps w).w0 vp P:=hP
 replace hA:RdF encI 1 (fnCx mixed tyTab Tryz.f35.ntmps w).B (fnCx mixed tyTab Tryz.f35.ntmps w).w0 va A:=hA
 have hop:=hP.sl.oc
 have hoa:=hA.sl.oc
 have hoo:=hR.sl.oc
 refine W.sreg (WO.boxA rfl rfl (fun b1 hb1=>(WO.alloc rfl rfl rfl (fun b2 hb2=>(WO.p rfl rfl (WO.nil (W.sreg (WO.loadA rfl rfl (Cells.own (Pick.tail (Pick.head))) rfl rfl (WO.build rfl rfl rfl rfl rfl (WO.alloc rfl rfl rfl (fun b3 hb3=>(WO.storeA rfl rfl rfl rfl Pick.head rfl (oc3 hop hoa hoo) (WO.nil (W.seq (W.sreg (WO.loadA rfl rfl (Cells.own (Pick.tail (Pick.tail (Pick.head)))) rfl rfl (WO.callR (r:=.int .i64 0) rfl Tryz.call70 (fun L w hi=>c_CheckChart w vp va o rv P A R hc (hP.later hi) (hA.later hi) (hR.later hi)) rfl (WO.p rfl rfl (WO.nil (W.sreg (WO.p rfl rfl (WO.p rfl rfl (WO.nil ?_)))))))))))))))))))))))
 refine W.cond_bl rfl (fun c1=>?_) (fun c1=>?_)
 ·exfalso;omega
 ·refine W.skip (W.seq (W.sreg (WO.loadA rfl rfl (Cells.own Pick.head) rfl rfl (WO.p rfl rfl (WO.callR (r:=.bool true) rfl Tryz.call71 (fun L w hi=>c_on w v vp va o P A R l hc hoo hx (hl.later hi) (hP.later hi) (hA.later hi)) rfl (WO.p rfl rfl (WO.nil (W.cond_f rfl (W.skip (W.sreg (WO.loadA rfl rfl (Cells.own Pick.head) rfl rfl (WO.storeA rfl rfl rfl rfl (Pick.tail (Pick.head)) rfl (oc3 hop hoa hoo) (WO.p rfl rfl (WO.nil (W.ret ?_)))))))))))))))
  exact fin.ret (Res.two rfl (RV.cell rfl rfl rfl (Cells.own (by repeat exact .head))) (RV.tmp rfl)) rfl
theorem c_lo (w:World) (vp va o:Value) (rv:List Value) (R:Rws) (i k:Nat) (hi:i<R.length) (hk:k<(R.getD i []).length) (hR:RdR encP 2 w.heap.size w o rv R):Ret Tryz.prog 37 [.agg #[vp,va,o],.agg #[.int .i64 (i:Int),.int .i64 (k:Int)]].toArray w (.int .i64 ((R.getD i []).getD k (0,0)).1):=by
 refine Ret.of mixed tyTab Tryz.func37 rfl rfl ?_
 replace hR:RdR encP 2 (fnCx mixed tyTab Tryz.f37.ntmps w).B (fnCx mixed tyTab Tryz.f37.ntmps w).w0 o rv R:=hR
 refine W.sreg (WO.boxA rfl rfl (fun b1 hb1=>(WO.boxA rfl rfl (fun b2 hb2=>(WO.p rfl rfl (WO.nil (W.seq ?_)))))))
 refine W.drawD 9 [.r 0 [],.r 1 [],.b 2 [],.r 3 [],.b 4 [],.r 5 [],.b 6 [],.r 7 [],.b 8 []] [] (A0:=[]) (Sub.refl _) (by kernel_rfl) ?_ ?_
 ·repeat constructor
 refine DT.r rfl rfl rfl (WO.field0 rfl rfl rfl (WO.nil ⟨rfl,rfl⟩)) (DT.r rfl rfl rfl (WO.fieldL rfl rfl rfl (WO.nil ⟨rfl,rfl⟩)) (DT.b rfl rfl rfl (WO.load rfl rfl (Cell.own (Pick.tail (Pick.head)) rfl) rfl (WO.nil ⟨rfl,rfl⟩)) (DT.r rfl rfl rfl (WO.field0 rfl rfl rfl (WO.nil ⟨rfl,rfl⟩)) (DT.b rfl rfl rfl (WO.load rfl rfl (Cell.own Pick.head rfl) rfl (WO.nil ⟨rfl,rfl⟩)) (DT.r rfl rfl rfl (WO.indexAddr rfl rfl rfl hR.sl (by omega) rfl (WO.nil ⟨rfl,rfl⟩)) (DT.b rfl rfl rfl (WO.load (v:=_) rfl rfl (hR.cellV hi) rfl (WO.nil ⟨rfl,rfl⟩)) (DT.r rfl rfl rfl (WO.fieldL rfl rfl rfl (WO.nil ⟨rfl,rfl⟩)) ?_)))))))
 refine DT.b rfl rfl rfl (WO.load rfl rfl (Cell.own Pick.head rfl) rfl (WO.nil ⟨rfl,rfl⟩)) (DT.nil [_,_] rfl (WO.indexAddr rfl rfl rfl ((hR.row i hi).sl) (by omega) rfl (WO.field0 rfl rfl rfl ?_)))
 refine' WO.load (v:=_) rfl rfl ?hc rfl ?_
 case hc=>((refine (hR.row i hi).cell0 (i:=k) hk (0,0) ?_;rfl))
 refine WO.p rfl rfl (WO.nil (W.ret ?_))
 exact fin.ret (Res.one rfl (RV.tmp rfl)) rfl
theorem c_hi (w:World) (vp va o:Value) (rv:List Value) (R:Rws) (i k:Nat) (hi:i<R.length) (hk:k<(R.getD i []).length) (hR:RdR encP 2 w.heap.size w o rv R):Ret Tryz.prog 38 [.agg #[vp,va,o],.agg #[.int .i64 (i:Int),.int .i64 (k:Int)]].toArray w (.int .i64 ((R.getD i []).getD k (0,0)).2):=by
 refine Ret.of mixed tyTab Tryz.func38 rfl rfl ?_
 replace hR:RdR encP 2 (fnCx mixed tyTab Tryz.f38.ntmps w).B (fnCx mixed tyTab Tryz.f38.ntmps w).w0 o rv R:=hR
 refine W.sreg (WO.boxA rfl rfl (fun b1 hb1=>(WO.boxA rfl rfl (fun b2 hb2=>(WO.p rfl rfl (WO.nil (W.seq ?_)))))))
 refine W.drawD 9 [.r 0 [],.r 1 [],.b 2 [],.r 3 [],.b 4 [],.r 5 [],.b 6 [],.r 7 [],.b 8 []] [] (A0:=[]) (Sub.refl _) (by kernel_rfl) ?_ ?_
 ·repeat constructor
 refine DT.r rfl rfl rfl (WO.field0 rfl rfl rfl (WO.nil ⟨rfl,rfl⟩)) (DT.r rfl rfl rfl (WO.fieldL rfl rfl rfl (WO.nil ⟨rfl,rfl⟩)) (DT.b rfl rfl rfl (WO.load rfl rfl (Cell.own (Pick.tail (Pick.head)) rfl) rfl (WO.nil ⟨rfl,rfl⟩)) (DT.r rfl rfl rfl (WO.field0 rfl rfl rfl (WO.nil ⟨rfl,rfl⟩)) (DT.b rfl rfl rfl (WO.load rfl rfl (Cell.own Pick.head rfl) rfl (WO.nil ⟨rfl,rfl⟩)) (DT.r rfl rfl rfl (WO.indexAddr rfl rfl rfl hR.sl (by omega) rfl (WO.nil ⟨rfl,rfl⟩)) (DT.b rfl rfl rfl (WO.load (v:=_) rfl rfl (hR.cellV hi) rfl (WO.nil ⟨rfl,rfl⟩)) (DT.r rfl rfl rfl (WO.fieldL rfl rfl rfl (WO.nil ⟨rfl,rfl⟩)) ?_)))))))
 refine DT.b rfl rfl rfl (WO.load rfl rfl (Cell.own Pick.head rfl) rfl (WO.nil ⟨rfl,rfl⟩)) (DT.nil [_,_] rfl (WO.indexAddr rfl rfl rfl ((hR.row i hi).sl) (by omega) rfl (WO.field rfl rfl rfl ?_)))
 refine' WO.load (v:=_) rfl rfl ?hc rfl ?_
 case hc=>((refine (hR.row i hi).cellAt (i:=k) (j:=1) hk (0,0) ?_;rfl))
 refine WO.p rfl rfl (WO.nil (W.ret ?_))
 exact fin.ret (Res.one rfl (RV.tmp rfl)) rfl
end Go.Proofs.YtfchgmiiicidcaaGreat.Ch
namespace Go.Proofs.YtfchgmiiicidcaaGreat.Ch
open Go Go.TH
attribute [local irreducible] W WO pt
set_option maxRecDepth 10000
set_option maxHeartbeats 1000000
def gcd2 (a b:Int):Int:=(Nat.gcd a.toNat b.toNat:Nat)
theorem gcd2_zero {a:Int} (h:0≤a):gcd2 a 0=a:=by simp [gcd2];omega
theorem gcd2_step {a b:Int} (ha:0≤a) (hb:0<b):gcd2 b (a.tmod b)=gcd2 a b:=by
 unfold gcd2
 obtain ⟨n,rfl⟩:=Int.eq_ofNat_of_zero_le ha
 obtain ⟨m,rfl⟩:=Int.eq_ofNat_of_zero_le (Int.le_of_lt hb)
 rw [Int.tmod_eq_emod_of_nonneg (by omega),← Int.natCast_emod]
 simp only [Int.toNat_natCast]
 rw [Nat.gcd_comm m (n%m),← Nat.gcd_rec,Nat.gcd_comm]
theorem tmod_lt {a b:Int} (ha:0≤a) (hb:0<b):0≤a.tmod b∧a.tmod b<b:=⟨Int.tmod_nonneg b ha,Int.tmod_lt_of_pos a hb⟩
theorem gcd2_pos {a b:Int} (ha:0≤a) (hb:0<b):0<gcd2 a b:=by
 unfold gcd2
 have:0<Nat.gcd a.toNat b.toNat:=Nat.gcd_pos_of_pos_right _ (by omega)
 omega
def ab (n:Int):Int:=max n (-n)
theorem ab_nn (n:Int):0≤ab n:=by unfold ab;omega
def red (n d:Int):Int × Int:=(n.tdiv (gcd2 (ab n) d),d.tdiv (gcd2 (ab n) d))
abbrev raV (r:Int × Int):Value:=.agg #[.int .i64 r.1,.int .i64 r.2]
theorem tdiv_bd {n g M:Int} (hg:0<g) (h : -M≤n∧n≤M) : -M≤n.tdiv g∧n.tdiv g≤M:=by
 have h1:(n.tdiv g).natAbs≤n.natAbs:=by rw [Int.natAbs_tdiv];exact Nat.div_le_self _ _
 omega
theorem c_fraction (w:World) (vp va o:Value) (n d:Int) (hn : -4000000000000000000≤n∧n≤4000000000000000000) (hd:0<d∧d≤4000000000000000000) (hop:vp.oneCell'=true) (hoa:va.oneCell'=true) (hoo:o.oneCell'=true):Ret Tryz.prog 101 [.agg #[vp,va,o],.int .i64 n,.int .i64 d].toArray w (raV (red n d)):=by
 refine Ret.of mixed tyTab Tryz.func101 rfl rfl ?_
 have hgp:=gcd2_pos (ab_nn n) hd.1
 have h1:=tdiv_bd hgp hn
 have h2:=tdiv_bd hgp (n:=d) (M:=4000000000000000000) (by omega)
 refine W.sreg (WO.boxA rfl rfl (fun b1 hb1=>(WO.alloc rfl rfl rfl (fun b2 hb2=>(WO.nil (W.sreg (WO.p rfl rfl (WO.p rfl rfl (WO.neg rfl (by unfold in64;omega) rfl (WO.max2 rfl rfl rfl (WO.p rfl rfl (WO.p rfl rfl (WO.p rfl rfl (WO.nil (W.seq (W.block ?_))))))))))))))))
 refine W.loop2 (fun (x:Int) (y:Int)=>0≤x∧0≤y∧gcd2 x y=gcd2 (ab n) d)
  (fun (x:Int) (y:Int)=>[(7,.int .i64 x),(8,.int .i64 y),(1,.int .i64 n),(2,.int .i64 d),(6,.pointer (some ⟨b2,0,none⟩))])
  (fun (x:Int) (y:Int)=>[pt b2 (.cells #[.int .i64 0,.int .i64 0] 38 (0,0))])
  (fun (x:Int) (y:Int)=>y.toNat) (ab n) d
  (by exact ⟨ab_nn n,by omega,rfl⟩) ⟨rfl,rfl,rfl,rfl,rfl,trivial⟩ (by repeat (first | exact Sub.nil | refine Sub.cons (by repeat exact .head) ?_)) ?_
 rintro x y ⟨hx,hy,hg⟩
 have hgx:y=0→0<x:=by intro e;subst e;rw [gcd2_zero hx] at hg;omega
 refine W.seq (W.sreg (WO.p rfl rfl (WO.p rfl rfl (WO.nil ?_))))
 refine W.cond_bl rfl (fun c1=>?_) (fun c1=>?_)
 ·refine W.skip (W.block ?_)
  refine W.drawD 5 [.r 0 [],.r 1 [],.r 2 [7],.r 3 [7],.r 4 [7]] [7] (A0:=[]) (Sub.refl _) (by kernel_rfl) ?_ ?_
  ·repeat constructor
  refine DT.r rfl rfl rfl (WO.p rfl rfl (WO.nil ⟨rfl,rfl⟩)) (DT.r rfl rfl rfl (WO.p rfl rfl (WO.nil ⟨rfl,rfl⟩)) (DT.r rfl rfl rfl (WO.p rfl rfl (WO.nil ⟨rfl,rfl⟩)) (DT.r rfl rfl rfl (WO.rem rfl rfl (by omega) rfl (WO.nil ⟨rfl,rfl⟩)) (DT.r rfl rfl rfl (WO.p rfl rfl (WO.nil ⟨rfl,rfl⟩)) (DT.nil [_] rfl (WO.p rfl rfl (WO.nil ?_)))))))
  refine' ⟨_,_,?hp,?hmu,⟨rfl,rfl,rfl,rfl,rfl,trivial⟩,?hS⟩
  case hS=>repeat (first | exact Sub.nil | refine Sub.cons (by repeat exact .head) ?_)
  case hp=>exact ⟨hy,(tmod_lt hx (by omega)).1,by rw [gcd2_step hx (by omega)];exact hg⟩
  case hmu=>have:=tmod_lt hx (show 0<y by omega);omega
 ·refine W.exit (blk_same (W.seq ?_))
  obtain rfl:y=0:=by omega
  rw [gcd2_zero hx] at hg
  subst hg
  refine W.drawD 6 [.r 0 [],.r 1 [],.r 2 [],.r 3 [],.r 4 [],.r 5 []] [] (A0:=[]) (Sub.refl _) (by kernel_rfl) ?_ ?_
  ·repeat constructor
  refine DT.r rfl rfl rfl (WO.p rfl rfl (WO.nil ⟨rfl,rfl⟩)) (DT.r rfl rfl rfl (WO.p rfl rfl (WO.nil ⟨rfl,rfl⟩)) (DT.r rfl rfl rfl (WO.quo rfl rfl (by omega) (by unfold in64;omega) rfl (WO.nil ⟨rfl,rfl⟩)) (DT.r rfl rfl rfl (WO.p rfl rfl (WO.nil ⟨rfl,rfl⟩)) (DT.r rfl rfl rfl (WO.p rfl rfl (WO.nil ⟨rfl,rfl⟩)) (DT.r rfl rfl rfl (WO.quo rfl rfl (by omega) (by unfold in64;omega) rfl (WO.nil ⟨rfl,rfl⟩)) (DT.nil [_] rfl (WO.build rfl rfl rfl rfl rfl (WO.storeA rfl rfl rfl rfl Pick.head rfl rfl (WO.nil (W.ret ?_))))))))))
  exact fin.ret (Res.one rfl (RV.cell rfl rfl rfl (Cells.own Pick.head))) rfl
end Go.Proofs.YtfchgmiiicidcaaGreat.Ch
namespace Go.Proofs.YtfchgmiiicidcaaGreat.Ch
open Go Go.TH
attribute [local irreducible] W WO pt
set_option maxRecDepth 10000
set_option maxHeartbeats 1000000
theorem fI_ge {l:List Int} {x:Int} (h:fI l x<l.length):x≤l.getD (fI l x) 0:=by
 have:=List.findIdx_getElem (p:=fun y=>decide (x≤y)) (xs:=l) (w:=h)
 rw [List.getD_eq_getElem?_getD,List.getElem?_eq_getElem h]
 exact of_decide_eq_true this
theorem fI_lt {l:List Int} {x:Int} {j:Nat} (h:j<fI l x):l.getD j 0<x:=by
 have hj:j<l.length:=Nat.lt_of_lt_of_le h (fI_le l x)
 have:=List.not_of_lt_findIdx (p:=fun y=>decide (x≤y)) (xs:=l) h
 rw [List.getD_eq_getElem?_getD,List.getElem?_eq_getElem hj]
 simpa using this
theorem on_bd {l:List Int} {x:Int} (hr:Ris l) (h2:2≤l.length) (h:On l x):nbI l x+1<l.length∧(0≤l.getD (nbI l x) 0∧l.getD (nbI l x) 0≤x)∧x≤l.getD (nbI l x+1) 0∧l.getD (nbI l x+1) 0≤2000∧l.getD (nbI l x) 0<l.getD (nbI l x+1) 0:=by
 have hn:nbI l x+1<l.length:=by have:=h.2;unfold nbI;omega
 have b0:=hr.2 _ (getD_mem (show nbI l x<l.length by omega) 0)
 have b1:=hr.2 _ (getD_mem hn 0)
 have hlt:=hr.1.lt (show nbI l x<nbI l x+1 by omega) hn
 have hge:=fI_ge h.2
 rcases Nat.eq_zero_or_pos (fI l x) with g | g
 ·have hz:nbI l x=0:=by unfold nbI;omega
  rw [hz] at hlt b0 b1 ⊢
  rw [g] at hge
  have:=h.1
  omega
 ·have h1:=fI_lt (l:=l) (x:=x) (show nbI l x<fI l x by unfold nbI;omega)
  rw [show nbI l x+1=fI l x by unfold nbI;omega] at hlt b1 ⊢
  have:=h.2
  omega
def plV (i k:Nat):Value:=.agg #[.int .i64 (i:Int),.int .i64 (k:Int)]
def cnV (i k:Nat) (x0 x1 y0 y1:Int):List (Value × Value):=[(plV i k,.int .i64 (x0*y0)),(plV i (k+1),.int .i64 (x0*y1)),(plV (i+1) k,.int .i64 (x1*y0)),(plV (i+1) (k+1),.int .i64 (x1*y1))]
theorem cnV_get {i k a b:Nat} {x0 x1 y0 y1:Int} (ha:a<2) (hb:b<2):(cnV i k x0 x1 y0 y1)[2*a+b]?=some (.agg #[.int .i64 ((i:Int)+(a:Int)),.int .i64 ((k:Int)+(b:Int))],.int .i64 ([x0,x1].getD a 0*[y0,y1].getD b 0)):=by
 rcases (show a=0∨a=1 by omega) with rfl | rfl <;> rcases (show b=0∨b=1 by omega) with rfl | rfl <;> rfl
theorem two_bd {x0 x1:Int} {a:Nat} (ha:a<2) (h0:0≤x0∧x0≤2000) (h1:0≤x1∧x1≤2000):0≤[x0,x1].getD a 0∧[x0,x1].getD a 0≤2000:=by
 rcases (show a=0∨a=1 by omega) with rfl | rfl
 ·exact h0
 ·exact h1
theorem mul_in {a b:Int} (ha:0≤a∧a≤2000) (hb:0≤b∧b≤2000):in64 (a*b):=by
 have h1:=Int.mul_nonneg ha.1 hb.1
 have h2:=Int.mul_le_mul ha.2 hb.2 hb.1 (by omega)
 unfold in64;omega
theorem cell2 {C:Cx Tryz.prog} {H:List HP} {b a o':Nat} {x0 x1:Int} {t:TypeId} {fr:Nat × Nat} (s:Sub H [pt b (.cells #[.int .i64 x0,.int .i64 x1] t fr)]) (ho:o'=a) (ha:a<2):Cell C H ⟨b,o',none⟩ (.int .i64 ([x0,x1].getD a 0)):=by
 subst ho
 cases s with
 | cons p _=>exact Cell.own p (by rcases (show o'=0∨o'=1 by omega) with rfl | rfl <;> rfl)
theorem c_corners1 (B:Nat) (wr:World) (i k:Nat) (x0 x1 y0 y1:Int) (hik:i≤100∧k≤100) (hx0:0≤x0∧x0≤2000) (hx1:0≤x1∧x1≤2000) (hy0:0≤y0∧y0≤2000) (hy1:0≤y1∧y1≤2000)
 (l:Nat) (Hc:Nat→List HP) (hy:∀ n x,(cnV i k x0 x1 y0 y1)[n]?=some x→YieldOK Tryz.prog B wr l #[x.1,x.2] (Hc n) (Hc (n+1))) (b1 b2 b3 b4:Nat) (w:World) (M':List Nat) (hB:B≤w.heap.size) (hk:∀ k,k<B→w.heap[k]?=wr.heap[k]?) (hM:∀ b∈M',B≤b)
 (hi:Inv w M' ([pt b4 (.cells #[.int .i64 y0,.int .i64 y1] 203 (0,0)),pt b3 (.cells #[.int .i64 x0,.int .i64 x1] 203 (0,0)),pt b2 (.cells #[.int .i64 (k:Int)] 3 (0,0)),pt b1 (.cells #[.int .i64 (i:Int)] 3 (0,0))]++Hc 0) w) :
 Ct Tryz.prog 189 ([.func (.yield l) #[] #[],.pointer (some ⟨b1,0,none⟩),.pointer (some ⟨b2,0,none⟩),.pointer (some ⟨b3,0,none⟩),.pointer (some ⟨b4,0,none⟩)]:List Value).toArray w fun _ w'=>Inv w M' ([pt b4 (.cells #[.int .i64 y0,.int .i64 y1] 203 (0,0)),pt b3 (.cells #[.int .i64 x0,.int .i64 x1] 203 (0,0)),pt b2 (.cells #[.int .i64 (k:Int)] 3 (0,0)),pt b1 (.cells #[.int .i64 (i:Int)] 3 (0,0))]++Hc (cnV i k x0 x1 y0 y1).length) w':=by
 refine Iter.of mixed tyTab hB hM Tryz.func189 rfl rfl hi (W.sreg (WO.p rfl rfl (WO.nil (W.block ?_))))
 refine W.loop (fun (a:Nat)=>a≤2)
  (fun (a:Nat)=>[(8,.int .i64 (a:Int)),(0,.func (.yield l) #[] #[]),(1,.pointer (some ⟨b1,0,none⟩)),(2,.pointer (some ⟨b2,0,none⟩)),(3,.pointer (some ⟨b3,0,none⟩)),(4,.pointer (some ⟨b4,0,none⟩))])
  (fun (a:Nat)=>[pt b1 (.cells #[.int .i64 (i:Int)] 3 (0,0)),pt b2 (.cells #[.int .i64 (k:Int)] 3 (0,0)),pt b3 (.cells #[.int .i64 x0,.int .i64 x1] 203 (0,0)),pt b4 (.cells #[.int .i64 y0,.int .i64 y1] 203 (0,0)),sat (Hc (2*a))])
  (fun (a:Nat)=>2-a) 0
  (by omega) ⟨rfl,rfl,rfl,rfl,rfl,rfl,trivial⟩ (by repeat (first | exact Sub.nil | refine Sub.cons (by repeat first | exact .head | apply Pick.tail) ?_)) ?_
 rintro a ha
 refine W.sreg (WO.p rfl rfl (WO.nil (W.seq ?_)))
 refine W.cond_bl rfl (fun c1=>?_) (fun c1=>?_)
 ·refine W.skip (W.seq (W.block (W.sreg (WO.p rfl rfl (WO.p rfl rfl (WO.nil (W.sreg (WO.p rfl rfl (WO.nil (W.block ?_))))))))))
  refine W.loop (fun (b:Nat)=>b≤2)
   (fun (b:Nat)=>[(11,.int .i64 (b:Int)),(8,.int .i64 (a:Int)),(6,.int .i64 (a:Int)),(0,.func (.yield l) #[] #[]),(1,.pointer (some ⟨b1,0,none⟩)),(2,.pointer (some ⟨b2,0,none⟩)),(3,.pointer (some ⟨b3,0,none⟩)),(4,.pointer (some ⟨b4,0,none⟩))])
   (fun (b:Nat)=>[pt b1 (.cells #[.int .i64 (i:Int)] 3 (0,0)),pt b2 (.cells #[.int .i64 (k:Int)] 3 (0,0)),pt b3 (.cells #[.int .i64 x0,.int .i64 x1] 203 (0,0)),pt b4 (.cells #[.int .i64 y0,.int .i64 y1] 203 (0,0)),sat (Hc (2*a+b))])
   (fun (b:Nat)=>2-b) 0
   (by omega) ⟨rfl,rfl,rfl,rfl,rfl,rfl,rfl,rfl,trivial⟩ (by repeat (first | exact Sub.nil | refine Sub.cons (by repeat exact .head) ?_)) ?_
  rintro b hb
  refine W.sreg (WO.p rfl rfl (WO.nil (W.seq ?_)))
  refine W.cond_bl rfl (fun c2=>?_) (fun c2=>?_)
  ·refine W.skip (W.seq (W.block (W.sreg (WO.p rfl rfl (WO.p rfl rfl (WO.nil (W.seq ?_)))))))
   refine W.drawD 15 [.r 0 [],.b 1 [],.r 2 [],.r 3 [],.b 4 [],.r 5 [],.r 6 [],.r 7 [],.r 8 [],.r 9 [],.b 10 [],.r 11 [],.r 12 [],.b 13 [],.r 14 []] [] (A0:=[_]) (H0:=[_,_,_,_]) (.cons (Pick.tail (Pick.tail (Pick.tail (Pick.tail .head)))) (.cons .head (.cons .head (.cons .head (.cons .head .nil))))) (by kernel_rfl) ?_ ?_
   ·repeat constructor
   refine DT.r rfl rfl rfl (WO.p rfl rfl (WO.nil ⟨rfl,rfl⟩)) (DT.b rfl rfl rfl (WO.load rfl rfl (Cell.own Pick.head rfl) rfl (WO.nil ⟨rfl,rfl⟩)) (DT.r rfl rfl rfl (WO.p rfl rfl (WO.nil ⟨rfl,rfl⟩)) (DT.r rfl rfl rfl (WO.ar rfl rfl rfl (by unfold in64;omega) rfl (WO.nil ⟨rfl,rfl⟩)) (DT.b rfl rfl rfl (WO.load rfl rfl (Cell.own (Pick.tail (Pick.head)) rfl) rfl (WO.nil ⟨rfl,rfl⟩)) (DT.r rfl rfl rfl (WO.p rfl rfl (WO.nil ⟨rfl,rfl⟩)) (DT.r rfl rfl rfl (WO.ar rfl rfl rfl (by unfold in64;omega) rfl (WO.nil ⟨rfl,rfl⟩)) (DT.r rfl rfl rfl (WO.build rfl rfl rfl rfl rfl (WO.nil ⟨rfl,rfl⟩)) (DT.r rfl rfl rfl (WO.p rfl rfl (WO.nil ⟨rfl,rfl⟩)) ?_))))))))
   refine DT.r rfl rfl rfl (WO.indexArrE (i:=a) (o':=a) rfl rfl rfl rfl (by omega) (by omega) rfl (WO.nil ⟨rfl,rfl⟩)) ?_
   refine' DT.b rfl rfl rfl ?hq ?_
   case hq =>
    refine' WO.load (v:=_) rfl rfl ?hc rfl ?_
    case hc=>(first | (refine cell2 (b:=b3) (a:=a) (x0:=x0) (x1:=x1) (t:=203) (fr:=(0,0)) ?_ rfl (by omega);exact (by repeat (first | exact Sub.nil | refine Sub.cons (by repeat first | exact .head | apply Pick.tail) ?_))))
    exact WO.nil ⟨rfl,rfl⟩
   refine DT.r rfl rfl rfl (WO.p rfl rfl (WO.nil ⟨rfl,rfl⟩)) (DT.r rfl rfl rfl (WO.indexArrE (i:=b) (o':=b) rfl rfl rfl rfl (by omega) (by omega) rfl (WO.nil ⟨rfl,rfl⟩)) ?_)
   refine' DT.b rfl rfl rfl ?hq ?_
   case hq =>
    refine' WO.load (v:=_) rfl rfl ?hc rfl ?_
    case hc=>(first | (refine cell2 (b:=b4) (a:=b) (x0:=y0) (x1:=y1) (t:=203) (fr:=(0,0)) ?_ rfl (by omega);exact (by repeat (first | exact Sub.nil | refine Sub.cons (by repeat first | exact .head | apply Pick.tail) ?_))))
    exact WO.nil ⟨rfl,rfl⟩
   refine DT.r rfl rfl rfl (WO.ar rfl rfl rfl (by (first | exact mul_in (two_bd (by omega) hx0 hx1) (two_bd (by omega) hy0 hy1))) rfl (WO.nil ⟨rfl,rfl⟩)) (DT.nil [_,_,_,_,_] rfl (WO.yield rfl rfl (by repeat exact .head) ((hy _ _ (cnV_get (a:=a) (b:=b) (by omega) (by omega))).one.agree hk) rfl (WO.p rfl rfl (WO.nil (W.cond_f rfl (W.skip (W.region (WO.ar rfl rfl rfl (by unfold in64;omega) rfl (WO.p rfl rfl (WO.nil ?_))))))))))
   refine' ⟨b+1,?hp,?hmu,⟨rfl,rfl,rfl,rfl,rfl,rfl,rfl,rfl,trivial⟩,?hS⟩
   case hS=>repeat (first | exact Sub.nil | refine Sub.cons (by repeat first | exact .head | apply Pick.tail) ?_)
   case hp=>omega
   case hmu=>omega
  ·refine W.exit (blk_same ?_)
   obtain rfl:b=2:=by omega
   rw [show 2*a+2=2*(a+1) by omega]
   refine W.region (WO.ar rfl rfl rfl (by unfold in64;omega) rfl (WO.p rfl rfl (WO.nil ?_)))
   refine' ⟨a+1,?hp,?hmu,⟨rfl,rfl,rfl,rfl,rfl,rfl,trivial⟩,?hS⟩
   case hS=>repeat (first | exact Sub.nil | refine Sub.cons (by repeat exact .head) ?_)
   case hp=>omega
   case hmu=>omega
 ·refine W.exit (blk_same ?_)
  obtain rfl:a=2:=by omega
  refine fin.normal (Res.none rfl) ?_
  exact .cons (.tail (.tail (.tail .head))) (.cons (.tail (.tail .head)) (.cons (.tail .head) (.cons .head (.cons .head .nil))))
end Go.Proofs.YtfchgmiiicidcaaGreat.Ch
namespace Go.Proofs.YtfchgmiiicidcaaGreat.Ch
open Go Go.TH
attribute [local irreducible] W WO pt
set_option maxRecDepth 10000
set_option maxHeartbeats 1000000
def fr1 (l:List Int) (x:Int):Int:=l.getD (nbI l x+1) 0-x
def fr0 (l:List Int) (x:Int):Int:=x-l.getD (nbI l x) 0
theorem fr_bd {l:List Int} {x:Int} (hr:Ris l) (h2:2≤l.length) (h:On l x):(0≤fr1 l x∧fr1 l x≤2000)∧(0≤fr0 l x∧fr0 l x≤2000)∧0<fr1 l x+fr0 l x:=by
 have:=on_bd hr h2 h
 unfold fr1 fr0
 omega
theorem c_corners (w:World) (vp va o:Value) (P A:List Int) (R:Rws) (x y:Int) (hc:OkC P A R) (hx:On P x∧On A y) (ho:o.oneCell'=true) (hP:RdF encI 1 w.heap.size w vp P) (hA:RdF encI 1 w.heap.size w va A):Ct Tryz.prog 100 [.agg #[vp,va,o],.agg #[.int .i64 x,.int .i64 y]].toArray w fun v w'=>∃ Hq,(∃ b1 b2 b3 b4,v=.func (.func 189) #[] #[.pointer (some ⟨b1,0,none⟩),.pointer (some ⟨b2,0,none⟩),.pointer (some ⟨b3,0,none⟩),.pointer (some ⟨b4,0,none⟩)] ∧
 Hq=[pt b4 (.cells #[.int .i64 (fr1 A y),.int .i64 (fr0 A y)] 203 (0,0)),pt b3 (.cells #[.int .i64 (fr1 P x),.int .i64 (fr0 P x)] 203 (0,0)),pt b2 (.cells #[.int .i64 (nbI A y:Int)] 3 (0,0)),pt b1 (.cells #[.int .i64 (nbI P x:Int)] 3 (0,0))])∧Inv w [] Hq w':=by
 refine Ct.of mixed tyTab Tryz.func100 rfl rfl ?_
 replace hP:RdF encI 1 (fnCx mixed tyTab Tryz.f100.ntmps w).B (fnCx mixed tyTab Tryz.f100.ntmps w).w0 vp P:=hP
 replace hA:RdF encI 1 (fnCx mixed tyTab Tryz.f100.ntmps w).B (fnCx mixed tyTab Tryz.f100.ntmps w).w0 va A:=hA
 have hop:=hP.sl.oc
 have hoa:=hA.sl.oc
 have hnp:=hc.np
 have hna:=hc.na
 have hbp:=on_bd hc.up hnp.1 hx.1
 have hba:=on_bd hc.ua hna.1 hx.2
 refine W.sreg (WO.boxA rfl rfl (fun b1 hb1=>(WO.boxA rfl rfl (fun b2 hb2=>(WO.p rfl rfl (WO.nil (W.sreg (WO.field0 rfl rfl rfl (WO.field0 rfl rfl rfl (WO.load rfl rfl (Cell.own (Pick.tail (Pick.head)) rfl) rfl (WO.field0 rfl rfl rfl (WO.load rfl rfl (Cell.own Pick.head rfl) rfl (WO.callR rfl Tryz.call121 (fun L w hi=>c_neighbour w vp P x hc.up.1 (by omega) (by omega) (hP.later hi)) rfl (WO.p rfl rfl (WO.p rfl rfl (WO.p rfl rfl (WO.alloc rfl rfl rfl (fun b3 hb3=>(WO.store1 rfl rfl rfl (by rfl) Pick.head rfl (WO.p rfl rfl (WO.nil (W.sreg ?_))))))))))))))))))))))
 refine WO.field0 rfl rfl rfl (WO.fieldL rfl rfl rfl (WO.load rfl rfl (Cell.own (Pick.tail (Pick.tail (Pick.head))) rfl) rfl (WO.fieldL rfl rfl rfl (WO.load rfl rfl (Cell.own (Pick.tail (Pick.head)) rfl) rfl (WO.callR rfl Tryz.call121 (fun L w hi=>c_neighbour w va A y hc.ua.1 (by omega) (by omega) (hA.later hi)) rfl (WO.p rfl rfl (WO.p rfl rfl (WO.p rfl rfl (WO.alloc rfl rfl rfl (fun b4 hb4=>(WO.store1 rfl rfl rfl (by rfl) Pick.head rfl (WO.p rfl rfl (WO.nil (W.seq ?_))))))))))))))
 refine W.drawD 21 [.r 0 [],.r 1 [],.b 2 [],.b 3 [],.r 4 [],.r 5 [],.b 6 [],.r 7 [],.b 8 [],.r 9 [],.r 10 [],.b 11 [],.r 12 [],.r 13 [],.b 14 [],.b 15 [],.r 16 [],.b 17 [],.r 18 [],.r 19 [],.a 20 9 (.cells #[.int .i64 0,.int .i64 0] 203 (0,0))] [] (A0:=[]) (Sub.refl _) (by kernel_rfl) ?_ ?_
 ·exact (ALok.r (ALok.r (ALok.b (ALok.b (ALok.r (ALok.r (ALok.b (ALok.r (ALok.b (ALok.r (ALok.r (ALok.b (ALok.r (ALok.r (ALok.b (ALok.b (ALok.r (ALok.b (ALok.r (ALok.r (ALok.cons rfl rfl rfl rfl rfl ALok.nil)))))))))))))))))))))
 refine DT.r rfl rfl rfl (WO.field0 rfl rfl rfl (WO.nil ⟨rfl,rfl⟩)) (DT.r rfl rfl rfl (WO.field0 rfl rfl rfl (WO.nil ⟨rfl,rfl⟩)) (DT.b rfl rfl rfl (WO.load rfl rfl (Cell.own (Pick.tail (Pick.tail (Pick.tail (Pick.head)))) rfl) rfl (WO.nil ⟨rfl,rfl⟩)) (DT.b rfl rfl rfl (WO.load rfl rfl (Cell.own (Pick.tail (Pick.head)) rfl) rfl (WO.nil ⟨rfl,rfl⟩)) (DT.r rfl rfl rfl (WO.ar rfl rfl rfl (by unfold in64;omega) rfl (WO.nil ⟨rfl,rfl⟩)) ?_))))
 refine' DT.r rfl rfl rfl ?hq ?_
 case hq =>
  refine' WO.indexAddrZ (n:=_) rfl rfl rfl ?hs ?h00 ?h1 rfl ?_
  case hs=>exact hP.sl
  case h00=>omega
  case h1=>(omega)
  exact WO.nil ⟨rfl,rfl⟩
 refine' DT.b rfl rfl rfl ?hq ?_
 case hq =>
  refine' WO.load (v:=_) rfl rfl ?hc rfl ?_
  case hc=>(first | (refine hP.cell0 (i:=nbI P x+1) ?_ 0 ?_ <;> first | rfl | omega))
  exact WO.nil ⟨rfl,rfl⟩
 refine DT.r rfl rfl rfl (WO.field0 rfl rfl rfl (WO.nil ⟨rfl,rfl⟩)) (DT.b rfl rfl rfl (WO.load rfl rfl (Cell.own (Pick.tail (Pick.tail (Pick.head))) rfl) rfl (WO.nil ⟨rfl,rfl⟩)) (DT.r rfl rfl rfl (WO.ar rfl rfl rfl (by unfold in64;omega) rfl (WO.nil ⟨rfl,rfl⟩)) (DT.r rfl rfl rfl (WO.field0 rfl rfl rfl (WO.nil ⟨rfl,rfl⟩)) (DT.b rfl rfl rfl (WO.load rfl rfl (Cell.own (Pick.tail (Pick.tail (Pick.head))) rfl) rfl (WO.nil ⟨rfl,rfl⟩)) (DT.r rfl rfl rfl (WO.field0 rfl rfl rfl (WO.nil ⟨rfl,rfl⟩)) (DT.r rfl rfl rfl (WO.field0 rfl rfl rfl (WO.nil ⟨rfl,rfl⟩)) ?_))))))
 refine DT.b rfl rfl rfl (WO.load rfl rfl (Cell.own (Pick.tail (Pick.tail (Pick.tail (Pick.head)))) rfl) rfl (WO.nil ⟨rfl,rfl⟩)) (DT.b rfl rfl rfl (WO.load rfl rfl (Cell.own (Pick.tail (Pick.head)) rfl) rfl (WO.nil ⟨rfl,rfl⟩)) (DT.r rfl rfl rfl (WO.indexAddr rfl rfl rfl hP.sl (by omega) rfl (WO.nil ⟨rfl,rfl⟩)) ?_))
 refine' DT.b rfl rfl rfl ?hq ?_
 case hq =>
  refine' WO.load (v:=_) rfl rfl ?hc rfl ?_
  case hc=>(first | (refine hP.cell0 (i:=nbI P x) ?_ 0 ?_ <;> first | rfl | omega))
  exact WO.nil ⟨rfl,rfl⟩
 refine DT.r rfl rfl rfl (WO.ar rfl rfl rfl (by unfold in64;omega) rfl (WO.nil ⟨rfl,rfl⟩)) (DT.r rfl rfl rfl (WO.build rfl rfl rfl rfl rfl (WO.nil ⟨rfl,rfl⟩)) (DT.a (fun b5=>(DT.nil [_,_,_,_,_] rfl (WO.storeA rfl rfl rfl rfl Pick.head rfl rfl (WO.nil (W.seq ?_)))))))
 refine W.drawD 21 [.r 0 [],.r 1 [],.b 2 [],.b 3 [],.r 4 [],.r 5 [],.b 6 [],.r 7 [],.b 8 [],.r 9 [],.r 10 [],.b 11 [],.r 12 [],.r 13 [],.b 14 [],.b 15 [],.r 16 [],.b 17 [],.r 18 [],.r 19 [],.a 20 10 (.cells #[.int .i64 0,.int .i64 0] 203 (0,0))] [] (A0:=[]) (Sub.refl _) (by kernel_rfl) ?_ ?_
 ·exact (ALok.r (ALok.r (ALok.b (ALok.b (ALok.r (ALok.r (ALok.b (ALok.r (ALok.b (ALok.r (ALok.r (ALok.b (ALok.r (ALok.r (ALok.b (ALok.b (ALok.r (ALok.b (ALok.r (ALok.r (ALok.cons rfl rfl rfl rfl rfl ALok.nil)))))))))))))))))))))
 refine DT.r rfl rfl rfl (WO.field0 rfl rfl rfl (WO.nil ⟨rfl,rfl⟩)) (DT.r rfl rfl rfl (WO.fieldL rfl rfl rfl (WO.nil ⟨rfl,rfl⟩)) (DT.b rfl rfl rfl (WO.load rfl rfl (Cell.own (Pick.tail (Pick.tail (Pick.tail (Pick.tail (Pick.head))))) rfl) rfl (WO.nil ⟨rfl,rfl⟩)) (DT.b rfl rfl rfl (WO.load rfl rfl (Cell.own (Pick.tail (Pick.head)) rfl) rfl (WO.nil ⟨rfl,rfl⟩)) (DT.r rfl rfl rfl (WO.ar rfl rfl rfl (by unfold in64;omega) rfl (WO.nil ⟨rfl,rfl⟩)) ?_))))
 refine' DT.r rfl rfl rfl ?hq ?_
 case hq =>
  refine' WO.indexAddrZ (n:=_) rfl rfl rfl ?hs ?h00 ?h1 rfl ?_
  case hs=>exact hA.sl
  case h00=>omega
  case h1=>(omega)
  exact WO.nil ⟨rfl,rfl⟩
 refine' DT.b rfl rfl rfl ?hq ?_
 case hq =>
  refine' WO.load (v:=_) rfl rfl ?hc rfl ?_
  case hc=>(first | (refine hA.cell0 (i:=nbI A y+1) ?_ 0 ?_ <;> first | rfl | omega))
  exact WO.nil ⟨rfl,rfl⟩
 refine DT.r rfl rfl rfl (WO.fieldL rfl rfl rfl (WO.nil ⟨rfl,rfl⟩)) (DT.b rfl rfl rfl (WO.load rfl rfl (Cell.own (Pick.tail (Pick.tail (Pick.tail (Pick.head)))) rfl) rfl (WO.nil ⟨rfl,rfl⟩)) (DT.r rfl rfl rfl (WO.ar rfl rfl rfl (by unfold in64;omega) rfl (WO.nil ⟨rfl,rfl⟩)) (DT.r rfl rfl rfl (WO.fieldL rfl rfl rfl (WO.nil ⟨rfl,rfl⟩)) (DT.b rfl rfl rfl (WO.load rfl rfl (Cell.own (Pick.tail (Pick.tail (Pick.tail (Pick.head)))) rfl) rfl (WO.nil ⟨rfl,rfl⟩)) (DT.r rfl rfl rfl (WO.field0 rfl rfl rfl (WO.nil ⟨rfl,rfl⟩)) (DT.r rfl rfl rfl (WO.fieldL rfl rfl rfl (WO.nil ⟨rfl,rfl⟩)) ?_))))))
 refine DT.b rfl rfl rfl (WO.load rfl rfl (Cell.own (Pick.tail (Pick.tail (Pick.tail (Pick.tail (Pick.head))))) rfl) rfl (WO.nil ⟨rfl,rfl⟩)) (DT.b rfl rfl rfl (WO.load rfl rfl (Cell.own (Pick.tail (Pick.head)) rfl) rfl (WO.nil ⟨rfl,rfl⟩)) (DT.r rfl rfl rfl (WO.indexAddr rfl rfl rfl hA.sl (by omega) rfl (WO.nil ⟨rfl,rfl⟩)) ?_))
 refine' DT.b rfl rfl rfl ?hq ?_
 case hq =>
  refine' WO.load (v:=_) rfl rfl ?hc rfl ?_
  case hc=>(first | (refine hA.cell0 (i:=nbI A y) ?_ 0 ?_ <;> first | rfl | omega))
  exact WO.nil ⟨rfl,rfl⟩
 refine DT.r rfl rfl rfl (WO.ar rfl rfl rfl (by unfold in64;omega) rfl (WO.nil ⟨rfl,rfl⟩)) (DT.r rfl rfl rfl (WO.build rfl rfl rfl rfl rfl (WO.nil ⟨rfl,rfl⟩)) (DT.a (fun b6=>(DT.nil [_,_,_,_,_,_] rfl (WO.storeA rfl rfl rfl rfl Pick.head rfl rfl (WO.nil ?_))))))
 refine W.keep (H':=[pt b6 (.cells #[.int .i64 (fr1 A y),.int .i64 (fr0 A y)] 203 (0,0)),pt b5 (.cells #[.int .i64 (fr1 P x),.int .i64 (fr0 P x)] 203 (0,0)),pt b4 (.cells #[.int .i64 (nbI A y:Int)] 3 (0,0)),pt b3 (.cells #[.int .i64 (nbI P x:Int)] 3 (0,0))]) (by repeat (first | exact Sub.nil | refine Sub.cons (by repeat exact .head) ?_)) ?_
 refine W.sreg (WO.p rfl rfl (WO.p rfl rfl (WO.nil (W.ret ?_))))
 exact fin.ret (Res.one rfl (RV.tmp rfl)) ⟨b3,b4,b5,b6,rfl,rfl⟩
end Go.Proofs.YtfchgmiiicidcaaGreat.Ch
namespace Go.Proofs.YtfchgmiiicidcaaGreat.Ch
open Go Go.TH
attribute [local irreducible] W WO pt
set_option maxRecDepth 10000
set_option maxHeartbeats 1000000
abbrev Cn:=Nat × Nat × Int
def cnL (i k:Nat) (x0 x1 y0 y1:Int):List Cn:=[(i,k,x0*y0),(i,k+1,x0*y1),(i+1,k,x1*y0),(i+1,k+1,x1*y1)]
def aS (g:Cn→Int) (L:List Cn):Nat→Int
 | 0=>0
 | q+1=>aS g L q+g (L.getD q (0,0,0))
theorem aS_bd {g:Cn→Int} {L:List Cn} {M:Int} (h:∀ q,q<L.length → -M≤g (L.getD q (0,0,0))∧g (L.getD q (0,0,0))≤M):∀ q,q≤L.length → -(q*M)≤aS g L q∧aS g L q≤q*M
 | 0,_=>by simp [aS]
 | q+1,hq=>by
  have h1:=aS_bd h q (by omega)
  have h2:=h q (by omega)
  have e:((q+1:Nat):Int)*M=q*M+M:=by rw [Int.natCast_add,Int.add_mul];simp
  rw [e]
  simp only [aS]
  omega
theorem cnV_some {i k q:Nat} {x0 x1 y0 y1:Int} {x:Value × Value} (h:(cnV i k x0 x1 y0 y1)[q]?=some x):q<4∧x=(plV ((cnL i k x0 x1 y0 y1).getD q (0,0,0)).1 ((cnL i k x0 x1 y0 y1).getD q (0,0,0)).2.1,.int .i64 ((cnL i k x0 x1 y0 y1).getD q (0,0,0)).2.2):=by
 match q,h with
 | 0,h=>exact ⟨by omega,(Option.some.inj h).symm⟩
 | 1,h=>exact ⟨by omega,(Option.some.inj h).symm⟩
 | 2,h=>exact ⟨by omega,(Option.some.inj h).symm⟩
 | 3,h=>exact ⟨by omega,(Option.some.inj h).symm⟩
theorem mul_r {a b:Int} (ha:0≤a∧a≤2000) (hb:0≤b∧b≤2000):0≤a*b∧a*b≤4000000:=by
 have h1:=Int.mul_nonneg ha.1 hb.1
 have h2:=Int.mul_le_mul ha.2 hb.2 hb.1 (by omega)
 omega
theorem cnL_bd {i k q:Nat} {x0 x1 y0 y1:Int} (hx0:0≤x0∧x0≤2000) (hx1:0≤x1∧x1≤2000) (hy0:0≤y0∧y0≤2000) (hy1:0≤y1∧y1≤2000) (hq:q<4):0≤((cnL i k x0 x1 y0 y1).getD q (0,0,0)).2.2∧((cnL i k x0 x1 y0 y1).getD q (0,0,0)).2.2≤4000000:=by
 match q,hq with
 | 0,_=>exact mul_r hx0 hy0
 | 1,_=>exact mul_r hx0 hy1
 | 2,_=>exact mul_r hx1 hy0
 | 3,_=>exact mul_r hx1 hy1
def whS (P A:List Int) (x y:Int):Int:=(fr1 P x+fr0 P x)*(fr1 A y+fr0 A y)
abbrev cnP (P A:List Int) (x y:Int):List Cn:=cnL (nbI P x) (nbI A y) (fr1 P x) (fr0 P x) (fr1 A y) (fr0 A y)
theorem whS_eq (P A:List Int) (x y:Int):aS (·.2.2) (cnP P A x y) 4=whS P A x y:=by
 unfold whS cnP cnL
 simp only [aS,List.getD_cons_zero,List.getD_cons_succ]
 grind
theorem c_whole (w:World) (vp va o:Value) (P A:List Int) (R:Rws) (x y:Int) (hc:OkC P A R) (hx:On P x∧On A y) (ho:o.oneCell'=true) (hP:RdF encI 1 w.heap.size w vp P) (hA:RdF encI 1 w.heap.size w va A):Ret Tryz.prog 102 [.agg #[vp,va,o],.agg #[.int .i64 x,.int .i64 y]].toArray w (.int .i64 (whS P A x y)):=by
 refine Ret.of mixed tyTab Tryz.func102 rfl rfl ?_
 replace hP:RdF encI 1 (fnCx mixed tyTab Tryz.f102.ntmps w).B (fnCx mixed tyTab Tryz.f102.ntmps w).w0 vp P:=hP
 replace hA:RdF encI 1 (fnCx mixed tyTab Tryz.f102.ntmps w).B (fnCx mixed tyTab Tryz.f102.ntmps w).w0 va A:=hA
 have hop:=hP.sl.oc
 have hoa:=hA.sl.oc
 have hnp:=hc.np
 have hna:=hc.na
 have hfx:=fr_bd hc.up hnp.1 hx.1
 have hfy:=fr_bd hc.ua hna.1 hx.2
 have hbp:=on_bd hc.up hnp.1 hx.1
 have hba:=on_bd hc.ua hna.1 hx.2
 have hS:=aS_bd (g:=(·.2.2)) (L:=cnP P A x y) (M:=4000000) fun q hq=>by
  have:=cnL_bd (i:=nbI P x) (k:=nbI A y) hfx.1 hfx.2.1 hfy.1 hfy.2.1 (q:=q) hq
  exact ⟨Int.le_trans (by omega:(-4000000:Int)≤0) this.1,this.2⟩
 refine W.sreg (WO.boxA rfl rfl (fun b1 hb1=>(WO.boxA rfl rfl (fun b2 hb2=>(WO.p rfl rfl (WO.nil (W.sreg (WO.alloc rfl rfl rfl (fun b3 hb3=>(WO.store1 rfl rfl rfl (by rfl) Pick.head rfl (WO.nil (W.seq (W.sreg (WO.loadA rfl rfl (Cells.own (Pick.tail (Pick.tail (Pick.head)))) rfl rfl (WO.loadA rfl rfl (Cells.own (Pick.tail (Pick.head))) rfl rfl ?_)))))))))))))))
 refine WO.call (Post:=fun v Hq=>∃ b1 b2 b3 b4,v=.func (.func 189) #[] #[.pointer (some ⟨b1,0,none⟩),.pointer (some ⟨b2,0,none⟩),.pointer (some ⟨b3,0,none⟩),.pointer (some ⟨b4,0,none⟩)]∧Hq=[pt b4 (.cells #[.int .i64 (fr1 A y),.int .i64 (fr0 A y)] 203 (0,0)),pt b3 (.cells #[.int .i64 (fr1 P x),.int .i64 (fr0 P x)] 203 (0,0)),pt b2 (.cells #[.int .i64 (nbI A y:Int)] 3 (0,0)),pt b1 (.cells #[.int .i64 (nbI P x:Int)] 3 (0,0))]) rfl Tryz.call100 (fun L w hi=>c_corners w vp va o P A R x y hc hx ho (hP.later hi) (hA.later hi)) rfl ?_
 rintro _ _ ⟨e1,e2,e3,e4,rfl,rfl⟩
 refine WO.nil (W.block ?_)
 refine W.rangeFunc2 [pt e4 (.cells #[.int .i64 (fr1 A y),.int .i64 (fr0 A y)] 203 (0,0)),pt e3 (.cells #[.int .i64 (fr1 P x),.int .i64 (fr0 P x)] 203 (0,0)),pt e2 (.cells #[.int .i64 (nbI A y:Int)] 3 (0,0)),pt e1 (.cells #[.int .i64 (nbI P x:Int)] 3 (0,0))] (fun q=>[pt b3 (.cells #[.int .i64 (aS (·.2.2) (cnP P A x y) q)] 2 (0,0))]) (cnV (nbI P x) (nbI A y) (fr1 P x) (fr0 P x) (fr1 A y) (fr0 A y)) rfl rfl rfl rfl Tryz.call189 (by repeat (first | exact Sub.nil | refine Sub.cons (by repeat exact .head) ?_)) ?_ ?_ ?_
 ·intro l Hc hy w1 M' hB hk hM hi
  exact c_corners1 _ _ (nbI P x) (nbI A y) _ _ _ _ (by omega) hfx.1 hfx.2.1 hfy.1 hfy.2.1 l Hc hy e1 e2 e3 e4 w1 M' hB hk hM hi
 ·intro l w1 M hB hM hk q z hz
  obtain ⟨hq4,rfl⟩:=cnV_some hz
  refine W.region (WO.p rfl rfl (WO.nil (W.block (W.region (WO.load rfl rfl (Cell.own Pick.head rfl) rfl (WO.p rfl rfl (WO.ar rfl rfl rfl (by (first | have h9:=hS q (by show q≤4;omega);have h8:=cnL_bd (i:=nbI P x) (k:=nbI A y) hfx.1 hfx.2.1 hfy.1 hfy.2.1 (q:=q) hq4;unfold in64;omega)) rfl (WO.store1 rfl rfl rfl (by rfl) Pick.head rfl (WO.nil ?_)))))))))
  (repeat (first | exact Sub.nil | refine Sub.cons (by repeat exact .head) ?_))
 rw [show (cnV (nbI P x) (nbI A y) (fr1 P x) (fr0 P x) (fr1 A y) (fr0 A y)).length=4 from rfl,whS_eq]
 refine W.sreg (WO.load rfl rfl (Cell.own (Pick.tail (Pick.tail (Pick.tail (Pick.tail (Pick.head))))) rfl) rfl (WO.p rfl rfl (WO.nil (W.ret ?_))))
 exact fin.ret (Res.one rfl (RV.tmp rfl)) rfl
end Go.Proofs.YtfchgmiiicidcaaGreat.Ch
namespace Go.Proofs.YtfchgmiiicidcaaGreat.Ch
open Go Go.TH
attribute [local irreducible] W WO pt
set_option maxRecDepth 10000
set_option maxHeartbeats 1000000
def FnP (B:Nat) (wr:World) (f:Nat) (first cap:List Value) (S:Nat→Nat→Prop) (T:Nat→Nat→Int):Prop :=
 ∀ w:World,B≤w.heap.size→(∀ k,k<B→w.heap[k]?=wr.heap[k]?)→∀ i k,S i k→Ret Tryz.prog f (first++[plV i k]++cap).toArray w (.int .i64 (T i k))
theorem FnP.later {C:Cx Tryz.prog} {H:List HP} {L:List HP} {w:World} {f:Nat} {first cap:List Value} {S:Nat→Nat→Prop} {T:Nat→Nat→Int} {B:Nat} {wr:World} (h:FnP B wr f first cap S T) (hB:B≤C.B) (hw:∀ k,k<B→C.w0.heap[k]?=wr.heap[k]?) (hi:Inv C.w0 C.M (L++H) w) {i k:Nat} (hs:S i k):Ret Tryz.prog f (first++[plV i k]++cap).toArray w (.int .i64 (T i k)) :=
 h w (Nat.le_trans hB (Nat.le_trans C.hB hi.size)) (fun j hj=>(hi.keepB j (Nat.lt_of_lt_of_le hj hB)).trans (hw j hj)) i k hs
def plS (P A:List Int) (x y:Int) (T:Nat→Nat→Int):Nat→Int:=aS (fun t=>t.2.2*T t.1 t.2.1) (cnP P A x y)
theorem cnP_at {P A:List Int} {x y:Int} (hp:nbI P x+1<P.length) (ha:nbI A y+1<A.length) {q:Nat} (hq:q<4):((cnP P A x y).getD q (0,0,0)).1<P.length∧((cnP P A x y).getD q (0,0,0)).2.1<A.length:=by
 match q,hq with
 | 0,_=>exact ⟨Nat.lt_of_succ_lt hp,Nat.lt_of_succ_lt ha⟩
 | 1,_=>exact ⟨Nat.lt_of_succ_lt hp,ha⟩
 | 2,_=>exact ⟨hp,Nat.lt_of_succ_lt ha⟩
 | 3,_=>exact ⟨hp,ha⟩
theorem mul_p {a b:Int} (ha:0≤a∧a≤4000000) (hb:0≤b∧b≤100000):0≤a*b∧a*b≤400000000000:=by
 have h1:=Int.mul_nonneg ha.1 hb.1
 have h2:=Int.mul_le_mul ha.2 hb.2 hb.1 (by omega)
 omega
theorem c_value (w:World) (vp va o:Value) (P A:List Int) (R:Rws) (x y:Int) (f:Nat) (first cap:List Value) (T:Nat→Nat→Int) (hc:OkC P A R) (hx:On P x∧On A y) (ho:o.oneCell'=true) (hP:RdF encI 1 w.heap.size w vp P) (hA:RdF encI 1 w.heap.size w va A)
 (hF:FnP w.heap.size w f first cap (fun i k=>i<P.length∧k<A.length) T) (hT:∀ i k,i<P.length→k<A.length→0≤T i k∧T i k≤100000) (hcall:∀ (args:Array Value) (w:World),(callFunc f args).run Tryz.prog w=.ok (.enter f args) w) :
 Ret Tryz.prog 36 [.agg #[vp,va,o],.agg #[.int .i64 x,.int .i64 y],.func (.func f) first.toArray cap.toArray].toArray w (raV (red (plS P A x y T 4) (whS P A x y))):=by
 refine Ret.of mixed tyTab Tryz.func36 rfl rfl ?_
 replace hP:RdF encI 1 (fnCx mixed tyTab Tryz.f36.ntmps w).B (fnCx mixed tyTab Tryz.f36.ntmps w).w0 vp P:=hP
 replace hA:RdF encI 1 (fnCx mixed tyTab Tryz.f36.ntmps w).B (fnCx mixed tyTab Tryz.f36.ntmps w).w0 va A:=hA
 replace hF:FnP (fnCx mixed tyTab Tryz.f36.ntmps w).B (fnCx mixed tyTab Tryz.f36.ntmps w).w0 f first cap (fun i k=>i<P.length∧k<A.length) T:=hF
 have hop:=hP.sl.oc
 have hoa:=hA.sl.oc
 have hnp:=hc.np
 have hna:=hc.na
 have hfx:=fr_bd hc.up hnp.1 hx.1
 have hfy:=fr_bd hc.ua hna.1 hx.2
 have hbp:=on_bd hc.up hnp.1 hx.1
 have hba:=on_bd hc.ua hna.1 hx.2
 have hW:0<whS P A x y∧whS P A x y≤16000000:=by
  have h1:=Int.mul_pos hfx.2.2 hfy.2.2
  have h2:=Int.mul_le_mul (show fr1 P x+fr0 P x≤4000 by omega) (show fr1 A y+fr0 A y≤4000 by omega) (by omega) (by omega)
  exact ⟨h1,h2⟩
 have hM:∀ q,q<4→0≤((cnP P A x y).getD q (0,0,0)).2.2*T ((cnP P A x y).getD q (0,0,0)).1 ((cnP P A x y).getD q (0,0,0)).2.1∧((cnP P A x y).getD q (0,0,0)).2.2*T ((cnP P A x y).getD q (0,0,0)).1 ((cnP P A x y).getD q (0,0,0)).2.1≤400000000000:=fun q hq =>
  mul_p (cnL_bd hfx.1 hfx.2.1 hfy.1 hfy.2.1 hq) (hT _ _ (cnP_at hbp.1 hba.1 hq).1 (cnP_at hbp.1 hba.1 hq).2)
 have hS:∀ q,q≤4 → -(q*400000000000)≤plS P A x y T q∧plS P A x y T q≤q*400000000000:=aS_bd (L:=cnP P A x y) fun q hq=>⟨Int.le_trans (by omega:(-400000000000:Int)≤0) (hM q hq).1,(hM q hq).2⟩
 have hS4:=hS 4 (by omega)
 refine W.sreg (WO.boxA rfl rfl (fun b1 hb1=>(WO.boxA rfl rfl (fun b2 hb2=>(WO.box1 rfl (by rfl) rfl (fun b3 hb3=>(WO.alloc rfl rfl rfl (fun b4 hb4=>(WO.nil (W.sreg (WO.alloc rfl rfl rfl (fun b5 hb5=>(WO.store1 rfl rfl rfl (by rfl) Pick.head rfl (WO.nil (W.seq (W.sreg (WO.loadA rfl rfl (Cells.own (Pick.tail (Pick.tail (Pick.tail (Pick.tail (Pick.head)))))) rfl rfl (WO.loadA rfl rfl (Cells.own (Pick.tail (Pick.tail (Pick.tail (Pick.head))))) rfl rfl ?_))))))))))))))))))
 refine WO.call (Post:=fun v Hq=>∃ b1 b2 b3 b4,v=.func (.func 189) #[] #[.pointer (some ⟨b1,0,none⟩),.pointer (some ⟨b2,0,none⟩),.pointer (some ⟨b3,0,none⟩),.pointer (some ⟨b4,0,none⟩)]∧Hq=[pt b4 (.cells #[.int .i64 (fr1 A y),.int .i64 (fr0 A y)] 203 (0,0)),pt b3 (.cells #[.int .i64 (fr1 P x),.int .i64 (fr0 P x)] 203 (0,0)),pt b2 (.cells #[.int .i64 (nbI A y:Int)] 3 (0,0)),pt b1 (.cells #[.int .i64 (nbI P x:Int)] 3 (0,0))]) rfl Tryz.call100 (fun L w hi=>c_corners w vp va o P A R x y hc hx ho (hP.later hi) (hA.later hi)) rfl ?_
 rintro _ _ ⟨e1,e2,e3,e4,rfl,rfl⟩
 refine WO.nil (W.block ?_)
 refine W.rangeFunc2 [pt e4 (.cells #[.int .i64 (fr1 A y),.int .i64 (fr0 A y)] 203 (0,0)),pt e3 (.cells #[.int .i64 (fr1 P x),.int .i64 (fr0 P x)] 203 (0,0)),pt e2 (.cells #[.int .i64 (nbI A y:Int)] 3 (0,0)),pt e1 (.cells #[.int .i64 (nbI P x:Int)] 3 (0,0))] (fun q=>[pt b5 (.cells #[.int .i64 (plS P A x y T q)] 2 (0,0)),pt b1 (.cells #[vp,va,o] 94 (0,0)),pt b2 (.cells #[.int .i64 x,.int .i64 y] 36 (0,0)),pt b3 (.cells #[.func (.func f) first.toArray cap.toArray] 98 (0,0)),pt b4 (.cells #[.int .i64 0,.int .i64 0] 38 (0,0))]) (cnV (nbI P x) (nbI A y) (fr1 P x) (fr0 P x) (fr1 A y) (fr0 A y)) rfl rfl rfl rfl Tryz.call189 (by repeat (first | exact Sub.nil | refine Sub.cons (by repeat first | exact .head | apply Pick.tail) ?_)) ?_ ?_ ?_
 ·intro l Hc hy w1 M' hB hk hM hi
  exact c_corners1 _ _ (nbI P x) (nbI A y) _ _ _ _ (by omega) hfx.1 hfx.2.1 hfy.1 hfy.2.1 l Hc hy e1 e2 e3 e4 w1 M' hB hk hM hi
 ·intro l w1 M hB hM9 hk9 q z hz
  obtain ⟨hq4,rfl⟩:=cnV_some hz
  refine W.sreg (WO.alloc rfl rfl rfl (fun b6 hb6=>(WO.storeA rfl rfl rfl rfl Pick.head rfl rfl (WO.nil (W.region (WO.p rfl rfl (WO.nil (W.block ?_))))))))
  refine W.drawD 6 [.f 0 [],.r 1 [],.b 2 [],.b 3 [],.b 4 [],.r 5 []] [] (A0:=[_]) (H0:=[_,_,_,_,_]) (.cons (Pick.tail .head) (.cons .head (.cons .head (.cons .head (.cons .head (.cons .head .nil)))))) (by kernel_rfl) ?_ ?_
  ·repeat constructor
  refine DT.f [_,_,_,_,_,_] rfl rfl rfl rfl (WO.load rfl rfl (Cell.own Pick.head rfl) rfl (WO.nil ⟨rfl,rfl⟩)) (DT.r rfl rfl rfl (WO.p rfl rfl (WO.nil ⟨rfl,rfl⟩)) (DT.b rfl rfl rfl (WO.load rfl rfl (Cell.own (Pick.tail (Pick.tail (Pick.tail (Pick.head)))) rfl) rfl (WO.nil ⟨rfl,rfl⟩)) (DT.b rfl rfl rfl (WO.loadA rfl rfl (Cells.own Pick.head) rfl rfl (WO.nil ⟨rfl,rfl⟩)) (DT.b rfl rfl rfl (WO.callCR (first:=first) (captured:=cap) rfl rfl hcall (fun L w' hi=>FnP.later (C:=rdCx (fnCx mixed tyTab Tryz.f36.ntmps w) l w1 M hB hM9) hF (Nat.le_refl _) hk9 hi (cnP_at hbp.1 hba.1 hq4)) rfl (WO.nil ⟨rfl,rfl⟩)) ?_))))
  refine DT.r rfl rfl rfl (WO.ar rfl rfl rfl (by (first | have h8:=hM q hq4;unfold cnP at h8;unfold in64;omega)) rfl (WO.nil ⟨rfl,rfl⟩)) (DT.nil [_,_,_,_,_,_] rfl (WO.ar rfl rfl rfl (by (first | have h8:=hM q hq4;have h9:=hS q (by omega);unfold cnP at h8;unfold in64;omega)) rfl (WO.store1 rfl rfl rfl (by rfl) Pick.head rfl (WO.nil ?_))))
  (repeat (first | exact Sub.nil | refine Sub.cons (by repeat first | exact .head | apply Pick.tail) ?_))
 refine W.seq ?_
 rw [show (cnV (nbI P x) (nbI A y) (fr1 P x) (fr0 P x) (fr1 A y) (fr0 A y)).length=4 from rfl]
 refine W.drawD 5 [.b 0 [],.b 1 [],.b 2 [],.b 3 [],.b 4 []] [] (A0:=[_]) (H0:=[_,_,_,_,_,_,_,_]) (.cons (Pick.tail (Pick.tail (Pick.tail (Pick.tail (Pick.tail (Pick.tail (Pick.tail (Pick.tail .head)))))))) (.cons .head (.cons .head (.cons .head (.cons .head (.cons .head (.cons .head (.cons .head (.cons .head .nil))))))))) (by kernel_rfl) ?_ ?_
 ·repeat constructor
 refine DT.b rfl rfl rfl (WO.loadA rfl rfl (Cells.own (Pick.tail (Pick.tail (Pick.tail (Pick.tail (Pick.tail (Pick.head))))))) rfl rfl (WO.nil ⟨rfl,rfl⟩)) (DT.b rfl rfl rfl (WO.load rfl rfl (Cell.own (Pick.tail (Pick.tail (Pick.tail (Pick.tail (Pick.head))))) rfl) rfl (WO.nil ⟨rfl,rfl⟩)) (DT.b rfl rfl rfl (WO.loadA rfl rfl (Cells.own (Pick.tail (Pick.tail (Pick.tail (Pick.tail (Pick.tail (Pick.head))))))) rfl rfl (WO.nil ⟨rfl,rfl⟩)) (DT.b rfl rfl rfl (WO.loadA rfl rfl (Cells.own (Pick.tail (Pick.tail (Pick.tail (Pick.tail (Pick.tail (Pick.tail (Pick.head)))))))) rfl rfl (WO.nil ⟨rfl,rfl⟩)) ?_)))
 refine DT.b rfl rfl rfl (WO.callR rfl Tryz.call102 (fun L w hi=>c_whole w vp va o P A R x y hc hx ho (hP.later hi) (hA.later hi)) rfl (WO.nil ⟨rfl,rfl⟩)) (DT.nil [_,_,_,_,_,_,_,_,_] rfl (WO.callR rfl Tryz.call101 (fun L w hi=>c_fraction w vp va o _ _ (by omega) (by omega) hop hoa ho) rfl (WO.storeA rfl rfl rfl rfl Pick.head rfl rfl (WO.nil (W.ret ?_)))))
 exact fin.ret (Res.one rfl (RV.cell rfl rfl rfl (Cells.own (by repeat exact .head)))) rfl
end Go.Proofs.YtfchgmiiicidcaaGreat.Ch
namespace Go.Proofs.YtfchgmiiicidcaaGreat.Ch
open Go Go.TH
attribute [local irreducible] W WO pt
set_option maxRecDepth 10000
set_option maxHeartbeats 1000000
def tAt (T:List (List Int)) (i k:Nat):Int:=(T.getD i []).getD k 0
def loAt (R:Rws) (i k:Nat):Int:=((R.getD i []).getD k (0,0)).1
def hiAt (R:Rws) (i k:Nat):Int:=((R.getD i []).getD k (0,0)).2
def valQ (P A:List Int) (x y:Int) (T:Nat→Nat→Int):Int × Int:=red (plS P A x y T 4) (whS P A x y)
theorem OkTr.bd {P A:List Int} {R:Rws} {T:List (List Int)} (hc:OkC P A R) (ht:OkTr R T) {i k:Nat} (hi:i<P.length) (hk:k<A.length):0≤tAt T i k∧tAt T i k≤100000:=by
 have hnr:=hc.nr
 have hrw:=hc.row (show i<R.length by omega)
 have h1:=hc.at_ (show i<R.length by omega) (show k<(R.getD i []).length by omega)
 have h2:=ht.v i (by omega) k (by omega)
 unfold tAt;omega
end Go.Proofs.YtfchgmiiicidcaaGreat.Ch
namespace Go.Proofs.YtfchgmiiicidcaaGreat.Ch
open Go Go.TH
attribute [local irreducible] W WO pt
set_option maxRecDepth 10000
set_option maxHeartbeats 1000000
theorem c_Span (w:World) (vp va o:Value) (rv:List Value) (P A:List Int) (R:Rws) (x y:Int) (hc:OkC P A R) (hx:On P x∧On A y) (hP:RdF encI 1 w.heap.size w vp P) (hA:RdF encI 1 w.heap.size w va A) (hR:RdR encP 2 w.heap.size w o rv R):Ret Tryz.prog 9 [.agg #[vp,va,o],.agg #[.int .i64 x,.int .i64 y]].toArray w (.tuple #[.agg #[.int .i64 (valQ P A x y (loAt R)).1,.int .i64 (valQ P A x y (loAt R)).2,.int .i64 (valQ P A x y (hiAt R)).1,.int .i64 (valQ P A x y (hiAt R)).2],.int .i64 0]):=by
 refine Ret.of mixed tyTab Tryz.func9 rfl rfl ?_
 replace hR:RdR encP 2 (fnCx mixed tyTab Tryz.f9.ntmps w).B (fnCx mixed tyTab Tryz.f9.ntmps w).w0 o rv R:=hR
 replace hP:RdF encI 1 (fnCx mixed tyTab Tryz.f9.ntmps w).B (fnCx mixed tyTab Tryz.f9.ntmps w).w0 vp P:=hP
 replace hA:RdF encI 1 (fnCx mixed tyTab Tryz.f9.ntmps w).B (fnCx mixed tyTab Tryz.f9.ntmps w).w0 va A:=hA
 have hop:=hP.sl.oc
 have hoa:=hA.sl.oc
 have hoo:=hR.sl.oc
 have hnr:=hc.nr
 refine W.sreg (WO.boxA rfl rfl (fun b1 hb1=>(WO.boxA rfl rfl (fun b2 hb2=>(WO.alloc rfl rfl rfl (fun b3 hb3=>(WO.p rfl rfl (WO.nil (W.sreg (WO.loadA rfl rfl (Cells.own (Pick.tail (Pick.tail (Pick.head)))) rfl rfl (WO.loadA rfl rfl (Cells.own (Pick.tail (Pick.head))) rfl rfl (WO.buildSl rfl rfl rfl rfl rfl rfl rfl rfl rfl (fun v4=>(WO.callR rfl Tryz.call35 (fun L w hi=>c_newSheet w _ vp va o rv P A R [(x,y)] hc (by intro z hz;obtain rfl:=List.mem_singleton.1 hz;exact hx) (RdF.of_ow (e:=36) encP_ok (by repeat exact .head) hi) (hP.later hi) (hA.later hi) (hR.later hi)) rfl (WO.p rfl rfl (WO.p rfl rfl (WO.p rfl rfl ?_)))))))))))))))))
 refine WO.alloc rfl rfl rfl (fun b5 hb5=>(WO.storeA rfl rfl rfl rfl Pick.head rfl (oc3 hop hoa hoo) (WO.p rfl rfl (WO.nil (W.seq (W.sreg (WO.p rfl rfl (WO.p rfl rfl (WO.nil ?_)))))))))
 refine W.cond_bl rfl (fun c1=>?_) (fun c1=>?_)
 ·exfalso;omega
 ·refine W.skip (W.seq ?_)
  refine W.drawD 9 [.b 0 [],.b 1 [],.b 2 [],.r 3 [],.b 4 [],.b 5 [],.b 6 [],.b 7 [],.r 8 []] [] (A0:=[_]) (H0:=[_,_,_,_]) (.cons (Pick.tail (Pick.tail .head)) (.cons .head (.cons .head (.cons .head (.cons .head .nil))))) (by kernel_rfl) ?_ ?_
  ·repeat constructor
  refine DT.b rfl rfl rfl (WO.loadA rfl rfl (Cells.own Pick.head) rfl rfl (WO.nil ⟨rfl,rfl⟩)) (DT.b rfl rfl rfl (WO.loadA rfl rfl (Cells.own (Pick.tail (Pick.tail (Pick.head)))) rfl rfl (WO.nil ⟨rfl,rfl⟩)) (DT.b rfl rfl rfl (WO.loadA rfl rfl (Cells.own Pick.head) rfl rfl (WO.nil ⟨rfl,rfl⟩)) (DT.r rfl rfl rfl (WO.p rfl rfl (WO.nil ⟨rfl,rfl⟩)) ?_)))
  refine DT.b rfl rfl rfl (WO.callR rfl Tryz.call36 (fun L w hi=>c_value w vp va o P A R x y 37 [.agg #[vp,va,o]] [] (loAt R) hc hx hoo (hP.later hi) (hA.later hi) (fun w' hB hk i k hs=>c_lo w' vp va o rv R i k (by omega) (by have:=hc.row (show i<R.length by omega);omega) (((hR.later hi).agree hk).up hB)) (fun i k h1 h2=>by have hrw:=hc.row (show i<R.length by omega);have:=hc.at_ (show i<R.length by omega) (show k<(R.getD i []).length by omega);unfold loAt;omega) Tryz.call37) rfl (WO.nil ⟨rfl,rfl⟩)) (DT.b rfl rfl rfl (WO.loadA rfl rfl (Cells.own Pick.head) rfl rfl (WO.nil ⟨rfl,rfl⟩)) ?_)
  refine DT.b rfl rfl rfl (WO.loadA rfl rfl (Cells.own (Pick.tail (Pick.tail (Pick.head)))) rfl rfl (WO.nil ⟨rfl,rfl⟩)) (DT.b rfl rfl rfl (WO.loadA rfl rfl (Cells.own Pick.head) rfl rfl (WO.nil ⟨rfl,rfl⟩)) (DT.r rfl rfl rfl (WO.p rfl rfl (WO.nil ⟨rfl,rfl⟩)) (DT.nil [_,_,_,_,_] rfl ?_)))
  refine WO.callR rfl Tryz.call36 (fun L w hi=>c_value w vp va o P A R x y 38 [.agg #[vp,va,o]] [] (hiAt R) hc hx hoo (hP.later hi) (hA.later hi) (fun w' hB hk i k hs=>c_hi w' vp va o rv R i k (by omega) (by have:=hc.row (show i<R.length by omega);omega) (((hR.later hi).agree hk).up hB)) (fun i k h1 h2=>by have hrw:=hc.row (show i<R.length by omega);have:=hc.at_ (show i<R.length by omega) (show k<(R.getD i []).length by omega);unfold hiAt;omega) Tryz.call38) rfl (WO.build rfl rfl rfl rfl rfl (WO.storeA rfl rfl rfl rfl Pick.head rfl rfl (WO.p rfl rfl (WO.nil (W.ret ?_)))))
  exact fin.ret (Res.two rfl (RV.cell rfl rfl rfl (Cells.own (by repeat exact .head))) (RV.tmp rfl)) rfl
end Go.Proofs.YtfchgmiiicidcaaGreat.Ch
namespace Go.Proofs.YtfchgmiiicidcaaGreat
open Go Go.TH
theorem whS_pos {P A:List Int} {R:Ch.Rws} {x y:Int} (hc:Ch.OkC P A R) (hx:Ch.On P x∧Ch.On A y):0<Ch.whS P A x y :=
  Int.mul_pos (Ch.fr_bd hc.up hc.np.1 hx.1).2.2 (Ch.fr_bd hc.ua hc.na.1 hx.2).2.2
end Go.Proofs.YtfchgmiiicidcaaGreat
namespace Go.Proofs.YtfchgmiiicidcaaGreat
open Go Go.TH
theorem isSl_lit {a:Option Addr} {n c:Nat} (h:n≤9223372036854775807) (hb:0<n→∃ b o,a=some ⟨b,o,none⟩):IsSl (.slice a n c) n:=⟨h,a,c,rfl,hb⟩
theorem gcd2_mul {k a b:Int} (hk:0<k) (ha:0≤a) (hb:0≤b):Ch.gcd2 (k*a) (k*b)=k*Ch.gcd2 a b:=by
  unfold Ch.gcd2
  obtain ⟨n,rfl⟩:=Int.eq_ofNat_of_zero_le (Int.le_of_lt hk)
  obtain ⟨a,rfl⟩:=Int.eq_ofNat_of_zero_le ha
  obtain ⟨b,rfl⟩:=Int.eq_ofNat_of_zero_le hb
  rw [← Int.natCast_mul,← Int.natCast_mul]
  simp only [Int.toNat_natCast]
  rw [Nat.gcd_mul_left];simp
theorem ab_mul {k n:Int} (hk:0<k):Ch.ab (k*n)=k*Ch.ab n:=by
  unfold Ch.ab
  rcases Int.le_total 0 n with h | h
  · have:=Int.mul_nonneg (Int.le_of_lt hk) h
    rw [show max n (-n)=n by omega];omega
  · have:=Int.mul_nonneg (Int.le_of_lt hk) (show 0 ≤ -n by omega)
    rw [show max n (-n) = -n by omega]
    rw [Int.mul_neg] at this ⊢;omega
/-- a fraction stays if both parts are a number of times as great -/
theorem red_mul {k n d:Int} (hk:0<k) (hd:0<d):Ch.red (k*n) (k*d)=Ch.red n d:=by
  have hg:=Ch.gcd2_pos (Ch.ab_nn n) hd
  unfold Ch.red
  rw [ab_mul hk,gcd2_mul hk (Ch.ab_nn n) (Int.le_of_lt hd),Int.mul_tdiv_mul_of_pos _ _ hk,Int.mul_tdiv_mul_of_pos _ _ hk]
theorem red_same {n d m e k j:Int} (hk:0<k) (hj:0<j) (hd:0<d) (he:0<e) (h1:k*n=j*m) (h2:k*d=j*e):Ch.red n d=Ch.red m e:=by
  rw [← red_mul hk hd,h1,h2,red_mul hj he]
end Go.Proofs.YtfchgmiiicidcaaGreat
namespace Go.Proofs.YtfchgmiiicidcaaGreat
open Go Go.TH
attribute [local irreducible] W WO pt
set_option maxRecDepth 10000
set_option maxHeartbeats 4000000
theorem Cell.as {C:Cx Tryz.prog} {H:List HP} {a:Addr} {u v:Value} (e:u=v) (h:Cell C H a u):Cell C H a v:=e▸h
theorem eq38t (a b:Int):EqT Tryz.prog .eql 38 (.agg #[.int .i64 a,.int .i64 b]) (.agg #[.int .i64 a,.int .i64 b]) (.bool true):=by
 intro x y w
 simp [go_sem,Tryz.eqGuardType38,Tryz.underlying38]
theorem mul_bd {a b A B:Int} (ha:0≤a∧a≤A) (hb:0≤b∧b≤B):0≤a*b∧a*b≤A*B:=⟨Int.mul_nonneg ha.1 hb.1,Int.mul_le_mul ha.2 hb.2 hb.1 (by omega)⟩
theorem mul_bd2 {a b A B:Int} (ha:0≤a∧a≤A) (hb : -B≤b∧b≤B) : -(A*B)≤a*b∧a*b≤A*B:=by
 rcases Int.le_total 0 b with h | h
 ·have:=mul_bd ha ⟨h,hb.2⟩
  omega
 ·have:=mul_bd ha (b := -b) (B:=B) (by omega)
  rw [Int.mul_neg] at this
  omega
end Go.Proofs.YtfchgmiiicidcaaGreat
namespace Go.Proofs.YtfchgmiiicidcaaGreat
open Go Go.TH
attribute [local irreducible] W WO pt
set_option maxRecDepth 10000
set_option maxHeartbeats 1000000
abbrev Sk:=Nat × Nat
abbrev KV:=List (Sk × Int)
def kv (k:Sk):Value:=.agg #[.int .i64 (k.1:Int),.int .i64 (k.2:Int)]
def lkD (l:KV) (k:Sk):Int:=(l.lookup k).getD 0
def ent (l:KV) (k:Sk):KV:=if k∈l.map Prod.fst then l else l++[(k,0)]
def putK (l:KV) (k:Sk) (v:Int):KV:=l.map fun p=>if p.1=k then (p.1,v) else p
def delK (l:KV) (k:Sk):KV:=l.filter fun p=>decide (p.1≠k)
def NdK (l:KV):Prop:=(l.map Prod.fst).Nodup
def asK:KV→Int
  | []=>0
  | p::r=>Ch.ab p.2+asK r
theorem lk_same (a:Sk) (v:Int) (r:KV):((a,v)::r).lookup a=some v:=by rw [List.lookup_cons];simp
theorem lk_ne {k a:Sk} (h:¬ k=a) (v:Int) (r:KV):((a,v)::r).lookup k=r.lookup k:=by
  have e:(k==a)=false:=beq_false_of_ne h
  rw [List.lookup_cons,e]
theorem lkD_cons (a:Sk) (v:Int) (r:KV) (k:Sk):lkD ((a,v)::r) k=if k=a then v else lkD r k:=by
  unfold lkD
  by_cases h:k=a
  · subst h;rw [lk_same,if_pos rfl];rfl
  · rw [lk_ne h,if_neg h]
theorem lkD_none:∀ {l:KV} {k:Sk},k ∉ l.map Prod.fst→lkD l k=0
  | [],_,_=>rfl
  | (a,v)::r,k,h=>by
    rw [List.map_cons,List.mem_cons] at h
    rw [lkD_cons,if_neg (fun e=>h (.inl e))]
    exact lkD_none (fun e=>h (.inr e))
theorem lkD_app (k0 k:Sk) (v:Int):∀ {l:KV},k0 ∉ l.map Prod.fst→lkD (l++[(k0,v)]) k=if k=k0 then v else lkD l k
  | [],_=>by show lkD ((k0,v)::[]) k=_;rw [lkD_cons]
  | (a,u)::r,h=>by
    rw [List.map_cons,List.mem_cons] at h
    rw [List.cons_append,lkD_cons,lkD_cons,lkD_app k0 k v (fun e=>h (.inr e))]
    by_cases h1:k=a
    · rw [if_pos h1,if_pos h1,if_neg (fun e=>h (.inl (by rw [← e,h1])))]
    · rw [if_neg h1,if_neg h1]
theorem ent_nd {l:KV} {k:Sk} (h:NdK l):NdK (ent l k):=by
  unfold ent
  split
  · exact h
  · rename_i g
    unfold NdK at h ⊢
    rw [List.map_append,List.nodup_append]
    refine ⟨h,List.pairwise_singleton _ _,fun x hx y hy e=>?_⟩
    have h4:y=k:=List.mem_singleton.1 hy
    subst h4 e
    exact g hx
theorem ent_in (l:KV) (k:Sk):k∈(ent l k).map Prod.fst:=by
  unfold ent
  split
  · assumption
  · simp
theorem ent_lk (l:KV) (k k':Sk):lkD (ent l k) k'=lkD l k':=by
  unfold ent
  split
  · rfl
  · rename_i g
    rw [lkD_app _ _ _ g]
    split
    · rename_i e;subst e;exact (lkD_none g).symm
    · rfl
theorem as_app:∀ (l r:KV),asK (l++r)=asK l+asK r
  | [],r=>by simp [asK]
  | p::l,r=>by rw [List.cons_append];simp only [asK];rw [as_app l r];omega
theorem ent_as (l:KV) (k:Sk):asK (ent l k)=asK l:=by
  unfold ent
  split
  · rfl
  · rw [as_app];simp [asK,Ch.ab]
theorem put_keys (l:KV) (k:Sk) (v:Int):(putK l k v).map Prod.fst=l.map Prod.fst:=by
  unfold putK
  rw [List.map_map]
  refine List.map_congr_left fun p _=>?_
  simp only [Function.comp]
  split <;> rfl
theorem put_nd {l:KV} {k:Sk} {v:Int} (h:NdK l):NdK (putK l k v):=by unfold NdK;rw [put_keys];exact h
theorem put_lk (k k':Sk) (v:Int):∀ {l:KV},k∈l.map Prod.fst→lkD (putK l k v) k'=if k'=k then v else lkD l k'
  | [],h=>by simp at h
  | (a,u)::r,h=>by
    have e:putK ((a,u)::r) k v=(if a=k then (a,v) else (a,u))::putK r k v:=rfl
    rw [e]
    by_cases h1:a=k
    · subst h1
      rw [if_pos rfl,lkD_cons]
      by_cases h2:k'=a
      · rw [if_pos h2,if_pos h2]
      · rw [if_neg h2,if_neg h2,lkD_cons,if_neg h2]
        by_cases h3:a∈r.map Prod.fst
        · rw [put_lk a k' v h3,if_neg h2]
        · have:putK r a v=r:=by
            unfold putK
            conv=>rhs;rw [← List.map_id r]
            refine List.map_congr_left fun p hp=>?_
            rw [if_neg (fun e=>h3 (by rw [← e];exact List.mem_map_of_mem hp))];rfl
          rw [this]
    · rw [if_neg h1,lkD_cons,lkD_cons]
      have h3:k∈r.map Prod.fst:=by
        rw [List.map_cons,List.mem_cons] at h
        rcases h with h | h
        · exact absurd h.symm h1
        · exact h
      rw [put_lk k k' v h3]
      by_cases h2:k'=a
      · rw [if_pos h2,if_neg (fun e=>h1 (by rw [← h2,e])),if_pos h2]
      · rw [if_neg h2,if_neg h2]
theorem put_as (k:Sk) (v:Int):∀ {l:KV},NdK l→k∈l.map Prod.fst→asK (putK l k v)≤asK l+Ch.ab (v-lkD l k)
  | [],_,h=>by simp at h
  | (a,u)::r,hn,h=>by
    have e:putK ((a,u)::r) k v=(if a=k then (a,v) else (a,u))::putK r k v:=rfl
    unfold NdK at hn
    rw [List.map_cons,List.nodup_cons] at hn
    rw [e,lkD_cons]
    by_cases h1:a=k
    · subst h1
      have:putK r a v=r:=by
        unfold putK
        conv=>rhs;rw [← List.map_id r]
        refine List.map_congr_left fun p hp=>?_
        rw [if_neg (fun e=>hn.1 (List.mem_map.2 ⟨p,hp,e⟩))];rfl
      rw [if_pos rfl,if_pos rfl,this]
      simp only [asK]
      unfold Ch.ab
      omega
    · rw [if_neg h1,if_neg (fun e=>h1 e.symm)]
      have h3:k∈r.map Prod.fst:=by
        rw [List.map_cons,List.mem_cons] at h
        rcases h with h | h
        · exact absurd h.symm h1
        · exact h
      have:=put_as k v (l:=r) hn.2 h3
      simp only [asK]
      omega
theorem del_nd {l:KV} {k:Sk} (h:NdK l):NdK (delK l k):=List.Nodup.sublist (List.Sublist.map _ List.filter_sublist) h
theorem del_lk (k k':Sk):∀ (l:KV),lkD (delK l k) k'=if k'=k then 0 else lkD l k'
  | []=>by simp [delK,lkD]
  | (a,u)::r=>by
    unfold delK
    by_cases h1:a=k
    · rw [List.filter_cons_of_neg (by simp [h1])]
      have:=del_lk k k' r
      unfold delK at this
      rw [this,lkD_cons]
      by_cases h2:k'=k
      · rw [if_pos h2,if_pos h2]
      · rw [if_neg h2,if_neg h2,if_neg (fun e=>h2 (by rw [e,h1]))]
    · rw [List.filter_cons_of_pos (by simp [h1]),lkD_cons,lkD_cons]
      have:=del_lk k k' r
      unfold delK at this
      rw [this]
      by_cases h2:k'=k
      · rw [if_pos h2,if_pos h2,if_neg (fun e=>h1 (by rw [← e,h2]))]
      · rw [if_neg h2,if_neg h2]
theorem as_nn:∀ (l:KV),0≤asK l
  | []=>Int.le_refl _
  | p::l=>by simp only [asK];have:=as_nn l;have:=Ch.ab_nn p.2;omega
theorem del_as (k:Sk):∀ (l:KV),asK (delK l k)≤asK l
  | []=>Int.le_refl _
  | (a,u)::r=>by
    have:=del_as k r
    unfold delK at this ⊢
    have h0:=Ch.ab_nn u
    by_cases h1:a=k
    · rw [List.filter_cons_of_neg (by simp [h1])];simp only [asK];omega
    · rw [List.filter_cons_of_pos (by simp [h1])];simp only [asK];omega
def addK (l:KV) (k:Sk) (d:Int):KV:=putK (ent l k) k (lkD l k+d)
theorem add_nd {l:KV} {k:Sk} {d:Int} (h:NdK l):NdK (addK l k d):=put_nd (ent_nd h)
theorem add_lk (l:KV) (k:Sk) (d:Int) (k':Sk):lkD (addK l k d) k'=lkD l k'+if k'=k then d else 0:=by
  unfold addK
  rw [put_lk _ _ _ (ent_in l k),ent_lk]
  by_cases h:k'=k
  · rw [if_pos h,if_pos h,h]
  · rw [if_neg h,if_neg h];omega
theorem add_as {l:KV} {k:Sk} {d:Int} (h:NdK l):asK (addK l k d)≤asK l+Ch.ab d:=by
  have:=put_as k (lkD l k+d) (ent_nd (k:=k) h) (ent_in l k)
  unfold addK
  rw [ent_as,ent_lk,show lkD l k+d-lkD l k=d by omega] at this
  exact this
theorem lk_as:∀ {l:KV} (k:Sk),Ch.ab (lkD l k)≤asK l
  | [],_=>by simp [lkD,asK,Ch.ab]
  | (a,u)::r,k=>by
    rw [lkD_cons]
    have:=as_nn r
    have:=lk_as (l:=r) k
    have:=Ch.ab_nn u
    simp only [asK]
    split <;> omega
def MtK (es:List MapEntry) (l:KV):Prop:=es.map (fun e=>(e.key,e.val))=l.map (fun p=>(kv p.1,Value.int .i64 p.2))
def Reg (es:List MapEntry) (clk:Nat):Prop:=(es.map (·.born)).Nodup∧∀ e∈es,e.born<clk
def MapS (b:Nat) (l:KV) (p:Array MapEntry→Prop):HP:=fun h=>∃ (es:Array MapEntry) (clk:Nat),MtK es.toList l∧Reg es.toList clk∧p es∧pt b (.map es clk) h
abbrev MapK (b:Nat) (l:KV):HP:=MapS b l fun _=>True
def hasB (k:Sk) (n:Nat) (es:Array MapEntry):Prop:=∃ j:Nat,∃ e:MapEntry,es[j]?=some e∧e.key=kv k∧e.born=n
theorem kv_inj {k k':Sk} (h:kv k=kv k'):k=k':=by
  unfold kv at h
  obtain ⟨a,b⟩:=k
  obtain ⟨c,d⟩:=k'
  simp at h
  obtain ⟨h1,h2⟩:=h
  exact Prod.ext (by show a=c;omega) (by show b=d;omega)
theorem MtK.at {es:List MapEntry} {l:KV} (h:MtK es l) (j:Nat):(es[j]?).map (fun e=>(e.key,e.val))=(l[j]?).map (fun p=>(kv p.1,Value.int .i64 p.2)):=by
  have:=congrArg (·[j]?) h
  simpa [List.getElem?_map] using this
theorem run_eqP (w:World) (a b:Sk):(Op.equal 149 (kv a) (kv b)).run Tryz.prog w=.ok (bl (a=b)) w:=by
  obtain ⟨a1,a2⟩:=a
  obtain ⟨b1,b2⟩:=b
  unfold kv
  simp [Op.equal,Op.maxDepth,go_sem,Tryz.underlying149]
  by_cases h1:a1=b1
  · by_cases h2:a2=b2
    · subst h1 h2;simp [bl_eq]
    · have g:¬ (a2:Int)=(b2:Int):=by omega
      subst h1;simp [bl_eq,h2,g]
  · have g:¬ (a1:Int)=(b1:Int):=by omega
    simp [bl_eq,h1,g]
theorem run_chk3 (w:World) (e:Bool) (n:Nat) (v:Value):(Instr.checkKey e (n+1) 3 v).run Tryz.prog w=.ok () w:=by
  unfold Instr.checkKey
  simp [run_underlying Tryz.underlying3]
theorem run_chkP (w:World) (e:Bool) (k:Sk):(Instr.checkKey e 10000 149 (kv k)).run Tryz.prog w=.ok () w:=by
  unfold kv
  rw [show (10000:Nat)=9998+1+1 from rfl]
  unfold Instr.checkKey
  simp [go_sem,run_underlying Tryz.underlying149,run_chk3]
theorem staysP (w:World) (k:Sk):(Instr.keyThatStays (kv k) (kv k)).run Tryz.prog w=.ok (kv k) w:=by
  have h:Instr.sameBits (9999+1) (kv k) (kv k)=true:=by
    unfold kv
    unfold Instr.sameBits
    simp [Instr.sameBits]
  unfold Instr.keyThatStays
  rw [show (10000:Nat)=9999+1 from rfl,h]
  rfl
theorem findP (w:World) (k:Sk):∀ (es:List MapEntry) (l:KV) (i:Nat),MtK es l →
    (∃ (j:Nat) (v:Int),l[j]?=some (k,v)∧(∀ j',j'<j→∀ p,l[j']?=some p→p.1≠k)∧(Instr.findAsking 149 (kv k) es i).run Tryz.prog w=.ok (some (i+j,.int .i64 v)) w) ∨
    (k ∉ l.map Prod.fst∧(Instr.findAsking 149 (kv k) es i).run Tryz.prog w=.ok none w)
  | [],l,i,h=>by
    unfold MtK at h
    obtain rfl:l=[]:=by cases l with
      | nil=>rfl
      | cons a r=>simp at h
    exact .inr ⟨by simp,by simp [Instr.findAsking]⟩
  | e::es,[],i,h=>by unfold MtK at h;simp at h
  | e::es,(a,v)::r,i,h=>by
    unfold MtK at h
    simp only [List.map_cons,List.cons.injEq,Prod.mk.injEq] at h
    obtain ⟨⟨h1,h1'⟩,h2⟩:=h
    by_cases g:k=a
    · subst g
      exact .inl ⟨0,v,rfl,fun j' hj=>by omega,by simp [Instr.findAsking,h1,h1',run_eqP,bl_eq]⟩
    · rcases findP w k es r (i+1) h2 with ⟨j,v',q1,q2,q3⟩ | ⟨q1,q2⟩
      · refine .inl ⟨j+1,v',by simpa using q1,fun j' hj p hp=>?_,?_⟩
        · match j',hp with
          | 0, hp => obtain rfl : (a, v) = p := by simpa using hp
                     exact fun e=>g e.symm
          | j'+1,hp=>exact q2 j' (by omega) p (by simpa using hp)
        · simp [Instr.findAsking,h1,run_eqP,bl_eq,g,q3]
          omega
      · exact .inr ⟨by rw [List.map_cons,List.mem_cons];exact fun e=>e.elim g q1,by simp [Instr.findAsking,h1,run_eqP,bl_eq,g,q2]⟩
theorem keyP (w:World) (k:Sk) (es:List MapEntry):(Instr.findKey 149 (kv k) es).run Tryz.prog w=(Instr.findAsking 149 (kv k) es).run Tryz.prog w:=run_findKey_eq w (by simp [Tryz.underlying149]) _ _
theorem findP_val {l:KV} {k:Sk} {v:Int} {j:Nat} (h:l[j]?=some (k,v)) (hn:∀ j',j'<j→∀ p,l[j']?=some p→p.1≠k):lkD l k=v:=by
  induction l generalizing j with
  | nil=>simp at h
  | cons p r ih =>
    obtain ⟨a,u⟩:=p
    rw [lkD_cons]
    match j,h with
    | 0,h =>
      obtain ⟨rfl,rfl⟩:a=k∧u=v:=by simpa using h
      rw [if_pos rfl]
    | j+1,h =>
      rw [if_neg (fun e=>hn 0 (by omega) (a,u) rfl e.symm)]
      exact ih (by simpa using h) (fun j' hj p hp=>hn (j'+1) (by omega) p (by simpa using hp))
section
variable {C:Cx Tryz.prog} {E:Env} {H:List HP}
variable {ops:Array Oper} {K:KP} {rest:List Oper} {d:Nat} {ty:TypeId} {pos:String} {af:Array Edge} {x y z:Operand} {T:TypeId}
theorem MapS.open {w0 w:World} {M:List Nat} {L H':List HP} {b:Nat} {l:KV} {q:Array MapEntry→Prop} (p:Pick (MapS b l q) H H') (hi:TH.Inv w0 M (L++H) w):∃ (es:Array MapEntry) (clk:Nat),MtK es.toList l∧Reg es.toList clk∧q es∧TH.Inv w0 M (pt b (.map es clk)::(L++H')) w:=by
  have h1:=(hi.pickL p).perm List.perm_middle
  obtain ⟨ha,hb,s,⟨es,clk,e,e',g,q⟩,hr⟩:=h1.mine
  exact ⟨es,clk,e,e',g,h1.os,h1.tape,h1.output,h1.size,h1.keep,ha,hb,s,q,hr⟩
theorem MapS.shut {w0 w:World} {M:List Nat} {L H':List HP} {b clk:Nat} {es:Array MapEntry} {l:KV} {q:Array MapEntry→Prop} (e:MtK es.toList l) (e':Reg es.toList clk) (g:q es) (hi:TH.Inv w0 M (pt b (.map es clk)::(L++H')) w):TH.Inv w0 M (L++MapS b l q::H') w:=by
  have h2:TH.Inv w0 M (MapS b l q::(L++H')) w:=⟨hi.os,hi.tape,hi.output,hi.size,hi.keep,sat_mono (fun h q=>⟨es,clk,e,e',g,q⟩) hi.mine⟩
  exact h2.perm (List.perm_middle (l₁:=L) (l₂:=H')).symm
theorem MapS.start {b:Nat} {H H':List HP} (p:Pick (pt b (.map #[] 0)) H H'):∀ h,sat H h→sat (MapK b []::H') h:=fun h hs=>by
  obtain ⟨h1,h2,s,a,r⟩:=p.sat hs
  exact ⟨h1,h2,s,⟨#[],0,rfl,⟨List.nodup_nil,fun e h=>by simp at h⟩,trivial,a⟩,r⟩
def LkS (b:Nat) (k:Sk) (v:Int) (Q:HP):Prop:=∃ l q,Q=MapS b l q∧lkD l k=v
theorem WO.lookK {b:Nat} {k:Sk} {v:Int} {u:Value} {Q:HP} {H':List HP} (hQ:LkS b k v Q) (hT:Tryz.prog.underlying T=some (.map 149 2)) (hm:ev E x=some (.map (some b))) (hk:ev E y=some u) (hku:u=kv k) (p:Pick Q H H') (hN:Nat.blt d C.N=true)
    (h:WO C ops rest K ((d,.int .i64 v)::E) H):WO C ops (⟨some d,.lookup T x y false,ty,pos,af,none⟩::rest) K E H:=by
  subst hku
  obtain ⟨l,q,rfl,rfl⟩:=hQ
  refine WO.pure _ (by simp) (fun L a w hfr hi=>?_) hN h
  obtain ⟨es,clk,he,_,_,hi'⟩:=MapS.open p hi
  have hl:=(hi'.look .head).1
  have hzr:(zeroValue 2).run Tryz.prog w=.ok (.int .i64 0) w:=run_zeroValue (ZT.of (t:=tyTab) (T:=2) rfl).zero
  rcases findP w k es.toList l 0 he with ⟨j,v',q1,q2,q3⟩ | ⟨q1,q2⟩
  · rw [← keyP] at q3
    simp [execOp,hfr.eval hm,hfr.eval hk,Instr.lookup,run_underlying hT,getMap_run hl,run_chkP,q3,findP_val q1 q2]
  · rw [← keyP] at q2
    simp [execOp,hfr.eval hm,hfr.eval hk,Instr.lookup,run_underlying hT,getMap_run hl,run_chkP,q2,lkD_none q1,hzr]
theorem born_key {es:Array MapEntry} (f:MapEntry→MapEntry) (hf:∀ e,(f e).born=e.born) (j:Nat):((es.modify j f).toList).map (·.born)=es.toList.map (·.born):=by
  rw [Array.toList_modify]
  refine List.ext_getElem? fun i=>?_
  rw [List.getElem?_map,List.getElem?_map,List.getElem?_modify]
  split <;> simp [Function.comp_def,hf]
theorem Reg.mod {es:Array MapEntry} {clk:Nat} (h:Reg es.toList clk) (j:Nat) (f:MapEntry→MapEntry) (hf:∀ e,(f e).born=e.born):Reg (es.modify j f).toList clk:=by
  refine ⟨by rw [born_key f hf];exact h.1,fun e he=>?_⟩
  have h1:e.born∈es.toList.map (·.born):=by rw [← born_key f hf j];exact List.mem_map_of_mem he
  obtain ⟨e',h2,h3⟩:=List.mem_map.1 h1
  rw [← h3];exact h.2 e' h2
theorem Reg.new {es:Array MapEntry} {clk:Nat} (h:Reg es.toList clk) (u v:Value):Reg (es.push { key:=u,val:=v,born:=clk }).toList (clk+1):=by
  rw [Array.toList_push]
  refine ⟨?_,fun e he=>?_⟩
  · rw [List.map_append,List.nodup_append]
    refine ⟨h.1,List.pairwise_singleton _ _,fun x hx y hy=>?_⟩
    obtain ⟨e',h2,rfl⟩:=List.mem_map.1 hx
    have h3:=h.2 e' h2
    have h4:y=clk:=List.mem_singleton.1 hy
    omega
  · rcases List.mem_append.1 he with h1 | h1
    · have:=h.2 e h1;omega
    · rw [List.mem_singleton.1 h1];show clk<clk+1;omega
theorem MtK.mod {es:Array MapEntry} {l:KV} (h:MtK es.toList l) (j:Nat) {k:Sk} {v:Int} (hj:l[j]?=some (k,v)) (f:MapEntry→MapEntry) (u:Int) (hk:∀ e,e.key=kv k→(f e).key=kv k) (hv:∀ e,e.val=.int .i64 v→(f e).val=.int .i64 u):MtK (es.modify j f).toList (l.set j (k,u)):=by
  unfold MtK
  refine List.ext_getElem? fun i=>?_
  rw [List.getElem?_map,List.getElem?_map,Array.toList_modify,List.getElem?_modify,List.getElem?_set]
  have hi:=h.at i
  by_cases e:j=i
  · subst e
    have hl:j<l.length:=(List.getElem?_eq_some_iff.1 hj).1
    rw [hj] at hi
    rw [if_pos rfl,if_pos hl]
    cases he:es.toList[j]? with
    | none=>rw [he] at hi;simp at hi
    | some x =>
      rw [he] at hi
      simp only [Option.map_some,Option.some.injEq,Prod.mk.injEq] at hi ⊢
      simp [hk _ hi.1,hv _ hi.2]
  · rw [if_neg e,← hi]
    cases es.toList[i]? <;> simp [e]
theorem set_put {l:KV} (hn:NdK l) {j:Nat} {k:Sk} {v u:Int} (hj:l[j]?=some (k,v)):l.set j (k,u)=putK l k u:=by
  unfold putK
  refine List.ext_getElem? fun i=>?_
  rw [List.getElem?_set,List.getElem?_map]
  by_cases e:j=i
  · subst e
    have hl:j<l.length:=(List.getElem?_eq_some_iff.1 hj).1
    rw [if_pos rfl,if_pos hl,hj];simp
  · rw [if_neg e]
    cases hi:l[i]? with
    | none=>rfl
    | some p =>
      have hne:p.1≠k:=fun q=>by
        have h1:(l.map Prod.fst)[j]?=some k:=by rw [List.getElem?_map,hj];rfl
        have h2:(l.map Prod.fst)[i]?=some k:=by rw [List.getElem?_map,hi,← q];rfl
        obtain ⟨a1,a2⟩:=List.getElem?_eq_some_iff.1 h1
        obtain ⟨b1,b2⟩:=List.getElem?_eq_some_iff.1 h2
        exact e ((List.getElem_inj hn).1 (a2.trans b2.symm))
      simp [hne]
theorem WO.mapEntK {b:Nat} {l:KV} {k:Sk} {u:Value} {q:Array MapEntry→Prop} {H':List HP} (hT:Tryz.prog.underlying T=some (.map 149 2)) (hm:ev E x=some (.map (some b))) (hk:ev E y=some u) (hku:u=kv k) (p:Pick (MapS b l q) H H') (hN:Nat.blt d C.N=true)
    (h:∀ n:Nat,WO C ops rest K ((d,.tuple #[.int .i64 (lkD l k),.int .i64 (n:Int)])::E) (MapS b (ent l k) (hasB k n)::H')):WO C ops (⟨some d,.mapEntry T x y,ty,pos,af,none⟩::rest) K E H:=by
  subst hku
  refine WO.step rfl rfl hN (XO.run (by simp) fun L a w hfr hi=>?_)
  obtain ⟨es,clk,he,hreg,_,hi'⟩:=MapS.open p hi
  have hl:=(hi'.look .head).1
  have hlt:b<w.heap.size:=(Array.getElem?_eq_some_iff.1 hl).1
  have hzr:(zeroValue 2).run Tryz.prog w=.ok (.int .i64 0) w:=run_zeroValue (ZT.of (t:=tyTab) (T:=2) rfl).zero
  obtain ⟨es',clk',n,hrep,hreg',hb',hr⟩:∃ (es':Array MapEntry) (clk' n:Nat),MtK es'.toList (ent l k)∧Reg es'.toList clk'∧hasB k n es'∧(Instr.mapEntry T (.map (some b)) (kv k)).run Tryz.prog w=.ok (.tuple #[.int .i64 (lkD l k),.int .i64 (n:Int)]) { w with heap:=w.heap.setIfInBounds b (.map es' clk') }:=by
    rcases findP w k es.toList l 0 he with ⟨j,v',q1,q2,q3⟩ | ⟨q1,q2⟩
    · rw [← keyP] at q3
      have hj:=he.at j
      rw [q1] at hj
      obtain ⟨e,he1,he2⟩:∃ e,es.toList[j]?=some e∧e.key=kv k:=by
        cases hx:es.toList[j]? with
        | none=>rw [hx] at hj;simp at hj
        | some e=>rw [hx] at hj;simp at hj;exact ⟨e,rfl,hj.1⟩
      have he1':es[j]?=some e:=by simpa using he1
      have hin:k∈l.map Prod.fst:=List.mem_map.2 ⟨(k,v'),List.mem_of_getElem? q1,rfl⟩
      refine ⟨es.modify j fun e=>{ e with key:=kv k },clk,e.born,?_,Reg.mod hreg _ _ (fun _=>rfl),⟨j,{ e with key:=kv k },by rw [Array.getElem?_modify,if_pos rfl,he1'];rfl,rfl,rfl⟩,?_⟩
      · have:=he.mod j q1 (fun e=>{ e with key:=kv k }) v' (fun _ _=>rfl) (fun _ h=>h)
        unfold ent
        rw [if_pos hin]
        rwa [show l.set j (k,v')=l from by
          refine List.ext_getElem? fun i=>?_
          rw [List.getElem?_set]
          split
          · rename_i e;subst e;rw [q1];simp [(List.getElem?_eq_some_iff.1 q1).1]
          · rfl] at this
      · simp [Instr.mapEntry,run_underlying hT,getMap_run hl,run_chkP,q3,he1',he2,staysP]
        simp [setObj,Sem.run,hl,Result.andThen,findP_val q1 q2,goInt]
    · rw [← keyP] at q2
      refine ⟨es.push { key:=kv k,val:=.int .i64 0,born:=clk },clk+1,clk,?_,Reg.new hreg _ _,⟨es.size,_,by rw [Array.getElem?_push_size],rfl,rfl⟩,?_⟩
      · unfold MtK at he ⊢
        unfold ent
        rw [if_neg q1,Array.toList_push,List.map_append,he,List.map_append];rfl
      · simp [Instr.mapEntry,run_underlying hT,getMap_run hl,run_chkP,q2,hzr]
        simp [setObj,Sem.run,hl,Result.andThen,lkD_none q1,goInt]
  refine ⟨_,{ w with heap:=w.heap.setIfInBounds b (.map es' clk') },_,.inl ?_,h n,?_⟩
  · simp [execOp,hfr.eval hm,hfr.eval hk,hr]
  · have hs:=hi'.set (o':=.map es' clk') .head (w':={ w with heap:=w.heap.setIfInBounds b (.map es' clk') }) rfl rfl rfl (by simp) (by simp [hlt]) (fun k hk=>by simp [Array.getElem?_setIfInBounds_ne (Ne.symm hk)])
    exact MapS.shut hrep hreg' hb' hs
theorem WO.entStK {b n:Nat} {l:KV} {k:Sk} {v:Int} {H':List HP} (hnd:NdK l) (hm:ev E x=some (.map (some b))) (hs:ev E y=some (.int .i64 (n:Int))) (hu:ev E z=some (.int .i64 v)) (p:Pick (MapS b l (hasB k n)) H H')
    (h:WO C ops rest K E (MapK b (putK l k v)::H')):WO C ops (⟨none,.entryStore T x y z,ty,pos,af,none⟩::rest) K E H:=by
  refine WO.step0 rfl rfl (XO.run (by simp) fun L a w hfr hi=>?_)
  obtain ⟨es,clk,he,hreg,⟨j,e,hj,hek,heb⟩,hi'⟩:=MapS.open p hi
  have hl:=(hi'.look .head).1
  have hlt:b<w.heap.size:=(Array.getElem?_eq_some_iff.1 hl).1
  have hjl:j<es.size:=(Array.getElem?_eq_some_iff.1 hj).1
  have hje:es[j]=e:=(Array.getElem?_eq_some_iff.1 hj).2
  have hfi:es.findIdx? (fun e=>(e.born:Int)==(n:Int))=some j:=by
    rw [Array.findIdx?_eq_some_iff_getElem]
    refine ⟨hjl,by rw [hje,heb];simp,fun i hi=>?_⟩
    have hil:i<es.size:=by omega
    have:(es[i].born:Int)≠(n:Int):=fun q=>by
      have h1:es[i].born=es[j].born:=by rw [hje,heb];omega
      have hn:=hreg.1
      have a1:(es.toList.map (·.born))[i]'(by simpa using hil)=(es.toList.map (·.born))[j]'(by simpa using hjl):=by simpa using h1
      have:=(List.getElem_inj hn).1 a1
      omega
    simpa using this
  obtain ⟨v0,hv0⟩:∃ v0,l[j]?=some (k,v0):=by
    have:=he.at j
    rw [show es.toList[j]?=some e by simpa using hj] at this
    cases hx:l[j]? with
    | none=>rw [hx] at this;simp at this
    | some q =>
      rw [hx] at this
      simp at this
      obtain ⟨q1,q2⟩:=q
      have e1:=kv_inj (hek.symm.trans this.1)
      exact ⟨q2,by rw [show k=q1 from e1]⟩
  have hr:(Instr.entryStore T (.map (some b)) (.int .i64 (n:Int)) (.int .i64 v)).run Tryz.prog w=.ok () { w with heap:=w.heap.setIfInBounds b (.map (es.modify j fun e=>{ e with val:=.int .i64 v }) clk) }:=by
    simp [Instr.entryStore,getMap_run hl,asInt,asIntOf,hfi]
    simp [setObj,Sem.run,hl,Result.andThen]
  refine ⟨undef,{ w with heap:=w.heap.setIfInBounds b (.map (es.modify j fun e=>{ e with val:=.int .i64 v }) clk) },_,.inr ⟨?_,rfl⟩,h,?_⟩
  · simp [execOp,hfr.eval hm,hfr.eval hs,hfr.eval hu,hr]
  · have hs:=hi'.set (o':=.map (es.modify j fun e=>{ e with val:=.int .i64 v }) clk) .head (w':={ w with heap:=w.heap.setIfInBounds b (.map (es.modify j fun e=>{ e with val:=.int .i64 v }) clk) }) rfl rfl rfl (by simp) (by simp [hlt]) (fun k hk=>by simp [Array.getElem?_setIfInBounds_ne (Ne.symm hk)])
    have hmt:=he.mod j hv0 (fun e=>{ e with val:=.int .i64 v }) v (fun _ h=>h) (fun _ _=>rfl)
    rw [set_put hnd hv0] at hmt
    exact MapS.shut hmt (Reg.mod hreg _ _ (fun _=>rfl)) trivial hs
theorem map_erase {α β:Type} (f:α→β):∀ (l:List α) (j:Nat),(l.eraseIdx j).map f=(l.map f).eraseIdx j
  | [],_=>rfl
  | _::_,0=>rfl
  | a::r,j+1=>by simp [map_erase f r j]
theorem MtK.del {es:Array MapEntry} {l:KV} (h:MtK es.toList l) (hn:NdK l) {j:Nat} {k:Sk} {v:Int} (hj:l[j]?=some (k,v)):MtK (es.eraseIdxIfInBounds j).toList (delK l k):=by
  have hl:j<l.length:=(List.getElem?_eq_some_iff.1 hj).1
  have hsz:es.toList.length=l.length:=by simpa using congrArg List.length h
  have hjs:j<es.size:=by have:es.toList.length=es.size:=rfl;omega
  have e1:delK l k=l.eraseIdx j:=by
    have e2:=(List.getElem?_eq_some_iff.1 hj).2
    have sp:l=l.take j++(k,v)::l.drop (j+1):=by rw [← e2];simp
    have hn2:=hn
    unfold NdK at hn2
    rw [sp,List.map_append,List.map_cons,List.nodup_append,List.nodup_cons] at hn2
    unfold delK
    rw [List.eraseIdx_eq_take_drop_succ]
    conv=>lhs;rw [sp]
    rw [List.filter_append,List.filter_cons_of_neg (by simp)]
    congr 1
    · exact List.filter_eq_self.2 fun p hp=>by
        have:=hn2.2.2 p.1 (List.mem_map_of_mem hp) k (by simp)
        simpa using this
    · exact List.filter_eq_self.2 fun p hp=>by
        have:p.1≠k:=fun q=>hn2.2.1.1 (List.mem_map.2 ⟨p,hp,q⟩)
        simpa using this
  rw [e1]
  unfold MtK at h ⊢
  rw [Array.eraseIdxIfInBounds,dif_pos hjs,Array.toList_eraseIdx,map_erase,h,map_erase]
theorem Reg.del {es:Array MapEntry} {clk j:Nat} (h:Reg es.toList clk):Reg (es.eraseIdxIfInBounds j).toList clk:=by
  rw [Array.eraseIdxIfInBounds]
  split
  · rw [Array.toList_eraseIdx]
    refine ⟨?_,fun e he=>h.2 e (List.mem_of_mem_eraseIdx he)⟩
    rw [map_erase]
    exact List.Nodup.sublist (List.eraseIdx_sublist _ _) h.1
  · exact h
theorem WO.delP {b:Nat} {l:KV} {k:Sk} {u:Value} {ts:Array TypeId} {H':List HP} (hnd:NdK l) (hts:ts[0]?=some T) (hT:Tryz.prog.underlying T=some (.map 149 2)) (hm:ev E x=some (.map (some b))) (hk:ev E y=some u) (hku:u=kv k) (p:Pick (MapK b l) H H')
    (h:WO C ops rest K E (MapK b (delK l k)::H')):WO C ops (⟨none,.call ⟨.builtin .delete,#[x,y],ts⟩,ty,pos,af,none⟩::rest) K E H:=by
  subst hku
  refine WO.step0 rfl rfl (XO.run (by simp) fun L a w hfr hi=>?_)
  obtain ⟨es,clk,he,hreg,_,hi'⟩:=MapS.open p hi
  have hl:=(hi'.look .head).1
  have hlt:b<w.heap.size:=(Array.getElem?_eq_some_iff.1 hl).1
  obtain ⟨es',hrep,hreg',hr⟩:∃ (es':Array MapEntry),MtK es'.toList (delK l k)∧Reg es'.toList clk∧(Builtin.delete_ ts ty #[.map (some b),kv k]).run Tryz.prog w=.ok (.tuple #[]) { w with heap:=w.heap.setIfInBounds b (.map es' clk) }:=by
    rcases findP w k es.toList l 0 he with ⟨j,v',q1,q2,q3⟩ | ⟨q1,q2⟩
    · rw [← keyP,Nat.zero_add] at q3
      refine ⟨es.eraseIdxIfInBounds j,he.del hnd q1,hreg.del,?_⟩
      simp [Builtin.delete_,hts,run_underlying hT,getMap_run hl,run_chkP,q3]
      simp [setObj,Sem.run,hl,Result.andThen]
    · rw [← keyP] at q2
      have e1:delK l k=l:=List.filter_eq_self.2 fun p hp=>by
        have:p.1≠k:=fun q=>q1 (by rw [← q];exact List.mem_map_of_mem hp)
        simpa using this
      refine ⟨es,by rw [e1];exact he,hreg,?_⟩
      simp [Builtin.delete_,hts,run_underlying hT,getMap_run hl,run_chkP,q2]
      simp [setObj,Sem.run,hl,Result.andThen]
  refine ⟨.tuple #[],{ w with heap:=w.heap.setIfInBounds b (.map es' clk) },_,.inl ?_,h,?_⟩
  · simp [execOp,resolve,hfr.eval hm,hfr.eval hk,Deferred.ofValue,invoke,builtin,hr]
  · have hs:=hi'.set (o':=.map es' clk) .head (w':={ w with heap:=w.heap.setIfInBounds b (.map es' clk) }) rfl rfl rfl (by simp) (by simp [hlt]) (fun k hk=>by simp [Array.getElem?_setIfInBounds_ne (Ne.symm hk)])
    exact MapS.shut hrep hreg' trivial hs
end
end Go.Proofs.YtfchgmiiicidcaaGreat
namespace Go.Proofs.YtfchgmiiicidcaaGreat
open Go Go.TH
set_option maxRecDepth 10000
def plK (z:Ch.Cn):Sk:=(z.1,z.2.1)
/-- the weights of a point, times a number -/
def m1 (L:List Ch.Cn) (c:Int):Nat→KV
  | 0=>[]
  | q+1=>if (L.getD q (0,0,0)).2.2≠0 then addK (m1 L c q) (plK (L.getD q (0,0,0))) ((L.getD q (0,0,0)).2.2*c) else m1 L c q
/-- less those of another one -/
def dz (l:KV) (k:Sk):KV:=if lkD l k=0 then delK l k else l
def m2 (L:List Ch.Cn) (c:Int) (l0:KV):Nat→KV
  | 0=>l0
  | q+1=>dz (addK (m2 L c l0 q) (plK (L.getD q (0,0,0))) (-((L.getD q (0,0,0)).2.2*c))) (plK (L.getD q (0,0,0)))
/-- the weight of a place -/
def ws (L:List Ch.Cn) (k:Sk):Nat→Int
  | 0=>0
  | q+1=>ws L k q+if k=plK (L.getD q (0,0,0)) then (L.getD q (0,0,0)).2.2 else 0
theorem dz_nd {l:KV} {k:Sk} (h:NdK l):NdK (dz l k):=by unfold dz;split;exact del_nd h;exact h
theorem dz_lk (l:KV) (k k':Sk):lkD (dz l k) k'=lkD l k':=by
  unfold dz
  split
  · rename_i h
    rw [del_lk]
    split
    · rename_i e;rw [e,h]
    · rfl
  · rfl
theorem dz_as (l:KV) (k:Sk):asK (dz l k)≤asK l:=by unfold dz;split;exact del_as k l;exact Int.le_refl _
theorem m1_nd (L:List Ch.Cn) (c:Int):∀ q,NdK (m1 L c q)
  | 0=>List.nodup_nil
  | q+1=>by
    simp only [m1]
    split
    · exact add_nd (m1_nd L c q)
    · exact m1_nd L c q
theorem m2_nd (L:List Ch.Cn) (c:Int) {l0:KV} (h:NdK l0):∀ q,NdK (m2 L c l0 q)
  | 0=>h
  | q+1=>dz_nd (add_nd (m2_nd L c h q))
theorem m1_lk (L:List Ch.Cn) (c:Int) (k:Sk):∀ q,lkD (m1 L c q) k=ws L k q*c
  | 0=>by simp [m1,ws,lkD]
  | q+1=>by
    have ih:=m1_lk L c k q
    simp only [m1,ws]
    by_cases h0:(L.getD q (0,0,0)).2.2≠0
    · rw [if_pos h0,add_lk,ih]
      by_cases h:k=plK (L.getD q (0,0,0))
      · rw [if_pos h,if_pos h,Int.add_mul]
      · rw [if_neg h,if_neg h];simp
    · rw [if_neg h0,ih]
      have h1:(L.getD q (0,0,0)).2.2=0:=Decidable.not_not.1 h0
      rw [h1];simp
theorem m2_lk (L:List Ch.Cn) (c:Int) (l0:KV) (k:Sk):∀ q,lkD (m2 L c l0 q) k=lkD l0 k-ws L k q*c
  | 0=>by simp [m2,ws]
  | q+1=>by
    have ih:=m2_lk L c l0 k q
    simp only [m2,ws]
    rw [dz_lk,add_lk,ih]
    by_cases h:k=plK (L.getD q (0,0,0))
    · rw [if_pos h,if_pos h,Int.add_mul];omega
    · rw [if_neg h,if_neg h];simp
theorem m1_as {L:List Ch.Cn} {c:Int} (hc:0≤c) (hw:∀ q,0≤(L.getD q (0,0,0)).2.2):∀ q,asK (m1 L c q)≤Ch.aS (·.2.2) L q*c
  | 0=>by simp [m1,asK,Ch.aS]
  | q+1=>by
    have ih:=m1_as hc hw q
    have h0:=Int.mul_nonneg (hw q) hc
    simp only [m1,Ch.aS]
    rw [Int.add_mul]
    split
    · have:=add_as (k:=plK (L.getD q (0,0,0))) (d:=(L.getD q (0,0,0)).2.2*c) (m1_nd L c q)
      unfold Ch.ab at this
      generalize (L.getD q (0,0,0)).2.2*c=t at *
      omega
    · omega
theorem m2_as {L:List Ch.Cn} {c:Int} {l0:KV} (hn:NdK l0) (hc:0≤c) (hw:∀ q,0≤(L.getD q (0,0,0)).2.2):∀ q,asK (m2 L c l0 q)≤asK l0+Ch.aS (·.2.2) L q*c
  | 0=>by simp [m2,Ch.aS]
  | q+1=>by
    have ih:=m2_as hn hc hw q
    have h0:=Int.mul_nonneg (hw q) hc
    simp only [m2,Ch.aS]
    rw [Int.add_mul]
    have h1:=dz_as (addK (m2 L c l0 q) (plK (L.getD q (0,0,0))) (-((L.getD q (0,0,0)).2.2*c))) (plK (L.getD q (0,0,0)))
    have h2:=add_as (k:=plK (L.getD q (0,0,0))) (d := -((L.getD q (0,0,0)).2.2*c)) (m2_nd L c hn q)
    unfold Ch.ab at h2
    generalize (L.getD q (0,0,0)).2.2*c=t at *
    omega
/-- all places are on the chart -/
def InK (n m:Nat) (l:KV):Prop:=∀ p∈l,p.1.1<n∧p.1.2<m
theorem in_keys {n m:Nat} {l:KV}:InK n m l↔∀ k∈l.map Prod.fst,k.1<n∧k.2<m:=by
  unfold InK
  constructor
  · intro h k hk
    obtain ⟨p,hp,rfl⟩:=List.mem_map.1 hk
    exact h p hp
  · intro h p hp
    exact h _ (List.mem_map_of_mem hp)
theorem add_in {n m:Nat} {l:KV} {k:Sk} {d:Int} (h:InK n m l) (hk:k.1<n∧k.2<m):InK n m (addK l k d):=by
  rw [in_keys] at h ⊢
  unfold addK
  rw [put_keys]
  unfold ent
  split
  · exact h
  · intro x hx
    rw [List.map_append] at hx
    rcases List.mem_append.1 hx with g | g
    · exact h x g
    · rw [List.mem_singleton.1 g];exact hk
theorem dz_in {n m:Nat} {l:KV} {k:Sk} (h:InK n m l):InK n m (dz l k):=by
  unfold dz
  split
  · exact fun p hp=>h p (List.mem_filter.1 hp).1
  · exact h
theorem m1_in {n m:Nat} {L:List Ch.Cn} (c:Int) (h:∀ q,q<4→(L.getD q (0,0,0)).1<n∧(L.getD q (0,0,0)).2.1<m):∀ q,q≤4→InK n m (m1 L c q)
  | 0,_=>fun p hp=>by simp [m1] at hp
  | q+1,hq=>by
    have ih:=m1_in c h q (by omega)
    simp only [m1]
    split
    · exact add_in ih (h q (by omega))
    · exact ih
theorem m2_in {n m:Nat} {L:List Ch.Cn} (c:Int) {l0:KV} (h0:InK n m l0) (h:∀ q,q<4→(L.getD q (0,0,0)).1<n∧(L.getD q (0,0,0)).2.1<m):∀ q,q≤4→InK n m (m2 L c l0 q)
  | 0,_=>h0
  | q+1,hq=>dz_in (add_in (m2_in c h0 h q (by omega)) (h q (by omega)))
/-! ### sums over the entries -/
def tmK (e:Sk→Int→Int) (p:Sk × Int):Int:=p.2*e p.1 p.2
def smK (e:Sk→Int→Int):KV→Int
  | []=>0
  | p::r=>tmK e p+smK e r
/-- the sum over all entries is that over all places that have a weight -/
def sumL (F:Sk→Int):List Sk→Int
  | []=>0
  | k::r=>F k+sumL F r
theorem sumL_add {F G:Sk→Int}:∀ (L:List Sk),sumL (fun k=>F k+G k) L=sumL F L+sumL G L
  | []=>rfl
  | k::r=>by simp only [sumL];rw [sumL_add r];omega
theorem sumL_out {a:Sk} {v:Int}:∀ (L:List Sk),a ∉ L→sumL (fun k=>if k=a then v else 0) L=0
  | [],_=>rfl
  | k::r,h=>by
    rw [List.mem_cons] at h
    simp only [sumL]
    rw [if_neg (fun e=>h (.inl e.symm)),sumL_out r (fun e=>h (.inr e))];rfl
theorem sumL_in {a:Sk} {v:Int}:∀ (L:List Sk),L.Nodup→a∈L→sumL (fun k=>if k=a then v else 0) L=v
  | [],_,h=>by simp at h
  | k::r,hn,h=>by
    rw [List.nodup_cons] at hn
    simp only [sumL]
    by_cases e:k=a
    · rw [if_pos e,sumL_out r (by rw [← e];exact hn.1)];omega
    · rw [if_neg e,sumL_in r hn.2 (by
        rcases List.mem_cons.1 h with g | g
        · exact absurd g.symm e
        · exact g)];omega
theorem sumL_congr {F G:Sk→Int} (h:∀ k,F k=G k) (L:List Sk):sumL F L=sumL G L:=by rw [show F=G from funext h]
theorem sm_eq {e:Sk→Int→Int} {L:List Sk} (hL:L.Nodup):∀ {l:KV},NdK l→(∀ k,k ∉ L→lkD l k=0)→smK e l=sumL (fun k=>lkD l k*e k (lkD l k)) L
  | [],_,_=>by
    simp only [smK]
    have:∀ L:List Sk,sumL (fun k=>lkD [] k*e k (lkD [] k)) L=0:=fun L=>by
      induction L with
      | nil=>rfl
      | cons a r ih=>simp only [sumL,ih];show lkD [] a*_+0=0;rw [show lkD [] a=0 from rfl];simp
    rw [this]
  | (a,v)::r,hn,h=>by
    have hn0:=hn
    unfold NdK at hn
    rw [List.map_cons,List.nodup_cons] at hn
    have ha:lkD r a=0:=lkD_none hn.1
    have ih:=sm_eq (e:=e) hL (l:=r) hn.2 (fun k hk=>by
      by_cases q:k=a
      · rw [q];exact ha
      · have:=h k hk;rw [lkD_cons,if_neg q] at this;exact this)
    simp only [smK,tmK]
    have e1:=sumL_congr (F:=fun k=>lkD ((a,v)::r) k*e k (lkD ((a,v)::r) k)) (G:=fun k=>lkD r k*e k (lkD r k)+if k=a then v*e a v else 0) (fun k=>by
      show lkD ((a,v)::r) k*e k (lkD ((a,v)::r) k)=_
      rw [lkD_cons]
      by_cases q:k=a
      · rw [if_pos q,if_pos q,q,ha];simp
      · rw [if_neg q,if_neg q];simp) L
    rw [ih,e1,sumL_add]
    by_cases q:a∈L
    · rw [sumL_in L hL q];omega
    · rw [sumL_out L q]
      have:=h a q
      rw [lkD_cons,if_pos rfl] at this
      rw [this];simp
/-! ### the sums, entry by entry in memory -/
def skV:Value→Sk
  | .agg c=>(match c.toList with
    | [.int _ i,.int _ k]=>(i.toNat,k.toNat)
    | _=>(0,0))
  | _=>(0,0)
def inV:Value→Int
  | .int _ z=>z
  | _=>0
def tE (e:Sk→Int→Int) (x:MapEntry):Int:=tmK e (skV x.key,inV x.val)
def sE (e:Sk→Int→Int):List MapEntry→Int
  | []=>0
  | x::r=>tE e x+sE e r
def aE:List MapEntry→Int
  | []=>0
  | x::r=>Ch.ab (inV x.val)+aE r
theorem sk_kv (k:Sk):skV (kv k)=k:=rfl
theorem sE_mt (e:Sk→Int→Int):∀ {es:List MapEntry} {l:KV},MtK es l→sE e es=smK e l∧aE es=asK l
  | [],[],_=>⟨rfl,rfl⟩
  | [],_::_,h=>by unfold MtK at h;simp at h
  | _::_,[],h=>by unfold MtK at h;simp at h
  | x::es,(a,v)::l,h=>by
    unfold MtK at h
    simp only [List.map_cons,List.cons.injEq,Prod.mk.injEq] at h
    obtain ⟨⟨h1,h2⟩,h3⟩:=h
    obtain ⟨i1,i2⟩:=sE_mt e (es:=es) (l:=l) h3
    refine ⟨?_,?_⟩
    · simp only [sE,smK,tE,i1,h1,h2,sk_kv];rfl
    · simp only [aE,asK,i2,h2];rfl
theorem sE_perm (e:Sk→Int→Int) {x y:List MapEntry} (h:x.Perm y):sE e x=sE e y∧aE x=aE y:=by
  induction h with
  | nil=>exact ⟨rfl,rfl⟩
  | cons a _ ih=>exact ⟨by simp only [sE,ih.1],by simp only [aE,ih.2]⟩
  | swap a b l=>simp only [sE,aE];omega
  | trans _ _ i1 i2=>exact ⟨i1.1.trans i2.1,i1.2.trans i2.2⟩
theorem aE_nn:∀ (l:List MapEntry),0≤aE l
  | []=>Int.le_refl _
  | x::l=>by simp only [aE];have:=aE_nn l;have:=Ch.ab_nn (inV x.val);omega
theorem perm_out {e:MapEntry}:∀ (L:List MapEntry),(L.map (·.born)).Nodup→e∈L→L.Perm (e::L.filter fun x=>x.born != e.born)
  | [],_,h=>by cases h
  | x::r,hn,h=>by
    rw [List.map_cons,List.nodup_cons] at hn
    rcases Decidable.em (x.born=e.born) with hb | hb
    · rcases List.mem_cons.1 h with rfl | h
      · rw [List.filter_cons_of_neg (by simp),List.filter_eq_self.2 (fun y hy=>by
          have:y.born≠e.born:=fun q=>hn.1 (List.mem_map.2 ⟨y,hy,q⟩)
          simpa using this)]
      · exact absurd (List.mem_map.2 ⟨e,h,hb.symm⟩) hn.1
    · rcases List.mem_cons.1 h with rfl | h
      · exact absurd rfl hb
      · rw [List.filter_cons_of_pos (by simpa using hb)]
        exact ((perm_out r hn.2 h).cons x).trans (List.Perm.swap e x _)
theorem left_list (es:Array MapEntry) (seen:Array Nat):(leftOf es seen).toList=es.toList.filter fun e=>!seen.contains e.born:=by unfold leftOf;exact Array.toList_filter
theorem left_push (es:Array MapEntry) (seen:Array Nat) (b:Nat):(leftOf es (seen.push b)).toList=(leftOf es seen).toList.filter fun x=>x.born != b:=by
  rw [left_list,left_list,List.filter_filter]
  refine List.filter_congr fun x _=>?_
  rw [contains_push]
  cases seen.contains x.born <;> cases h:(x.born==b) <;> simp [bne,h]
theorem left_none (es:Array MapEntry):(leftOf es #[]).toList=es.toList:=by
  rw [left_list,List.filter_eq_self.2 (fun x _=>by simp)]
/-- one entry is handed out -/
theorem left_step (e:Sk→Int→Int) {es:Array MapEntry} {clk:Nat} {seen:Array Nat} {x:MapEntry} (hr:Reg es.toList clk) (hx:x∈(leftOf es seen).toList):sE e (leftOf es seen).toList=tE e x+sE e (leftOf es (seen.push x.born)).toList∧aE (leftOf es seen).toList=Ch.ab (inV x.val)+aE (leftOf es (seen.push x.born)).toList:=by
  rw [left_push]
  have hp:=perm_out (e:=x) (leftOf es seen).toList (by
    rw [left_list]
    exact hr.1.sublist (List.Sublist.map _ List.filter_sublist)) hx
  exact sE_perm e hp
end Go.Proofs.YtfchgmiiicidcaaGreat
