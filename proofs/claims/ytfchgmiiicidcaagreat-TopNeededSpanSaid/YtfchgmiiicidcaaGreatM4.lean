/-
  What is proved here: operations on the bits of numbers. Conditions: none; each rule states its own.
-/
import Derived.Test.YtfchgmiiicidcaaGreatM3
import Derived.Laws.Shifts
import Derived.Test.YtfchgmiiicidcaaGreatM2
set_option linter.unusedVariables false
set_option linter.unusedSimpArgs false
namespace Go.TH
open Go
/-- how many bits a number of a kind has that is not below 0 -/
def room (k:IntKind):Nat:=if k.signed then k.bits-1 else k.bits
def Fits (k:IntKind) (a:Nat):Prop:=a<2 ^ room k
theorem wrap_nat {k:IntKind} {a:Nat} (h:Fits k a):k.wrap (a:Int)=(a:Int):=by
  unfold Fits room at h
  have e1:(a:Int)%(2 ^ k.bits:Int)=(a:Int):=by
    refine Int.emod_eq_of_lt (by omega) ?_
    have h2:a<2 ^ k.bits:=Nat.lt_of_lt_of_le h (Nat.pow_le_pow_right (by omega) (by split <;> omega))
    exact_mod_cast h2
  unfold IntKind.wrap
  simp only [e1]
  split
  · rename_i hs
    simp only [Bool.and_eq_true,decide_eq_true_eq] at hs
    rw [if_pos hs.1] at h
    have h3:(a:Int)<(2 ^ (k.bits-1):Int):=by exact_mod_cast h
    omega
  · rfl
theorem ofInt_nat {k:IntKind} {a:Nat} (h:Fits k a):(BitVec.ofInt k.bits (a:Int)).toNat=a:=by
  have h2:a<2 ^ k.bits:=Nat.lt_of_lt_of_le h (Nat.pow_le_pow_right (by omega) (by unfold room;split <;> omega))
  rw [show BitVec.ofInt k.bits (a:Int)=BitVec.ofNat k.bits a by simp,BitVec.toNat_ofNat]
  exact Nat.mod_eq_of_lt h2
theorem mod_fits {k:IntKind} {a:Nat} (h:Fits k a):a%2 ^ k.bits=a:=Nat.mod_eq_of_lt (Nat.lt_of_lt_of_le h (Nat.pow_le_pow_right (by omega) (by unfold room;split <;> omega)))
theorem Fits.and {k:IntKind} {a b:Nat} (h:Fits k a):Fits k (a&&&b):=Nat.lt_of_le_of_lt Nat.and_le_left h
theorem Fits.or {k:IntKind} {a b:Nat} (h:Fits k a) (h':Fits k b):Fits k (a|||b):=Nat.or_lt_two_pow h h'
theorem Fits.xor {k:IntKind} {a b:Nat} (h:Fits k a) (h':Fits k b):Fits k (a^^^b):=Nat.xor_lt_two_pow h h'
theorem Fits.shr {k:IntKind} {a s:Nat} (h:Fits k a):Fits k (a>>>s):=Nat.lt_of_le_of_lt (by rw [Nat.shiftRight_eq_div_pow];exact Nat.div_le_self _ _) h
section
variable {P:Program} {C:Cx P} {E:Env} {H:List HP}
variable {ops:Array Oper} {K:KP} {rest:List Oper} {d:Nat} {ty:TypeId} {pos:String} {af:Array Edge} {x y:Operand} {T T':TypeId} {k:IntKind} {a b:Nat}
theorem WO.shrN {k':IntKind} {s:Nat} (hx:ev E x=some (.int k (a:Int))) (hy:ev E y=some (.int k' (s:Int))) (hs:s≤k.bits) (hN:Nat.blt d C.N=true) (h:WO C ops rest K ((d,.int k ((a>>>s:Nat):Int))::E) H):WO C ops (⟨some d,.binOp .shr T x y T',ty,pos,af,none⟩::rest) K E H :=
  WO.pure _ (by simp) (fun L c w hf _=>by
    simp only [execOp,hf.eval hx,hf.eval hy]
    simp [binOp_shr,eqGuard_shr,shift_shr_any k k' a s (by omega),Nat.min_eq_left hs,Nat.shiftRight_eq_div_pow]) hN h
end
section
variable {P:Program} {C:Cx P} {E:Env} {H:List HP}
variable {ops:Array Oper} {K:KP} {rest:List Oper} {d:Nat} {ty:TypeId} {pos:String} {af:Array Edge} {x y:Operand} {T:TypeId}
/-- an element of an array's value -/
theorem WO.indexV {len e i:Nat} {k:IntKind} {vs:List Value} {v:Value} (hT:C.tt.ar? T=some (len,e,1)) (hO:C.tt.one? e=true) (hx:ev E x=some (.agg vs.toArray)) (hy:ev E y=some (.int k (i:Int))) (h1:i<len) (hv:lget vs i=some v) (hN:Nat.blt d C.N=true)
    (h:WO C ops rest K ((d,v)::E) H):WO C ops (⟨some d,.index T x y,ty,pos,af,none⟩::rest) K E H :=
  WO.pure v (by simp) (fun L a w hf hi=>by
    rw [lget_eq] at hv
    have hp:=run_part1 (P:=P) (w:=w) (CT.of hO) hv
    simp [execOp,hf.eval hx,hf.eval hy,Instr.index,run_underlying (ArT.of hT).u,asIntOf,h1,run_sizeOf (ArT.of hT).size,hp]) hN h
end
end Go.TH
namespace Go.TH
open Go
section
variable {P:Program} {C:Cx P} {E:Env} {H:List HP} {Q:Post} {c:Code}
end
end Go.TH
namespace Go.TH
open Go
section
variable {P:Program} (w:World)
end
/-- a part of an array of one's own: n elements of one cell each -/
def WinC (e:Nat) (v:Value) (n:Nat) (cs:List Value):HP:=fun h =>
  cs.length=n∧∃ (g o cap:Nat) (cur:List Value),v=.slice (some ⟨g,o,none⟩) n cap∧n≤cap∧cap≤maxLen∧o+cap≤cur.length∧(cur.drop o).take n=cs∧pt g (.cells cur.toArray e (0,0)) h
/-- a window that began as the slice of another's array, which has no room left -/
def NowP (e b n:Nat) (ss:List Value) (v:Value) (cs:List Value):HP:=fun h =>
  (v=.slice (some ⟨b,0,none⟩) n n∧cs=ss∧OwC e 1 (.slice (some ⟨b,0,none⟩) n n) n ss h) ∨
  ∃ h1 h2,Split h h1 h2∧OwC e 1 (.slice (some ⟨b,0,none⟩) n n) n ss h1∧WinC e v n cs h2
theorem WinC.open {w0:World} {M:List Nat} {L H:List HP} {w:World} {e n:Nat} {v:Value} {cs:List Value} (h:Inv w0 M (L++WinC e v n cs::H) w) :
    cs.length=n∧∃ (g o cap:Nat) (cur:List Value),v=.slice (some ⟨g,o,none⟩) n cap∧n≤cap∧cap≤maxLen∧o+cap≤cur.length∧(cur.drop o).take n=cs∧Inv w0 M (L++pt g (.cells cur.toArray e (0,0))::H) w:=by
  have h1:=h.perm List.perm_middle
  obtain ⟨ha,hb,s,⟨hl,g,o,cap,cur,h2,h3,h4,h5,h6,h7⟩,hr⟩:=h1.mine
  refine ⟨hl,g,o,cap,cur,h2,h3,h4,h5,h6,?_⟩
  have:Inv w0 M (pt g (.cells cur.toArray e (0,0))::(L++H)) w:=⟨h1.os,h1.tape,h1.output,h1.size,h1.keep,ha,hb,s,h7,hr⟩
  exact this.perm List.perm_middle.symm
theorem WinC.shut {w0:World} {M:List Nat} {L H:List HP} {w:World} {e n g o cap:Nat} {cs cur:List Value} (hl:cs.length=n) (hn:n≤cap) (hm:cap≤maxLen) (hc:o+cap≤cur.length) (ht:(cur.drop o).take n=cs)
    (h:Inv w0 M (L++pt g (.cells cur.toArray e (0,0))::H) w):Inv w0 M (L++WinC e (.slice (some ⟨g,o,none⟩) n cap) n cs::H) w :=
  h.mono fun h hp=>⟨hl,g,o,cap,cur,rfl,hn,hm,hc,ht,hp⟩
theorem NowP.open {w0:World} {M:List Nat} {L H:List HP} {w:World} {e b n:Nat} {v:Value} {ss cs:List Value} (h:Inv w0 M (L++NowP e b n ss v cs::H) w) :
    (v=.slice (some ⟨b,0,none⟩) n n∧cs=ss∧Inv w0 M (L++OwC e 1 (.slice (some ⟨b,0,none⟩) n n) n ss::H) w) ∨
    Inv w0 M (L++OwC e 1 (.slice (some ⟨b,0,none⟩) n n) n ss::WinC e v n cs::H) w:=by
  have h1:=h.perm List.perm_middle
  obtain ⟨ha,hb,s,hc,hr⟩:=h1.mine
  rcases hc with ⟨q1,q2,q3⟩ | ⟨x,y,t,q1,q2⟩
  · refine .inl ⟨q1,q2,?_⟩
    have:Inv w0 M (OwC e 1 (.slice (some ⟨b,0,none⟩) n n) n ss::(L++H)) w:=⟨h1.os,h1.tape,h1.output,h1.size,h1.keep,ha,hb,s,q3,hr⟩
    exact this.perm List.perm_middle.symm
  · refine .inr ?_
    have:Inv w0 M (OwC e 1 (.slice (some ⟨b,0,none⟩) n n) n ss::WinC e v n cs::(L++H)) w:=by
      refine ⟨h1.os,h1.tape,h1.output,h1.size,h1.keep,?_⟩
      exact sat_join (H1:=[_,_]) s ⟨x,y,t,q1,y,fun _=>none,(split_none y).comm,q2,trivial⟩ hr
    refine this.perm ?_
    refine List.Perm.trans ?_ (List.perm_middle (l₁:=L) (l₂:=WinC e v n cs::H)).symm
    exact List.Perm.cons _ (List.perm_middle (l₁:=L) (l₂:=H)).symm
theorem NowP.start {e b n:Nat} {ss:List Value} {H H':List HP} (p:Pick (OwC e 1 (.slice (some ⟨b,0,none⟩) n n) n ss) H H'):∀ h,sat H h→sat (NowP e b n ss (.slice (some ⟨b,0,none⟩) n n) ss::H') h:=fun h hs=>by
  obtain ⟨h1,h2,s,a,r⟩:=p.sat hs
  exact ⟨h1,h2,s,.inl ⟨rfl,rfl,a⟩,r⟩
theorem NowP.stop {e b n:Nat} {ss:List Value} {v:Value} {cs:List Value} {H H':List HP} (p:Pick (NowP e b n ss v cs) H H'):∀ h,sat H h→sat (OwC e 1 (.slice (some ⟨b,0,none⟩) n n) n ss::H') h:=fun h hs=>by
  obtain ⟨h1,h2,s,a,r⟩:=p.sat hs
  rcases a with ⟨_,_,q⟩ | ⟨x,y,t,q1,q2⟩
  · exact ⟨h1,h2,s,q,r⟩
  · have:=sat_join (H1:=[OwC e 1 (.slice (some ⟨b,0,none⟩) n n) n ss,WinC e v n cs]) s ⟨x,y,t,q1,y,fun _=>none,(split_none y).comm,q2,trivial⟩ r
    exact Sub.sat (.cons .head (.tail (Sub.refl _))) this
section
variable {P:Program} {C:Cx P} {E:Env} {H:List HP}
variable {ops:Array Oper} {K:KP} {rest:List Oper} {d:Nat} {ty:TypeId} {pos:String} {af:Array Edge} {x y z:Operand} {T T':TypeId}
theorem WinC.cellsI {e n:Nat} {v:Value} {cs:List Value} {L H':List HP} {w:World} (hi:Inv C.w0 C.M (L++WinC e v n cs::H') w):∀ j u,cs[j]?=some u→w.cell? ((base v).add j)=some u:=by
  intro j u hu
  obtain ⟨hl,g,o,cap,cur,rfl,h1,h2,h3,h4,hi'⟩:=WinC.open hi
  have hlook:=(hi'.look (b:=g) (o:=.cells cur.toArray e (0,0)) ((Pick.head).app L)).1
  have ea:(base (.slice (some ⟨g,o,none⟩) n cap)).add j=⟨g,o+j,none⟩:=by simp [base,Addr.add_lit]
  rw [ea]
  subst h4
  rw [List.getElem?_take] at hu
  split at hu
  · rw [List.getElem?_drop] at hu
    simp [World.cell?,hlook,hu]
  · cases hu
theorem NowP.cells {e b n:Nat} {ss:List Value} {v:Value} {cs:List Value} {H':List HP} (p:Pick (NowP e b n ss v cs) H H'):Cells C H (base v) cs:=by
  intro j u hu L w hi
  rcases NowP.open (hi.pickL p) with ⟨rfl,rfl,q⟩ | q
  · exact OwC.cells (C:=C) (.head) j u hu L w q
  · have q':Inv C.w0 C.M ((L++[OwC e 1 (.slice (some ⟨b,0,none⟩) n n) n ss])++WinC e v n cs::H') w:=by rw [List.append_assoc];exact q
    exact WinC.cellsI q' j u hu
theorem NowP.len {e b n:Nat} {ss:List Value} {v:Value} {cs:List Value} {H':List HP} (p:Pick (NowP e b n ss v cs) H H'):∀ (L:List HP) w,Inv C.w0 C.M (L++H) w→cs.length=n∧IsSl v n:=fun L w hi=>by
  rcases NowP.open (hi.pickL p) with ⟨rfl,rfl,q⟩ | q
  · obtain ⟨hl,_⟩:=OwC.open q
    exact ⟨by omega,OwC.isSl q⟩
  · have q':Inv C.w0 C.M ((L++[OwC e 1 (.slice (some ⟨b,0,none⟩) n n) n ss])++WinC e v n cs::H') w:=by rw [List.append_assoc];exact q
    obtain ⟨hl,g,o,cap,cur,rfl,h1,h2,h3,h4,hi'⟩:=WinC.open q'
    simp only [maxLen] at h2
    exact ⟨hl,by omega,_,_,rfl,fun _=>⟨_,_,rfl⟩⟩
theorem NowP.cell {e b n i:Nat} {ss:List Value} {v:Value} {cs:List Value} {H':List HP} (p:Pick (NowP e b n ss v cs) H H') (hi:i<cs.length):Cell C H (elt v i 1) (cs.getD i undef):=by
  have:=NowP.cells (C:=C) p i (cs.getD i undef) (by simp [hi])
  rw [elt_eq,Nat.mul_one]
  exact this
end
/-- the window is moved by one -/
theorem NowP.next {e b n g o c:Nat} {ss cs:List Value} {H H1 H2:List HP} (p:Pick (OwC e 1 (.slice (some ⟨b,0,none⟩) n n) n ss) H H1) (q:Pick (WinC e (.slice (some ⟨g,o,none⟩) (n+1) c) (n+1) cs) H1 H2) :
    ∀ h,sat H h→sat (NowP e b n ss (.slice (if c=1 then some ⟨g,o,none⟩ else ofs (some ⟨g,o,none⟩) (1*1)) (n+1-1) (c-1)) (cs.drop 1)::H2) h:=fun h hs=>by
  obtain ⟨h1,h2,s,a,r⟩:=p.sat hs
  obtain ⟨h3,h4,s2,a2,r2⟩:=q.sat r
  obtain ⟨r',s3,s4⟩:=split_assoc s s2
  refine ⟨r',h4,s3,.inr ⟨h1,h3,s4,a,?_⟩,r2⟩
  obtain ⟨hl,g',o',cap,cur,e1,q1,q2,q3,q4,q5⟩:=a2
  injection e1 with e1 e2 e3
  injection e1 with e1
  injection e1 with e1 e4
  subst e1;subst e4;subst e3
  refine ⟨by simp [hl],?_⟩
  by_cases h1c:c=1
  · subst h1c
    obtain rfl:n=0:=by omega
    refine ⟨g,o,0,cur,by simp,by omega,by omega,by omega,?_,q5⟩
    rw [← q4];simp
  · refine ⟨g,o+1,c-1,cur,?_,by omega,by omega,by omega,?_,q5⟩
    · rw [if_neg h1c];simp [ofs,Addr.add_lit]
    · rw [← q4,show n+1=1+n by omega,List.drop_take,List.drop_drop];simp
end Go.TH
namespace Go.Proofs.YtfchgmiiicidcaaGreat.Ch
open Go Go.TH
attribute [local irreducible] W WO pt
set_option maxRecDepth 10000
set_option maxHeartbeats 1000000
theorem c_within1 (w:World) (x top:Int) (p:Addr) (h1:Cap w p (.int .i64 top)):Ret Tryz.prog 203 [.int .i64 x,.pointer (some p)].toArray w (.bool (bl (¬ (0≤x∧x≤top)))):=by
 refine Ret.of mixed tyTab Tryz.func203 rfl rfl ?_
 replace h1:Cap (fnCx mixed tyTab Tryz.f203.ntmps w).w0 p (.int .i64 top):=h1
 refine W.sreg (WO.p rfl rfl (WO.nil (W.sreg (WO.p rfl rfl (WO.p rfl rfl (WO.p rfl rfl ?_))))))
 refine WO.guard_bl rfl rfl (fun c1=>?_) (fun c1=>?_)
 ·refine WO.no rfl rfl (WO.no rfl rfl (WO.no rfl rfl (WO.p rfl rfl (WO.p rfl rfl (WO.nil (W.ret (fin.ret (Res.one rfl (RV.tmp rfl)) (congrArg Value.bool ?_))))))))
  exact (bl_t.2 (by omega)).symm
 ·refine WO.pg rfl rfl rfl (WO.go' rfl ?_)
  refine' WO.load (v:=_) rfl rfl ?hc rfl ?_
  case hc=>(refine Cap.cell (v:=.int .i64 top) rfl h1)
  refine WO.pg rfl rfl rfl (WO.p rfl rfl (WO.p rfl rfl (WO.nil (W.ret (fin.ret (Res.one rfl (RV.tmp rfl)) (congrArg Value.bool ?_))))))
  (rw [bl_eq,bl_eq,decide_eq_decide];omega)
theorem c_IndexI (w:World) (v:Value) (xs:List Int) (top:Int) (p:Addr) (hR:RdF encI 1 w.heap.size w v xs) (h1:Cap w p (.int .i64 top)):RetE Tryz.prog 211 [v,.func (.func 203) #[] #[.pointer (some p)]].toArray w (fun r=>∃ n:Int,r=.int .i64 n∧(0≤n↔¬ ∀ x∈xs,0≤x∧x≤top)):=by
 refine RetE.of mixed tyTab Tryz.func211 rfl rfl ?_
 replace hR:RdF encI 1 (fnCx mixed tyTab Tryz.f211.ntmps w).B (fnCx mixed tyTab Tryz.f211.ntmps w).w0 v xs:=hR
 replace h1:Cap (fnCx mixed tyTab Tryz.f211.ntmps w).w0 p (.int .i64 top):=h1
 have hle:=hR.sl.le
 refine W.sreg (WO.p rfl rfl (WO.nil (W.seq (W.sreg (WO.p rfl rfl (WO.len rfl rfl hR.sl rfl (WO.p rfl rfl (WO.nil (W.block ?_)))))))))
 refine W.loop (fun (i:Nat)=>i≤xs.length∧∀ x∈xs.take i,0≤x∧x≤top)
  (fun (i:Nat)=>[(8,.int .i64 (i:Int)),(7,.int .i64 (xs.length:Int)),(0,v),(1,.func (.func 203) #[] #[.pointer (some p)])])
  (fun (i:Nat)=>[])
  (fun (i:Nat)=>xs.length-i) 0
  (by exact ⟨by omega,by simp⟩) ⟨rfl,rfl,rfl,rfl,trivial⟩ (by repeat (first | exact Sub.nil | refine Sub.cons (by repeat first | exact .head | apply Pick.tail) ?_)) ?_
 rintro i ⟨hi0,hal⟩
 refine W.sreg (WO.p rfl rfl (WO.nil (W.seq ?_)))
 refine W.cond_bl rfl (fun c1=>?_) (fun c1=>?_)
 ·refine W.skip (W.seq (W.block (W.sreg (WO.p rfl rfl (WO.p rfl rfl (WO.nil (W.sreg (WO.p rfl rfl (WO.p rfl rfl (WO.p rfl rfl (WO.indexAddr rfl rfl rfl hR.sl (by omega) rfl ?_)))))))))))
  refine' WO.load (v:=_) rfl rfl ?hc rfl ?_
  case hc=>(first | (refine hR.cell0 ?_ 0 ?_ <;> first | rfl | omega))
  refine WO.callCR (first:=[]) (captured:=[.pointer (some p)]) rfl rfl Tryz.call203 (fun L w hi'=>c_within1 w (xs.getD i 0) top p (h1.old rfl hi')) rfl (WO.nil ?_)
  refine W.cond_bl rfl (fun c2=>?_) (fun c2=>?_)
  ·refine W.sreg (WO.p rfl rfl (WO.p rfl rfl (WO.nil (W.ret ?_))))
   exact fin.ret (Res.one rfl (RV.tmp rfl)) ⟨_,rfl,by exact ⟨fun _=>not_all_getD (i:=i) (by omega) 0 (by assumption),fun _=>by omega⟩⟩
  ·refine W.skip (W.region (WO.ar rfl rfl rfl (by unfold in64;omega) rfl (WO.p rfl rfl (WO.nil ?_))))
   refine' ⟨i+1,?hp,?hmu,⟨rfl,rfl,rfl,rfl,trivial⟩,?hS⟩
   case hS=>repeat (first | exact Sub.nil | refine Sub.cons (by repeat first | exact .head | apply Pick.tail) ?_)
   case hp=>exact ⟨by omega,all_succ (by omega) 0 hal (Decidable.not_not.1 (by assumption))⟩
   case hmu=>omega
 ·refine W.exit (blk_same (W.sreg (WO.p rfl rfl (WO.nil (W.ret ?_)))))
  exact fin.ret (Res.one rfl (RV.tmp rfl)) ⟨_,rfl,by exact ⟨fun h=>by omega,fun h=>absurd (all_len (by omega) hal) h⟩⟩
theorem c_ContI (w:World) (v:Value) (xs:List Int) (top:Int) (p:Addr) (hR:RdF encI 1 w.heap.size w v xs) (h1:Cap w p (.int .i64 top)):Ret Tryz.prog 138 [v,.func (.func 203) #[] #[.pointer (some p)]].toArray w (.bool (bl (¬ ∀ x∈xs,0≤x∧x≤top))):=by
 refine Ret.of mixed tyTab Tryz.func138 rfl rfl ?_
 replace hR:RdF encI 1 (fnCx mixed tyTab Tryz.f138.ntmps w).B (fnCx mixed tyTab Tryz.f138.ntmps w).w0 v xs:=hR
 replace h1:Cap (fnCx mixed tyTab Tryz.f138.ntmps w).w0 p (.int .i64 top):=h1
 refine W.sreg (WO.p rfl rfl (WO.nil (W.sreg (WO.p rfl rfl (WO.p rfl rfl (WO.callE rfl Tryz.call211 (fun L w hi'=>c_IndexI w v xs top p (hR.later hi') (h1.old rfl hi')) rfl ?_))))))
 rintro _ ⟨n,rfl,hn⟩
 refine WO.p rfl rfl (WO.p rfl rfl (WO.nil (W.ret (fin.ret (Res.one rfl (RV.tmp rfl)) (congrArg Value.bool ?_)))))
 rw [bl_eq,bl_eq];exact decide_eq_decide.2 hn
theorem c_within (w:World) (v:Value) (xs:List Int) (top:Int) (hR:RdF encI 1 w.heap.size w v xs):Ret Tryz.prog 120 [.int .i64 top,v].toArray w (.bool (bl (∀ x∈xs,0≤x∧x≤top))):=by
 refine Ret.of mixed tyTab Tryz.func120 rfl rfl ?_
 replace hR:RdF encI 1 (fnCx mixed tyTab Tryz.f120.ntmps w).B (fnCx mixed tyTab Tryz.f120.ntmps w).w0 v xs:=hR
 refine W.sreg (WO.box1 rfl (by rfl) rfl (fun b1 hb1=>(WO.p rfl rfl (WO.nil (W.sreg (WO.p rfl rfl (WO.p rfl rfl (WO.callR rfl Tryz.call138 (fun L w hi'=>c_ContI w v xs top _ (hR.later hi') (Cap.of (b:=b1) (by repeat exact .head) rfl hi')) rfl (WO.p rfl rfl (WO.p rfl rfl (WO.nil (W.ret (fin.ret (Res.one rfl (RV.tmp rfl)) (congrArg Value.bool ?_))))))))))))))
 rcases Decidable.em (∀ x∈xs,0≤x∧x≤top) with h | h
 ·(rw [bl_t.2 h,bl_f.2 (fun g=>g h)];try rfl)
 ·(rw [bl_f.2 h,bl_t.2 h];try rfl)
def Up (l:List Int) (n:Nat):Prop:=∀ i,i<n→0<i→l.getD (i-1) 0<l.getD i 0
instance (l:List Int) (n:Nat):Decidable (Up l n):=by unfold Up;infer_instance
theorem Up.next {l:List Int} {n:Nat} (h:Up l n) (g:0<n→l.getD (n-1) 0<l.getD n 0):Up l (n+1):=fun i hi h0=>by
 rcases Nat.lt_or_ge i n with q | q
 ·exact h i q h0
 ·obtain rfl:i=n:=by omega
  exact g h0
def Ris (l:List Int):Prop:=Up l l.length∧∀ x∈l,0≤x∧x≤2000
instance (l:List Int):Decidable (Ris l):=by unfold Ris;infer_instance
theorem c_rising (w:World) (v:Value) (l:List Int) (hR:RdF encI 1 w.heap.size w v l):Ret Tryz.prog 135 [v].toArray w (.bool (bl (Ris l))):=by
 refine Ret.of mixed tyTab Tryz.func135 rfl rfl ?_
 replace hR:RdF encI 1 (fnCx mixed tyTab Tryz.f135.ntmps w).B (fnCx mixed tyTab Tryz.f135.ntmps w).w0 v l:=hR
 have hle:=hR.sl.le
 refine W.sreg (WO.p rfl rfl (WO.nil (W.seq (W.sreg (WO.p rfl rfl (WO.len rfl rfl hR.sl rfl (WO.p rfl rfl (WO.nil (W.block ?_)))))))))
 refine W.loop (fun (i:Nat)=>i≤l.length∧Up l i)
  (fun (i:Nat)=>[(7,.int .i64 (i:Int)),(6,.int .i64 (l.length:Int)),(5,v),(0,v)])
  (fun (i:Nat)=>[])
  (fun (i:Nat)=>l.length-i) 0
  (by exact ⟨by omega,fun i hi=>by omega⟩) ⟨rfl,rfl,rfl,rfl,trivial⟩ (by repeat (first | exact Sub.nil | refine Sub.cons (by repeat first | exact .head | apply Pick.tail) ?_)) ?_
 rintro i ⟨hi0,hu⟩
 refine W.sreg (WO.p rfl rfl (WO.nil (W.seq ?_)))
 refine W.cond_bl rfl (fun c1=>?_) (fun c1=>?_)
 ·refine W.skip (W.seq (W.block (W.sreg (WO.p rfl rfl (WO.indexAddr rfl rfl rfl hR.sl (by omega) rfl ?_)))))
  refine' WO.load (v:=_) rfl rfl ?hc rfl ?_
  case hc=>(first | (refine hR.cell0 (i:=i) ?_ 0 ?_ <;> first | rfl | omega))
  refine WO.p rfl rfl (WO.p rfl rfl (WO.nil (W.sreg (WO.p rfl rfl (WO.p rfl rfl (WO.p rfl rfl ?_))))))
  refine WO.guard_bl rfl rfl (fun c2=>?_) (fun c2=>?_)
  ·refine WO.pg rfl rfl rfl (WO.pg rfl rfl rfl (WO.pg rfl rfl rfl (WO.go' rfl (WO.ar rfl rfl rfl (by unfold in64;omega) rfl (WO.go' rfl ?_)))))
   refine' WO.indexAddrZ (n:=_) rfl rfl rfl ?hs ?h00 ?h1 rfl ?_
   case hs=>exact hR.sl
   case h00=>omega
   case h1=>(omega)
   refine WO.go' rfl ?_
   refine' WO.load (v:=_) rfl rfl ?hc rfl ?_
   case hc=>(first | (refine hR.cell0 (i:=((i:Int)-1).toNat) ?_ 0 ?_ <;> first | rfl | omega))
   refine WO.pg rfl rfl rfl (WO.p rfl rfl (WO.nil ?_))
   refine W.cond_bl rfl (fun c3=>?_) (fun c3=>?_)
   ·refine W.sreg (WO.p rfl rfl (WO.nil (W.ret (fin.ret (Res.one rfl (RV.tmp rfl)) (congrArg Value.bool ?_)))))
    (refine (bl_f.2 (fun h=>?_)).symm;have h1:=h.1 i (by omega) (by omega);rw [show i-1=((i:Int)-1).toNat by omega] at h1;omega)
   ·refine W.skip (W.region (WO.ar rfl rfl rfl (by unfold in64;omega) rfl (WO.p rfl rfl (WO.nil ?_))))
    refine' ⟨i+1,?hp,?hmu,⟨rfl,rfl,rfl,rfl,trivial⟩,?hS⟩
    case hS=>repeat (first | exact Sub.nil | refine Sub.cons (by repeat first | exact .head | apply Pick.tail) ?_)
    case hp=>exact ⟨by omega,hu.next fun h0=>by rw [show i-1=((i:Int)-1).toNat by omega];omega⟩
    case hmu=>omega
  ·refine WO.no rfl rfl (WO.no rfl rfl (WO.no rfl rfl (WO.no rfl rfl (WO.no rfl rfl (WO.no rfl rfl (WO.no rfl rfl (WO.p rfl rfl (WO.nil (W.cond_f rfl (W.skip (W.region (WO.ar rfl rfl rfl (by unfold in64;omega) rfl (WO.p rfl rfl (WO.nil ?_))))))))))))))
   refine' ⟨i+1,?hp,?hmu,⟨rfl,rfl,rfl,rfl,trivial⟩,?hS⟩
   case hS=>repeat (first | exact Sub.nil | refine Sub.cons (by repeat first | exact .head | apply Pick.tail) ?_)
   case hp=>exact ⟨by omega,hu.next fun h0=>by rw [show i-1=((i:Int)-1).toNat by omega];omega⟩
   case hmu=>omega
 ·refine W.exit (blk_same (W.sreg (WO.p rfl rfl (WO.callR rfl Tryz.call120 (fun L w hi=>c_within w v l 2000 (hR.later hi)) rfl (WO.p rfl rfl (WO.nil (W.ret (fin.ret (Res.one rfl (RV.tmp rfl)) (congrArg Value.bool ?_)))))))))
  (have hl:i=l.length:=(by omega);subst hl;rw [bl_eq,bl_eq,decide_eq_decide];exact ⟨fun h=>⟨hu,h⟩,fun h=>h.2⟩)
end Go.Proofs.YtfchgmiiicidcaaGreat.Ch
namespace Go.Proofs.YtfchgmiiicidcaaGreat.Ch
open Go Go.TH
attribute [local irreducible] W WO pt
set_option maxRecDepth 10000
set_option maxHeartbeats 1000000
theorem c_isNaN (w:World) (x:Int):Ret Tryz.prog 205 [.int .i64 x].toArray w (.bool false):=by
 refine Ret.of mixed tyTab Tryz.func205 rfl rfl (W.sreg (WO.p rfl rfl (WO.nil (W.sreg (WO.p rfl rfl (WO.p rfl rfl (WO.p rfl rfl (WO.p rfl rfl (WO.nil (W.ret ?_))))))))))
 exact fin.ret (Res.one rfl (RV.tmp rfl)) (congrArg Value.bool (bl_f.2 (by omega)))
theorem c_isNaN2 (w:World) (x:Int):Ret Tryz.prog 277 [.int .i64 x].toArray w (.bool false):=by
 refine Ret.of mixed tyTab Tryz.func277 rfl rfl (W.sreg (WO.p rfl rfl (WO.nil (W.sreg (WO.p rfl rfl (WO.p rfl rfl (WO.p rfl rfl (WO.p rfl rfl (WO.nil (W.ret ?_))))))))))
 exact fin.ret (Res.one rfl (RV.tmp rfl)) (congrArg Value.bool (bl_f.2 (by omega)))
theorem c_Less (w:World) (x y:Int):Ret Tryz.prog 122 [.int .i64 x,.int .i64 y].toArray w (.bool (bl (x<y))):=by
 refine Ret.of mixed tyTab Tryz.func122 rfl rfl (W.sreg (WO.p rfl rfl (WO.nil (W.sreg (WO.p rfl rfl (WO.callR rfl Tryz.call205 (fun L w hi=>c_isNaN w _) rfl (WO.p rfl rfl (WO.no rfl rfl (WO.no rfl rfl (WO.no rfl rfl (WO.p rfl rfl (WO.p rfl rfl (WO.pg rfl rfl rfl (WO.pg rfl rfl rfl (WO.pg rfl rfl rfl (WO.p rfl rfl (WO.p rfl rfl (WO.nil (W.ret (fin.ret (Res.one rfl (RV.tmp rfl)) (congrArg Value.bool ?_)))))))))))))))))))))
 rfl
def fI (l:List Int) (x:Int):Nat:=l.findIdx fun y=>decide (x≤y)
theorem Up.lt {l:List Int} {n:Nat} (h:Up l n):∀ {i j:Nat},i<j→j<n→l.getD i 0<l.getD j 0
 | i,0,hi,_=>by omega
 | i,j+1,hi,hj=>by
  have h1:=h (j+1) hj (by omega)
  rw [show j+1-1=j by omega] at h1
  rcases Nat.lt_or_ge i j with g | g
  ·have:=Up.lt h g (show j<n by omega)
   omega
  ·obtain rfl:i=j:=by omega
   exact h1
theorem fI_eq {l:List Int} {x:Int} {i:Nat} (h1:i≤l.length) (h2:∀ j,j<i→l.getD j 0<x) (h3:i<l.length→x≤l.getD i 0):i=fI l x:=by
 unfold fI
 rcases Nat.lt_or_ge i l.length with g | g
 ·refine ((List.findIdx_eq g).2 ⟨?_,fun j hj=>?_⟩).symm
  ·have:=h3 g
   rw [List.getD_eq_getElem?_getD,List.getElem?_eq_getElem g] at this
   exact decide_eq_true this
  ·have:=h2 j hj
   rw [List.getD_eq_getElem?_getD,List.getElem?_eq_getElem (by omega)] at this
   exact decide_eq_false (by simpa using this)
 ·obtain rfl:i=l.length:=by omega
  refine (List.findIdx_eq_length.2 fun y hy=>?_).symm
  obtain ⟨j,hj,rfl⟩:=List.getElem_of_mem hy
  have:=h2 j hj
  rw [List.getD_eq_getElem?_getD,List.getElem?_eq_getElem hj] at this
  exact decide_eq_false (by simpa using this)
theorem bs_l {l:List Int} {x:Int} {m:Nat} (hu:Up l l.length) (hm:m<l.length) (h:l.getD m 0<x):∀ j,j<m+1→l.getD j 0<x:=fun j hj=>by
 rcases Nat.lt_or_ge j m with g | g
 ·have:=hu.lt g hm
  omega
 ·obtain rfl:j=m:=by omega
  exact h
theorem bs_r {l:List Int} {x:Int} {m:Nat} (hu:Up l l.length) (h:¬ l.getD m 0<x):∀ j,m≤j→j<l.length→x≤l.getD j 0:=fun j hj hl=>by
 rcases Nat.lt_or_ge m j with g | g
 ·have:=hu.lt g hl
  omega
 ·obtain rfl:j=m:=by omega
  omega
theorem c_Binary (w:World) (v:Value) (l:List Int) (x:Int) (hu:Up l l.length) (hs:l.length≤1000) (hR:RdF encI 1 w.heap.size w v l):RetE Tryz.prog 204 [v,.int .i64 x].toArray w (fun r=>∃ b:Bool,r=.tuple #[.int .i64 (fI l x:Int),.bool b]):=by
 refine RetE.of mixed tyTab Tryz.func204 rfl rfl ?_
 replace hR:RdF encI 1 (fnCx mixed tyTab Tryz.f204.ntmps w).B (fnCx mixed tyTab Tryz.f204.ntmps w).w0 v l:=hR
 have hle:=hR.sl.le
 refine W.sreg (WO.p rfl rfl (WO.p rfl rfl (WO.nil (W.sreg (WO.p rfl rfl (WO.len rfl rfl hR.sl rfl (WO.p rfl rfl (WO.nil (W.sreg (WO.p rfl rfl (WO.p rfl rfl (WO.p rfl rfl (WO.nil (W.seq (W.block ?_)))))))))))))))
 refine W.loop2 (fun (za:Int) (zb:Int)=>0≤za∧(za≤zb∧zb≤l.length)∧(∀ j:Nat,(j:Int)<za→l.getD j 0<x)∧∀ j:Nat,zb≤(j:Int)→j<l.length→x≤l.getD j 0)
  (fun (za:Int) (zb:Int)=>[(8,.int .i64 zb),(7,.int .i64 za),(6,.int .i64 (l.length:Int)),(1,.int .i64 x),(0,v)])
  (fun (za:Int) (zb:Int)=>[])
  (fun (za:Int) (zb:Int)=>(zb-za).toNat) 0 (l.length:Int)
  (by exact ⟨by omega,by omega,fun j hj=>by omega,fun j h1 h2=>by omega⟩) ⟨rfl,rfl,rfl,rfl,rfl,trivial⟩ (by repeat (first | exact Sub.nil | refine Sub.cons (by repeat first | exact .head | apply Pick.tail) ?_)) ?_
 rintro za zb ⟨hz0,hab,hlt,hge⟩
 refine W.seq (W.sreg (WO.p rfl rfl (WO.p rfl rfl (WO.p rfl rfl (WO.nil ?_)))))
 refine W.cond_bl rfl (fun c1=>?_) (fun c1=>?_)
 ·refine W.skip (W.block ?_)
  obtain ⟨a,rfl⟩:=Int.eq_ofNat_of_zero_le hz0
  obtain ⟨b,rfl⟩:=Int.eq_ofNat_of_zero_le (show 0≤zb by omega)
  refine W.sreg (WO.p rfl rfl (WO.p rfl rfl (WO.ar rfl rfl rfl (by unfold in64;omega) rfl (WO.convI (b:=((a+b:Nat):Int)) rfl rfl rfl (by rw [show (a:Int)+(b:Int)=((a+b:Nat):Int) by omega];exact wrap_nat (k:=.u64) (show a+b<2 ^ 64 by omega)) rfl (WO.shrN (a:=a+b) (s:=1) rfl rfl (by decide) rfl (WO.conv64 rfl rfl rfl (by unfold in64;rw [Nat.shiftRight_eq_div_pow];omega) rfl ?_))))))
  obtain ⟨m,hm⟩:∃ m,(a+b)>>>1=m:=⟨_,rfl⟩
  have hm2:m=(a+b)/2:=by rw [← hm,Nat.shiftRight_eq_div_pow]
  rw [hm]
  refine WO.p rfl rfl (WO.nil (W.sreg (WO.p rfl rfl (WO.p rfl rfl (WO.indexAddr rfl rfl rfl hR.sl (by omega) rfl ?_)))))
  refine' WO.load (v:=_) rfl rfl ?hc rfl ?_
  case hc=>(first | (refine hR.cell0 (i:=m) ?_ 0 ?_ <;> first | rfl | omega))
  refine WO.p rfl rfl (WO.callR rfl Tryz.call122 (fun L w hi=>c_Less w _ _) rfl (WO.nil ?_))
  refine W.cond_bl rfl (fun c2=>?_) (fun c2=>?_)
  ·refine W.region (WO.p rfl rfl (WO.ar rfl rfl rfl (by unfold in64;omega) rfl (WO.p rfl rfl (WO.nil ?_))))
   refine' ⟨_,_,?hp,?hmu,⟨rfl,rfl,rfl,rfl,rfl,trivial⟩,?hS⟩
   case hS=>repeat (first | exact Sub.nil | refine Sub.cons (by repeat first | exact .head | apply Pick.tail) ?_)
   case hp=>exact ⟨by omega,by omega,fun j hj=>bs_l hu (show m<l.length by omega) (by assumption) j (by omega),hge⟩
   case hmu=>omega
  ·refine W.region (WO.p rfl rfl (WO.p rfl rfl (WO.nil ?_)))
   refine' ⟨_,_,?hp,?hmu,⟨rfl,rfl,rfl,rfl,rfl,trivial⟩,?hS⟩
   case hS=>repeat (first | exact Sub.nil | refine Sub.cons (by repeat first | exact .head | apply Pick.tail) ?_)
   case hp=>exact ⟨by omega,by omega,hlt,fun j h1 h2=>bs_r (m:=m) hu (by assumption) j (by omega) h2⟩
   case hmu=>omega
 ·refine W.exit (blk_same ?_)
  obtain ⟨a,rfl⟩:=Int.eq_ofNat_of_zero_le hz0
  refine W.sreg (WO.p rfl rfl (WO.p rfl rfl (WO.p rfl rfl (WO.p rfl rfl (WO.p rfl rfl ?_)))))
  refine WO.guard_bl rfl rfl (fun c3=>?_) (fun c3=>?_)
  ·refine WO.pg rfl rfl rfl (WO.pg rfl rfl rfl (WO.go' rfl (WO.indexAddr rfl rfl rfl hR.sl (by omega) rfl (WO.go' rfl ?_))))
   refine' WO.load (v:=_) rfl rfl ?hc rfl ?_
   case hc=>(first | (refine hR.cell0 (i:=a) ?_ 0 ?_ <;> first | rfl | omega))
   refine WO.pg rfl rfl rfl (WO.pg rfl rfl rfl (WO.pg rfl rfl rfl ?_))
   refine WO.guard_bl rfl rfl (fun c4=>?_) (fun c4=>?_)
   ·refine WO.no rfl rfl (WO.no rfl rfl (WO.no rfl rfl (WO.no rfl rfl (WO.no rfl rfl (WO.no rfl rfl (WO.no rfl rfl (WO.no rfl rfl (WO.no rfl rfl (WO.pg rfl rfl rfl (WO.p rfl rfl (WO.p rfl rfl (WO.p rfl rfl (WO.nil (W.ret ?_))))))))))))))
    (have hai:=fI_eq (l:=l) (x:=x) (i:=a) (by omega) (fun j hj=>hlt j (by omega)) (fun h=>hge a (by omega) h);rw [← hai];exact fin.ret (Res.two rfl (RV.tmp rfl) (RV.tmp rfl)) ⟨_,rfl⟩)
   ·refine WO.pg rfl rfl rfl (WO.pg rfl rfl rfl (WO.go' rfl (WO.indexAddr rfl rfl rfl hR.sl (by omega) rfl (WO.go' rfl ?_))))
    refine' WO.load (v:=_) rfl rfl ?hc rfl ?_
    case hc=>(first | (refine hR.cell0 (i:=a) ?_ 0 ?_ <;> first | rfl | omega))
    refine WO.go' rfl (WO.callR rfl Tryz.call277 (fun L w hi=>c_isNaN2 w _) rfl (WO.pg rfl rfl rfl (WO.no rfl rfl (WO.no rfl rfl (WO.pg rfl rfl rfl (WO.pg rfl rfl rfl (WO.p rfl rfl (WO.p rfl rfl (WO.p rfl rfl (WO.nil (W.ret ?_)))))))))))
    (have hai:=fI_eq (l:=l) (x:=x) (i:=a) (by omega) (fun j hj=>hlt j (by omega)) (fun h=>hge a (by omega) h);rw [← hai];exact fin.ret (Res.two rfl (RV.tmp rfl) (RV.tmp rfl)) ⟨_,rfl⟩)
  ·refine WO.no rfl rfl (WO.no rfl rfl (WO.no rfl rfl (WO.no rfl rfl (WO.no rfl rfl (WO.no rfl rfl (WO.no rfl rfl (WO.no rfl rfl (WO.no rfl rfl (WO.no rfl rfl (WO.no rfl rfl (WO.no rfl rfl (WO.no rfl rfl (WO.no rfl rfl (WO.no rfl rfl (WO.no rfl rfl (WO.no rfl rfl (WO.p rfl rfl (WO.p rfl rfl (WO.p rfl rfl (WO.nil (W.ret ?_)))))))))))))))))))))
   (have hai:=fI_eq (l:=l) (x:=x) (i:=a) (by omega) (fun j hj=>hlt j (by omega)) (fun h=>hge a (by omega) h);rw [← hai];exact fin.ret (Res.two rfl (RV.tmp rfl) (RV.tmp rfl)) ⟨_,rfl⟩)
def nbI (l:List Int) (x:Int):Nat:=fI l x-1
def On (l:List Int) (x:Int):Prop:=l.getD 0 0≤x∧fI l x<l.length
instance (l:List Int) (x:Int):Decidable (On l x):=by unfold On;infer_instance
theorem fI_le (l:List Int) (x:Int):fI l x≤l.length:=List.findIdx_le_length
theorem c_neighbour (w:World) (v:Value) (l:List Int) (x:Int) (hu:Up l l.length) (h0:0<l.length) (hs:l.length≤1000) (hR:RdF encI 1 w.heap.size w v l):Ret Tryz.prog 121 [v,.int .i64 x].toArray w (.tuple #[.int .i64 (nbI l x:Int),.bool (bl (On l x))]):=by
 refine Ret.of mixed tyTab Tryz.func121 rfl rfl ?_
 replace hR:RdF encI 1 (fnCx mixed tyTab Tryz.f121.ntmps w).B (fnCx mixed tyTab Tryz.f121.ntmps w).w0 v l:=hR
 have hle:=hR.sl.le
 have hfl:=fI_le l x
 refine W.sreg (WO.p rfl rfl (WO.p rfl rfl (WO.nil (W.sreg (WO.p rfl rfl (WO.p rfl rfl (WO.callE rfl Tryz.call204 (fun L w hi=>c_Binary w v l x hu hs (hR.later hi)) rfl ?_)))))))
 rintro _ ⟨b,rfl⟩
 refine WO.p rfl rfl (WO.p rfl rfl (WO.p rfl rfl (WO.p rfl rfl (WO.p rfl rfl (WO.nil (W.sreg (WO.p rfl rfl (WO.ar rfl rfl rfl (by unfold in64;omega) rfl (WO.max2 rfl rfl rfl ?_)))))))))
 rw [show max 0 ((fI l x:Int)-1)=(nbI l x:Int) by unfold nbI;omega]
 refine WO.p rfl rfl (WO.p rfl rfl (WO.indexAddr (i:=0) rfl rfl rfl hR.sl (by omega) rfl ?_))
 refine' WO.load (v:=_) rfl rfl ?hc rfl ?_
 case hc=>(first | (refine hR.cell0 (i:=0) ?_ 0 ?_ <;> first | rfl | omega))
 refine WO.p rfl rfl (WO.p rfl rfl ?_)
 refine WO.guard_bl rfl rfl (fun c1=>?_) (fun c1=>?_)
 ·refine WO.pg rfl rfl rfl (WO.pg rfl rfl rfl (WO.go' rfl (WO.len rfl rfl hR.sl rfl (WO.pg rfl rfl rfl (WO.p rfl rfl (WO.p rfl rfl (WO.p rfl rfl (WO.nil (W.ret (fin.ret (Res.two rfl (RV.tmp rfl) (RV.tmp rfl)) ?_))))))))))
  (rw [show bl ((fI l x:Int)<(l.length:Int))=bl (On l x) by rw [bl_eq,bl_eq,decide_eq_decide];unfold On;omega];done)
 ·refine WO.no rfl rfl (WO.no rfl rfl (WO.no rfl rfl (WO.no rfl rfl (WO.p rfl rfl (WO.p rfl rfl (WO.p rfl rfl (WO.nil (W.ret (fin.ret (Res.two rfl (RV.tmp rfl) (RV.tmp rfl)) ?_)))))))))
  (rw [show bl (On l x)=false from bl_f.2 (fun h=>by unfold On at h;omega)];done)
end Go.Proofs.YtfchgmiiicidcaaGreat.Ch
namespace Go.Proofs.YtfchgmiiicidcaaGreat.Ch
open Go Go.TH
attribute [local irreducible] W WO pt
set_option maxRecDepth 10000
set_option maxHeartbeats 1000000
abbrev Rws:=List (List (Int × Int))
structure OkC (P A:List Int) (R:Rws):Prop where
 np:2≤P.length∧P.length≤8
 na:2≤A.length∧A.length≤10
 nr:R.length=P.length
 nc:∀ r∈R,r.length=A.length
 up:Ris P
 ua:Ris A
 rg:∀ r∈R,∀ x∈r,0≤x.1∧x.1≤x.2∧x.2≤100000
 fl:∀ r∈R,∀ k,k<r.length→0<k→(r.getD k (0,0)).1≤(r.getD (k-1) (0,0)).1∧(r.getD k (0,0)).2≤(r.getD (k-1) (0,0)).2
theorem OkC.row {P A:List Int} {R:Rws} (h:OkC P A R) {i:Nat} (hi:i<R.length):(R.getD i []).length=A.length:=h.nc _ (getD_mem hi [])
theorem OkC.at_ {P A:List Int} {R:Rws} (h:OkC P A R) {i k:Nat} (hi:i<R.length) (hk:k<(R.getD i []).length):0≤((R.getD i []).getD k (0,0)).1∧((R.getD i []).getD k (0,0)).1≤((R.getD i []).getD k (0,0)).2∧((R.getD i []).getD k (0,0)).2≤100000:=h.rg _ (getD_mem hi []) _ (getD_mem hk (0,0))
theorem OkC.fall {P A:List Int} {R:Rws} (h:OkC P A R) {i k:Nat} (hi:i<R.length) (hk:k+1<(R.getD i []).length):((R.getD i []).getD (k+1) (0,0)).1≤((R.getD i []).getD k (0,0)).1∧((R.getD i []).getD (k+1) (0,0)).2≤((R.getD i []).getD k (0,0)).2:=h.fl _ (getD_mem hi []) (k+1) hk (by omega)
theorem all3 {a b c t:Int} (h1:0≤a∧a≤t) (h2:0≤b∧b≤t) (h3:0≤c∧c≤t):∀ x∈[a,b,c],0≤x∧x≤t:=by simp;omega
theorem c_row1 (w:World) (u vp va o:Value) (p:Addr) (r:List (Int × Int)) (A:List Int) (hr:RdF encP 2 w.heap.size w u r) (hC:RdC w.heap.size w p [vp,va,o]) (hA:RdF encI 1 w.heap.size w va A):Ret Tryz.prog 134 [u,.pointer (some p)].toArray w (.bool (bl ((r.length:Int)≠(A.length:Int)))):=by
 refine Ret.of mixed tyTab Tryz.func134 rfl rfl ?_
 replace hr:RdF encP 2 (fnCx mixed tyTab Tryz.f134.ntmps w).B (fnCx mixed tyTab Tryz.f134.ntmps w).w0 u r:=hr
 replace hA:RdF encI 1 (fnCx mixed tyTab Tryz.f134.ntmps w).B (fnCx mixed tyTab Tryz.f134.ntmps w).w0 va A:=hA
 replace hC:RdC (fnCx mixed tyTab Tryz.f134.ntmps w).B (fnCx mixed tyTab Tryz.f134.ntmps w).w0 p [vp,va,o]:=hC
 have hle:=hr.sl.le
 have hla:=hA.sl.le
 refine W.sreg (WO.p rfl rfl (WO.nil (W.sreg (WO.p rfl rfl (WO.len rfl rfl hr.sl rfl (WO.field rfl rfl rfl ?_))))))
 refine' WO.load (v:=_) rfl rfl ?hc rfl ?_
 case hc=>((refine hC.cellAt ?_;rfl))
 refine WO.len rfl rfl hA.sl rfl (WO.p rfl rfl (WO.p rfl rfl (WO.nil (W.ret ?_))))
 exact fin.ret (Res.one rfl (RV.tmp rfl)) rfl
theorem c_IndexR (w:World) (vp va o:Value) (p:Addr) (rv:List Value) (P A:List Int) (R:Rws) (hc:OkC P A R) (hR:RdR encP 2 w.heap.size w o rv R) (hC:RdC w.heap.size w p [vp,va,o]) (hA:RdF encI 1 w.heap.size w va A):Ret Tryz.prog 209 [o,.func (.func 134) #[] #[.pointer (some p)]].toArray w (.int .i64 (-1)):=by
 refine Ret.of mixed tyTab Tryz.func209 rfl rfl ?_
 replace hR:RdR encP 2 (fnCx mixed tyTab Tryz.f209.ntmps w).B (fnCx mixed tyTab Tryz.f209.ntmps w).w0 o rv R:=hR
 replace hA:RdF encI 1 (fnCx mixed tyTab Tryz.f209.ntmps w).B (fnCx mixed tyTab Tryz.f209.ntmps w).w0 va A:=hA
 replace hC:RdC (fnCx mixed tyTab Tryz.f209.ntmps w).B (fnCx mixed tyTab Tryz.f209.ntmps w).w0 p [vp,va,o]:=hC
 have hle:=hR.sl.le
 have hla:=hA.sl.le
 refine W.sreg (WO.p rfl rfl (WO.nil (W.seq (W.sreg (WO.p rfl rfl (WO.len rfl rfl hR.sl rfl (WO.p rfl rfl (WO.nil (W.block ?_)))))))))
 refine W.loop (fun (i:Nat)=>i≤R.length)
  (fun (i:Nat)=>[(8,.int .i64 (i:Int)),(7,.int .i64 (R.length:Int)),(0,o),(1,.func (.func 134) #[] #[.pointer (some p)])])
  (fun (i:Nat)=>[])
  (fun (i:Nat)=>R.length-i) 0
  (by omega) ⟨rfl,rfl,rfl,rfl,trivial⟩ (by repeat (first | exact Sub.nil | refine Sub.cons (by repeat first | exact .head | apply Pick.tail) ?_)) ?_
 rintro i hi0
 refine W.sreg (WO.p rfl rfl (WO.nil (W.seq ?_)))
 refine W.cond_bl rfl (fun c1=>?_) (fun c1=>?_)
 ·refine W.skip (W.seq (W.block (W.sreg (WO.p rfl rfl (WO.p rfl rfl (WO.nil (W.sreg (WO.p rfl rfl (WO.p rfl rfl (WO.p rfl rfl (WO.indexAddr rfl rfl rfl hR.sl (by omega) rfl ?_)))))))))))
  refine' WO.load (v:=_) rfl rfl ?hc rfl ?_
  case hc=>((refine hR.cellV ?_;omega))
  refine WO.callCR (r:=.bool false) (first:=[]) (captured:=[.pointer (some p)]) rfl rfl Tryz.call134 (fun L w hi'=>by have h:=c_row1 w _ vp va o p (R.getD i []) A ((hR.later hi').row i (by omega)) (hC.later hi') (hA.later hi');rw [bl_f.2 (by rw [hc.row (by omega)];exact fun h=>h rfl)] at h;exact h) rfl (WO.nil (W.cond_f rfl (W.skip (W.region (WO.ar rfl rfl rfl (by unfold in64;omega) rfl (WO.p rfl rfl (WO.nil ?_)))))))
  refine' ⟨i+1,?hp,?hmu,⟨rfl,rfl,rfl,rfl,trivial⟩,?hS⟩
  case hS=>repeat (first | exact Sub.nil | refine Sub.cons (by repeat first | exact .head | apply Pick.tail) ?_)
  case hp=>omega
  case hmu=>omega
 ·refine W.exit (blk_same (W.sreg (WO.p rfl rfl (WO.nil (W.ret ?_)))))
  exact fin.ret (Res.one rfl (RV.tmp rfl)) rfl
theorem c_ContR (w:World) (vp va o:Value) (p:Addr) (rv:List Value) (P A:List Int) (R:Rws) (hc:OkC P A R) (hR:RdR encP 2 w.heap.size w o rv R) (hC:RdC w.heap.size w p [vp,va,o]) (hA:RdF encI 1 w.heap.size w va A):Ret Tryz.prog 133 [o,.func (.func 134) #[] #[.pointer (some p)]].toArray w (.bool false):=by
 refine Ret.of mixed tyTab Tryz.func133 rfl rfl ?_
 replace hR:RdR encP 2 (fnCx mixed tyTab Tryz.f133.ntmps w).B (fnCx mixed tyTab Tryz.f133.ntmps w).w0 o rv R:=hR
 replace hA:RdF encI 1 (fnCx mixed tyTab Tryz.f133.ntmps w).B (fnCx mixed tyTab Tryz.f133.ntmps w).w0 va A:=hA
 replace hC:RdC (fnCx mixed tyTab Tryz.f133.ntmps w).B (fnCx mixed tyTab Tryz.f133.ntmps w).w0 p [vp,va,o]:=hC
 refine W.sreg (WO.p rfl rfl (WO.nil (W.sreg (WO.p rfl rfl (WO.p rfl rfl (WO.callR rfl Tryz.call209 (fun L w hi=>c_IndexR w vp va o p rv P A R hc (hR.later hi) (hC.later hi) (hA.later hi)) rfl (WO.p rfl rfl (WO.p rfl rfl (WO.nil (W.ret ?_))))))))))
 exact fin.ret (Res.one rfl (RV.tmp rfl)) (congrArg Value.bool (bl_f.2 (by omega)))
theorem c_CheckChart (w:World) (vp va o:Value) (rv:List Value) (P A:List Int) (R:Rws) (hc:OkC P A R) (hP:RdF encI 1 w.heap.size w vp P) (hA:RdF encI 1 w.heap.size w va A) (hR:RdR encP 2 w.heap.size w o rv R):Ret Tryz.prog 70 [.agg #[vp,va,o]].toArray w (.int .i64 0):=by
 refine Ret.of mixed tyTab Tryz.func70 rfl rfl ?_
 replace hR:RdR encP 2 (fnCx mixed tyTab Tryz.f70.ntmps w).B (fnCx mixed tyTab Tryz.f70.ntmps w).w0 o rv R:=hR
 replace hP:RdF encI 1 (fnCx mixed tyTab Tryz.f70.ntmps w).B (fnCx mixed tyTab Tryz.f70.ntmps w).w0 vp P:=hP
 replace hA:RdF encI 1 (fnCx mixed tyTab Tryz.f70.ntmps w).B (fnCx mixed tyTab Tryz.f70.ntmps w).w0 va A:=hA
 have hle:=hR.sl.le
 have hnp:=hc.np
 have hna:=hc.na
 have hnr:=hc.nr
 refine W.sreg (WO.boxA rfl rfl (fun b1 hb1=>(WO.p rfl rfl (WO.nil (W.seq (W.block (W.sreg (WO.field0 rfl rfl rfl (WO.load rfl rfl (Cell.own Pick.head rfl) rfl (WO.len rfl rfl hP.sl rfl (WO.p rfl rfl (WO.p rfl rfl ?_))))))))))))
 refine WO.guard_bl rfl rfl (fun c1=>?_) (fun c1=>?_)
 ·exfalso;omega
 ·refine WO.go' rfl (WO.field0 rfl rfl rfl (WO.go' rfl (WO.load rfl rfl (Cell.own Pick.head rfl) rfl (WO.go' rfl (WO.len rfl rfl hP.sl rfl (WO.pg rfl rfl rfl (WO.p rfl rfl (WO.p rfl rfl ?_))))))))
  refine WO.guard_bl rfl rfl (fun c2=>?_) (fun c2=>?_)
  ·exfalso;omega
  ·refine WO.go' rfl (WO.fieldL rfl rfl rfl (WO.go' rfl (WO.load rfl rfl (Cell.own Pick.head rfl) rfl (WO.go' rfl (WO.len rfl rfl hA.sl rfl (WO.pg rfl rfl rfl (WO.p rfl rfl (WO.p rfl rfl ?_))))))))
   refine WO.guard_bl rfl rfl (fun c3=>?_) (fun c3=>?_)
   ·exfalso;omega
   ·refine WO.go' rfl (WO.fieldL rfl rfl rfl (WO.go' rfl (WO.load rfl rfl (Cell.own Pick.head rfl) rfl (WO.go' rfl (WO.len rfl rfl hA.sl rfl (WO.pg rfl rfl rfl (WO.p rfl rfl (WO.p rfl rfl (WO.nil ?_)))))))))
    refine W.cond_bl rfl (fun c4=>?_) (fun c4=>?_)
    ·exfalso;omega
    ·refine W.sreg (WO.fieldL rfl rfl rfl (WO.load rfl rfl (Cell.own Pick.head rfl) rfl (WO.len rfl rfl hR.sl rfl (WO.field0 rfl rfl rfl (WO.load rfl rfl (Cell.own Pick.head rfl) rfl (WO.len rfl rfl hP.sl rfl (WO.p rfl rfl (WO.p rfl rfl ?_))))))))
     refine WO.guard_bl rfl rfl (fun c5=>?_) (fun c5=>?_)
     ·exfalso;omega
     ·refine WO.go' rfl (WO.fieldL rfl rfl rfl (WO.go' rfl (WO.load rfl rfl (Cell.own Pick.head rfl) rfl (WO.pg rfl rfl rfl (WO.go' rfl (WO.callR rfl Tryz.call133 (fun L w hi=>c_ContR w vp va o ⟨b1,0,none⟩ rv P A R hc (hR.later hi) (RdC.own (by repeat exact .head) hi) (hA.later hi)) rfl (WO.p rfl rfl (WO.p rfl rfl (WO.nil (W.cond_f rfl (W.sreg (WO.field0 rfl rfl rfl (WO.load rfl rfl (Cell.own Pick.head rfl) rfl (WO.callR (r:=.bool true) rfl Tryz.call135 (fun L w hi=>by have h:=c_rising w vp P (hP.later hi);rw [bl_t.2 hc.up] at h;exact h) rfl ?_))))))))))))))
      refine WO.p rfl rfl (WO.p rfl rfl (WO.go' rfl (WO.fieldL rfl rfl rfl (WO.go' rfl (WO.load rfl rfl (Cell.own Pick.head rfl) rfl (WO.go' rfl (WO.callR (r:=.bool true) rfl Tryz.call135 (fun L w hi=>by have h:=c_rising w va A (hA.later hi);rw [bl_t.2 hc.ua] at h;exact h) rfl (WO.pg rfl rfl rfl (WO.p rfl rfl (WO.p rfl rfl (WO.nil (W.cond_f rfl (W.skip (W.sreg (WO.p rfl rfl (WO.nil (W.seq (W.sreg (WO.fieldL rfl rfl rfl (WO.load rfl rfl (Cell.own Pick.head rfl) rfl (WO.len rfl rfl hR.sl rfl (WO.p rfl rfl (WO.nil (W.block ?_))))))))))))))))))))))))
      refine W.loop (fun (i:Nat)=>i≤R.length)
       (fun (i:Nat)=>[(60,.int .i64 (i:Int)),(59,.int .i64 (R.length:Int)),(58,o),(3,.bool true),(1,.pointer (some ⟨b1,0,none⟩))])
       (fun (i:Nat)=>[pt b1 (.cells #[vp,va,o] 25 (0,0))])
       (fun (i:Nat)=>R.length-i) 0
       (by omega) ⟨rfl,rfl,rfl,rfl,rfl,trivial⟩ (by repeat (first | exact Sub.nil | refine Sub.cons (by repeat exact .head) ?_)) ?_
      rintro i hi0
      refine W.sreg (WO.p rfl rfl (WO.nil (W.seq ?_)))
      refine W.cond_bl rfl (fun c6=>?_) (fun c6=>?_)
      ·refine W.skip (W.seq (W.block (W.sreg (WO.indexAddr rfl rfl rfl hR.sl (by omega) rfl ?_))))
       refine' WO.load (v:=_) rfl rfl ?hc rfl ?_
       case hc=>((refine hR.cellV ?_;omega))
       refine WO.p rfl rfl (WO.nil (W.sreg (WO.build rfl rfl rfl rfl rfl (WO.alloc rfl rfl rfl (fun b2 hb2=>(WO.storeA rfl rfl rfl rfl Pick.head rfl rfl (WO.nil (W.sreg (WO.p rfl rfl ?_)))))))))
       refine' WO.len (n:=_) rfl rfl ?hs rfl ?_
       case hs=>((refine (hR.row i ?_).sl;omega))
       refine WO.p rfl rfl (WO.nil (W.block ?_))
       refine W.loop3 (fun (k:Nat) (y:Int) (z:Int)=>k≤(R.getD i []).length∧(k<(R.getD i []).length→((R.getD i []).getD k (0,0)).1≤y∧((R.getD i []).getD k (0,0)).2≤z))
        (fun (k:Nat) (y:Int) (z:Int)=>[(67,.int .i64 (k:Int)),(66,.int .i64 ((R.getD i []).length:Int)),(65,rv.getD i undef),(60,.int .i64 (i:Int)),(59,.int .i64 (R.length:Int)),(58,o),(6,.pointer (some ⟨b2,0,none⟩)),(3,.bool true),(1,.pointer (some ⟨b1,0,none⟩))])
        (fun (k:Nat) (y:Int) (z:Int)=>[pt b2 (.cells #[.int .i64 y,.int .i64 z] 30 (0,0)),pt b1 (.cells #[vp,va,o] 25 (0,0))])
        (fun (k:Nat) (y:Int) (z:Int)=>(R.getD i []).length-k) 0 100000 100000
        (by exact ⟨by omega,fun hk=>by have:=hc.at_ (show i<R.length by omega) hk;omega⟩) ⟨rfl,rfl,rfl,rfl,rfl,rfl,rfl,rfl,rfl,trivial⟩ (by repeat (first | exact Sub.nil | refine Sub.cons (by repeat exact .head) ?_)) ?_
       rintro k y z ⟨hk0,hyz⟩
       refine W.sreg (WO.p rfl rfl (WO.nil (W.seq ?_)))
       refine W.cond_bl rfl (fun c7=>?_) (fun c7=>?_)
       ·refine W.skip (W.seq (W.block (W.sreg ?_)))
        refine' WO.indexAddr (n:=_) (i:=_) rfl rfl rfl ?hs ?h1 rfl ?_
        case hs=>((refine (hR.row i ?_).sl;omega))
        case h1=>(omega)
        refine' WO.loadA (vs:=_) rfl rfl ?hc ?hl rfl ?_
        case hc=>((refine (hR.row i ?_).cells ?_ (0,0) <;> omega))
        case hl=>rfl
        refine WO.alloc rfl rfl rfl (fun b3 hb3=>(WO.storeA rfl rfl rfl rfl Pick.head rfl rfl (WO.nil (W.seq ?_))))
        have hrw:=hc.row (show i<R.length by omega)
        have hx:=hc.at_ (show i<R.length by omega) (show k<(R.getD i []).length by omega)
        refine W.sreg (WO.field0 rfl rfl rfl (WO.load rfl rfl (Cell.own Pick.head rfl) rfl (WO.fieldL rfl rfl rfl (WO.load rfl rfl (Cell.own Pick.head rfl) rfl (WO.fieldL rfl rfl rfl (WO.load rfl rfl (Cell.own Pick.head rfl) rfl (WO.field0 rfl rfl rfl (WO.load rfl rfl (Cell.own Pick.head rfl) rfl (WO.ar rfl rfl rfl (by unfold in64;omega) rfl (WO.buildSl rfl rfl rfl rfl rfl rfl rfl rfl rfl (fun v4=>?_)))))))))))
        refine WO.callR (r:=.bool true) rfl Tryz.call120 (fun L w hi=>by have h:=c_within w _ [((R.getD i []).getD k (0,0)).1,((R.getD i []).getD k (0,0)).2,((R.getD i []).getD k (0,0)).2-((R.getD i []).getD k (0,0)).1] 100000 (RdF.of_ow (e:=2) encI_ok (by repeat exact .head) hi);rw [bl_t.2 (all3 (by omega) (by omega) (by omega))] at h;exact h) rfl (WO.p rfl rfl (WO.nil (W.cond_f rfl (W.skip (W.sreg ?_)))))
        refine WO.p rfl rfl (WO.p rfl rfl (WO.go' rfl (WO.field0 rfl rfl rfl (WO.go' rfl (WO.load rfl rfl (Cell.own (Pick.tail (Pick.head)) rfl) rfl (WO.go' rfl (WO.field0 rfl rfl rfl (WO.go' rfl (WO.load rfl rfl (Cell.own (Pick.tail (Pick.tail (Pick.head))) rfl) rfl (WO.go' rfl (WO.leqT rfl rfl (by omega) rfl (WO.p rfl rfl (WO.p rfl rfl (WO.go' rfl (WO.fieldL rfl rfl rfl (WO.go' rfl (WO.load rfl rfl (Cell.own (Pick.tail (Pick.head)) rfl) rfl (WO.go' rfl (WO.fieldL rfl rfl rfl (WO.go' rfl (WO.load rfl rfl (Cell.own (Pick.tail (Pick.tail (Pick.head))) rfl) rfl (WO.go' rfl (WO.leqT rfl rfl (by omega) rfl (WO.p rfl rfl (WO.p rfl rfl (WO.nil ?_))))))))))))))))))))))))))
        refine W.region (WO.loadA rfl rfl (Cells.own (Pick.tail (Pick.head))) rfl rfl (WO.storeA rfl rfl rfl rfl (Pick.tail (Pick.tail (Pick.head))) rfl rfl (WO.nil (W.region (WO.ar rfl rfl rfl (by unfold in64;omega) rfl (WO.p rfl rfl (WO.nil ?_)))))))
        refine' ⟨k+1,_,_,?hp,?hmu,⟨rfl,rfl,rfl,rfl,rfl,rfl,rfl,rfl,rfl,trivial⟩,?hS⟩
        case hS=>repeat (first | exact Sub.nil | refine Sub.cons (by repeat first | exact .head | apply Pick.tail) ?_)
        case hp=>exact ⟨by omega,fun hk=>hc.fall (show i<R.length by omega) hk⟩
        case hmu=>omega
       ·refine W.exit (blk_same (W.region (WO.ar rfl rfl rfl (by unfold in64;omega) rfl (WO.p rfl rfl (WO.nil ?_)))))
        refine' ⟨i+1,?hp,?hmu,⟨rfl,rfl,rfl,rfl,rfl,trivial⟩,?hS⟩
        case hS=>repeat (first | exact Sub.nil | refine Sub.cons (by repeat first | exact .head | apply Pick.tail) ?_)
        case hp=>omega
        case hmu=>omega
      ·refine W.exit (blk_same (W.seq (W.sreg (WO.p rfl rfl (WO.p rfl rfl (WO.nil (W.cond_f rfl (W.skip (W.sreg (WO.p rfl rfl (WO.nil (W.ret ?_))))))))))))
       exact fin.ret (Res.one rfl (RV.tmp rfl)) rfl
end Go.Proofs.YtfchgmiiicidcaaGreat.Ch
namespace Go.Proofs.YtfchgmiiicidcaaGreat.Ch
open Go Go.TH
attribute [local irreducible] W WO pt
set_option maxRecDepth 10000
set_option maxHeartbeats 1000000
theorem c_on1 (w:World) (vp va o:Value) (q:Addr) (P A:List Int) (R:Rws) (x:Int × Int) (hc:OkC P A R) (hx:On P x.1∧On A x.2) (hC:RdC w.heap.size w q [vp,va,o]) (hP:RdF encI 1 w.heap.size w vp P) (hA:RdF encI 1 w.heap.size w va A):Ret Tryz.prog 137 [.agg #[.int .i64 x.1,.int .i64 x.2],.pointer (some q)].toArray w (.bool false):=by
 refine Ret.of mixed tyTab Tryz.func137 rfl rfl ?_
 replace hP:RdF encI 1 (fnCx mixed tyTab Tryz.f137.ntmps w).B (fnCx mixed tyTab Tryz.f137.ntmps w).w0 vp P:=hP
 replace hA:RdF encI 1 (fnCx mixed tyTab Tryz.f137.ntmps w).B (fnCx mixed tyTab Tryz.f137.ntmps w).w0 va A:=hA
 replace hC:RdC (fnCx mixed tyTab Tryz.f137.ntmps w).B (fnCx mixed tyTab Tryz.f137.ntmps w).w0 q [vp,va,o]:=hC
 have hnp:=hc.np
 have hna:=hc.na
 refine W.sreg (WO.boxA rfl rfl (fun b1 hb1=>(WO.p rfl rfl (WO.nil (W.sreg (WO.field0 rfl rfl rfl (WO.field0 rfl rfl rfl ?_)))))))
 refine' WO.load (v:=_) rfl rfl ?hc rfl ?_
 case hc=>(first | (refine hC.cell0 ?_;rfl))
 refine WO.field0 rfl rfl rfl (WO.load rfl rfl (Cell.own Pick.head rfl) rfl (WO.callR (r:=.tuple #[.int .i64 (nbI P x.1:Int),.bool true]) rfl Tryz.call121 (fun L w hi=>by have h:=c_neighbour w vp P x.1 hc.up.1 (by omega) (by omega) (hP.later hi);rw [bl_t.2 hx.1] at h;exact h) rfl (WO.p rfl rfl (WO.p rfl rfl (WO.p rfl rfl (WO.p rfl rfl (WO.p rfl rfl (WO.nil (W.sreg (WO.field0 rfl rfl rfl (WO.field rfl rfl rfl ?_)))))))))))
 refine' WO.load (v:=_) rfl rfl ?hc rfl ?_
 case hc=>(first | (refine hC.cellAt ?_;rfl))
 refine WO.fieldL rfl rfl rfl (WO.load rfl rfl (Cell.own Pick.head rfl) rfl (WO.callR (r:=.tuple #[.int .i64 (nbI A x.2:Int),.bool true]) rfl Tryz.call121 (fun L w hi=>by have h:=c_neighbour w va A x.2 hc.ua.1 (by omega) (by omega) (hA.later hi);rw [bl_t.2 hx.2] at h;exact h) rfl (WO.p rfl rfl (WO.p rfl rfl (WO.p rfl rfl (WO.p rfl rfl (WO.p rfl rfl (WO.nil (W.sreg (WO.p rfl rfl (WO.p rfl rfl (WO.p rfl rfl (WO.pg rfl rfl rfl (WO.pg rfl rfl rfl (WO.p rfl rfl (WO.p rfl rfl (WO.nil (W.ret ?_))))))))))))))))))
 exact fin.ret (Res.one rfl (RV.tmp rfl)) rfl
theorem c_IndexP (w:World) (v vp va o:Value) (q:Addr) (P A:List Int) (R:Rws) (l:List (Int × Int)) (hc:OkC P A R) (hx:∀ x∈l,On P x.1∧On A x.2) (hl:RdF encP 2 w.heap.size w v l) (hC:RdC w.heap.size w q [vp,va,o]) (hP:RdF encI 1 w.heap.size w vp P) (hA:RdF encI 1 w.heap.size w va A):Ret Tryz.prog 210 [v,.func (.func 137) #[] #[.pointer (some q)]].toArray w (.int .i64 (-1)):=by
 refine Ret.of mixed tyTab Tryz.func210 rfl rfl ?_
 replace hl:RdF encP 2 (fnCx mixed tyTab Tryz.f210.ntmps w).B (fnCx mixed tyTab Tryz.f210.ntmps w).w0 v l:=hl
 replace hP:RdF encI 1 (fnCx mixed tyTab Tryz.f210.ntmps w).B (fnCx mixed tyTab Tryz.f210.ntmps w).w0 vp P:=hP
 replace hA:RdF encI 1 (fnCx mixed tyTab Tryz.f210.ntmps w).B (fnCx mixed tyTab Tryz.f210.ntmps w).w0 va A:=hA
 replace hC:RdC (fnCx mixed tyTab Tryz.f210.ntmps w).B (fnCx mixed tyTab Tryz.f210.ntmps w).w0 q [vp,va,o]:=hC
 have hle:=hl.sl.le
 refine W.sreg (WO.p rfl rfl (WO.nil (W.seq (W.sreg (WO.p rfl rfl (WO.len rfl rfl hl.sl rfl (WO.p rfl rfl (WO.nil (W.block ?_)))))))))
 refine W.loop (fun (i:Nat)=>i≤l.length)
  (fun (i:Nat)=>[(8,.int .i64 (i:Int)),(7,.int .i64 (l.length:Int)),(0,v),(1,.func (.func 137) #[] #[.pointer (some q)])])
  (fun (i:Nat)=>[])
  (fun (i:Nat)=>l.length-i) 0
  (by omega) ⟨rfl,rfl,rfl,rfl,trivial⟩ (by repeat (first | exact Sub.nil | refine Sub.cons (by repeat first | exact .head | apply Pick.tail) ?_)) ?_
 rintro i hi0
 refine W.sreg (WO.p rfl rfl (WO.nil (W.seq ?_)))
 refine W.cond_bl rfl (fun c1=>?_) (fun c1=>?_)
 ·refine W.skip (W.seq (W.block (W.sreg (WO.p rfl rfl (WO.p rfl rfl (WO.nil (W.sreg (WO.p rfl rfl (WO.p rfl rfl (WO.p rfl rfl (WO.indexAddr rfl rfl rfl hl.sl (by omega) rfl (WO.loadA rfl rfl ((RdF.cells hl (i:=i) (by omega) (0,0):Cells _ _ (elt v i 2) [.int .i64 (l.getD i (0,0)).1,.int .i64 (l.getD i (0,0)).2])) rfl rfl (WO.callCR (r:=.bool false) (first:=[]) (captured:=[.pointer (some q)]) rfl rfl Tryz.call137 (fun L w hi'=>c_on1 w vp va o q P A R (l.getD i (0,0)) hc (hx _ (getD_mem (by omega) (0,0))) (hC.later hi') (hP.later hi') (hA.later hi')) rfl (WO.nil (W.cond_f rfl (W.skip (W.region ?_)))))))))))))))))
  refine WO.ar rfl rfl rfl (by unfold in64;omega) rfl (WO.p rfl rfl (WO.nil ?_))
  refine' ⟨i+1,?hp,?hmu,⟨rfl,rfl,rfl,rfl,trivial⟩,?hS⟩
  case hS=>repeat (first | exact Sub.nil | refine Sub.cons (by repeat first | exact .head | apply Pick.tail) ?_)
  case hp=>omega
  case hmu=>omega
 ·refine W.exit (blk_same (W.sreg (WO.p rfl rfl (WO.nil (W.ret ?_)))))
  exact fin.ret (Res.one rfl (RV.tmp rfl)) rfl
theorem c_ContP (w:World) (v vp va o:Value) (q:Addr) (P A:List Int) (R:Rws) (l:List (Int × Int)) (hc:OkC P A R) (hx:∀ x∈l,On P x.1∧On A x.2) (hl:RdF encP 2 w.heap.size w v l) (hC:RdC w.heap.size w q [vp,va,o]) (hP:RdF encI 1 w.heap.size w vp P) (hA:RdF encI 1 w.heap.size w va A):Ret Tryz.prog 136 [v,.func (.func 137) #[] #[.pointer (some q)]].toArray w (.bool false):=by
 refine Ret.of mixed tyTab Tryz.func136 rfl rfl ?_
 replace hl:RdF encP 2 (fnCx mixed tyTab Tryz.f136.ntmps w).B (fnCx mixed tyTab Tryz.f136.ntmps w).w0 v l:=hl
 replace hP:RdF encI 1 (fnCx mixed tyTab Tryz.f136.ntmps w).B (fnCx mixed tyTab Tryz.f136.ntmps w).w0 vp P:=hP
 replace hA:RdF encI 1 (fnCx mixed tyTab Tryz.f136.ntmps w).B (fnCx mixed tyTab Tryz.f136.ntmps w).w0 va A:=hA
 replace hC:RdC (fnCx mixed tyTab Tryz.f136.ntmps w).B (fnCx mixed tyTab Tryz.f136.ntmps w).w0 q [vp,va,o]:=hC
 refine W.sreg (WO.p rfl rfl (WO.nil (W.sreg (WO.p rfl rfl (WO.p rfl rfl (WO.callR rfl Tryz.call210 (fun L w hi=>c_IndexP w v vp va o q P A R l hc hx (hl.later hi) (hC.later hi) (hP.later hi) (hA.later hi)) rfl (WO.p rfl rfl (WO.p rfl rfl (WO.nil (W.ret ?_))))))))))
 exact fin.ret (Res.one rfl (RV.tmp rfl)) (congrArg Value.bool (bl_f.2 (by omega)))
theorem c_on (w:World) (v vp va o:Value) (P A:List Int) (R:Rws) (l:List (Int × Int)) (hc:OkC P A R) (ho:o.oneCell'=true) (hx:∀ x∈l,On P x.1∧On A x.2) (hl:RdF encP 2 w.heap.size w v l) (hP:RdF encI 1 w.heap.size w vp P) (hA:RdF encI 1 w.heap.size w va A):Ret Tryz.prog 71 [.agg #[vp,va,o],v].toArray w (.bool true):=by
 refine Ret.of mixed tyTab Tryz.func71 rfl rfl ?_
 replace hl:RdF encP 2 (fnCx mixed tyTab Tryz.f71.ntmps w).B (fnCx mixed tyTab Tryz.f71.ntmps w).w0 v l:=hl
 replace hP:RdF encI 1 (fnCx mixed tyTab Tryz.f71.ntmps w).B (fnCx mixed tyTab Tryz.f71.ntmps w).w0 vp P:=hP
 replace hA:RdF encI 1 (fnCx mixed tyTab Tryz.f71.ntmps w).B (fnCx mixed tyTab Tryz.f71.ntmps w).w0 va A:=hA
 have hop:=hP.sl.oc
 have hoa:=hA.sl.oc
 refine W.sreg (WO.boxA rfl rfl (fun b1 hb1=>(WO.p rfl rfl (WO.nil (W.sreg (WO.p rfl rfl (WO.p rfl rfl (WO.callR (r:=.bool false) rfl Tryz.call136 (fun L w hi=>c_ContP w v vp va o ⟨b1,0,none⟩ P A R l hc hx (hl.later hi) (RdC.own (by repeat exact .head) hi) (hP.later hi) (hA.later hi)) rfl (WO.p rfl rfl (WO.p rfl rfl (WO.nil (W.ret ?_))))))))))))
 exact fin.ret (Res.one rfl (RV.tmp rfl)) rfl
end Go.Proofs.YtfchgmiiicidcaaGreat.Ch
namespace Go.Proofs.YtfchgmiiicidcaaGreat.Ch
open Go Go.TH
attribute [local irreducible] W WO pt
set_option maxRecDepth 10000
set_option maxHeartbeats 1000000
structure OkTr (R:Rws) (T:List (List Int)):Prop where
 n:T.length=R.length
 m:∀ i,i<R.length→(T.getD i []).length=(R.getD i []).length
 v:∀ i,i<R.length→∀ k,k<(R.getD i []).length→((R.getD i []).getD k (0,0)).1≤(T.getD i []).getD k 0∧(T.getD i []).getD k 0≤((R.getD i []).getD k (0,0)).2
theorem oc3 {a b c:Value} (h1:a.oneCell'=true) (h2:b.oneCell'=true) (h3:c.oneCell'=true):([a,b,c].all fun x=>x.oneCell')=true:=by simp [h1,h2,h3]
theorem c_CheckTrue (w:World) (vp va o u:Value) (rv tv:List Value) (P A:List Int) (R:Rws) (T:List (List Int)) (hc:OkC P A R) (ht:OkTr R T) (hP:RdF encI 1 w.heap.size w vp P) (hA:RdF encI 1 w.heap.size w va A) (hR:RdR encP 2 w.heap.size w o rv R) (hT:RdR encI 1 w.heap.size w u tv T):Ret Tryz.prog 26 [.agg #[vp,va,o],u].toArray w (.int .i64 0):=by
 refine Ret.of mixed tyTab Tryz.func26 rfl rfl ?_
 replace hR:RdR encP 2 (fnCx mixed tyTab Tryz.f26.ntmps w).B (fnCx mixed tyTab Tryz.f26.ntmps w).w0 o rv R:=hR
 replace hT:RdR encI 1 (fnCx mixed tyTab Tryz.f26.ntmps w).B (fnCx mixed tyTab Tryz.f26.ntmps w).w0 u tv T:=hT
 replace hP:RdF encI 1 (fnCx mixed tyTab Tryz.f26.ntmps w).B (fnCx mixed tyTab Tryz.f26.ntmps w).w0 vp P:=hP
 replace hA:RdF encI 1 (fnCx mixed tyTab Tryz.f26.ntmps w).B (fnCx mixed tyTab Tryz.f26.ntmps w).w0 va A:=hA
 have hle:=hR.sl.le
 have hlt:=hT.sl.le
 have hn:=ht.n
 have hnp:=hc.np
 have hna:=hc.na
 have hnr:=hc.nr
 refine W.sreg (WO.boxA rfl rfl (fun b1 hb1=>(WO.p rfl rfl (WO.nil (W.seq (W.sreg (WO.loadA rfl rfl (Cells.own Pick.head) rfl rfl (WO.callR (r:=.int .i64 0) rfl Tryz.call70 (fun L w hi=>c_CheckChart w vp va o rv P A R hc (hP.later hi) (hA.later hi) (hR.later hi)) rfl (WO.p rfl rfl (WO.nil (W.sreg (WO.p rfl rfl (WO.p rfl rfl (WO.nil ?_))))))))))))))
 refine W.cond_bl rfl (fun c1=>?_) (fun c1=>?_)
 ·exfalso;omega
 ·refine W.skip (W.seq (W.sreg (WO.p rfl rfl (WO.len rfl rfl hT.sl rfl (WO.fieldL rfl rfl rfl (WO.load rfl rfl (Cell.own Pick.head rfl) rfl (WO.len rfl rfl hR.sl rfl (WO.p rfl rfl (WO.nil ?_)))))))))
  refine W.cond_bl rfl (fun c2=>?_) (fun c2=>?_)
  ·exfalso;omega
  ·refine W.skip (W.sreg (WO.p rfl rfl (WO.nil (W.seq (W.sreg (WO.p rfl rfl (WO.len rfl rfl hT.sl rfl (WO.p rfl rfl (WO.nil (W.block ?_))))))))))
   refine W.loop (fun (i:Nat)=>i≤T.length)
    (fun (i:Nat)=>[(25,.int .i64 (i:Int)),(24,.int .i64 (T.length:Int)),(23,u),(6,.int .i64 0),(2,.pointer (some ⟨b1,0,none⟩))])
    (fun (i:Nat)=>[pt b1 (.cells #[vp,va,o] 25 (0,0))])
    (fun (i:Nat)=>T.length-i) 0
    (by omega) ⟨rfl,rfl,rfl,rfl,rfl,trivial⟩ (by repeat (first | exact Sub.nil | refine Sub.cons (by repeat exact .head) ?_)) ?_
   rintro i hi0
   refine W.sreg (WO.p rfl rfl (WO.nil (W.seq ?_)))
   refine W.cond_bl rfl (fun c3=>?_) (fun c3=>?_)
   ·refine W.skip (W.seq (W.block (W.sreg (WO.p rfl rfl (WO.indexAddr rfl rfl rfl hT.sl (by omega) rfl ?_)))))
    refine' WO.load (v:=_) rfl rfl ?hc rfl ?_
    case hc=>((refine hT.cellV ?_;omega))
    refine WO.p rfl rfl (WO.p rfl rfl (WO.nil (W.seq ?_)))
    have hm:=ht.m i (by omega)
    have hrw:=hc.row (show i<R.length by omega)
    refine W.sreg (WO.p rfl rfl ?_)
    refine' WO.len (n:=_) rfl rfl ?hs rfl ?_
    case hs=>((refine (hT.row i ?_).sl;omega))
    refine WO.fieldL rfl rfl rfl (WO.load rfl rfl (Cell.own Pick.head rfl) rfl (WO.p rfl rfl (WO.indexAddr rfl rfl rfl hR.sl (by omega) rfl ?_)))
    refine' WO.load (v:=_) rfl rfl ?hc rfl ?_
    case hc=>((refine hR.cellV ?_;omega))
    refine' WO.len (n:=_) rfl rfl ?hs rfl ?_
    case hs=>((refine (hR.row i ?_).sl;omega))
    refine WO.p rfl rfl (WO.nil ?_)
    refine W.cond_bl rfl (fun c4=>?_) (fun c4=>?_)
    ·exfalso;omega
    ·refine W.skip (W.sreg (WO.p rfl rfl ?_))
     refine' WO.len (n:=_) rfl rfl ?hs rfl ?_
     case hs=>((refine (hT.row i ?_).sl;omega))
     refine WO.p rfl rfl (WO.nil (W.block ?_))
     refine W.loop (fun (k:Nat)=>k≤(T.getD i []).length)
      (fun (k:Nat)=>[(41,.int .i64 (k:Int)),(40,.int .i64 ((T.getD i []).length:Int)),(39,tv.getD i undef),(25,.int .i64 (i:Int)),(24,.int .i64 (T.length:Int)),(23,u),(7,.int .i64 (i:Int)),(6,.int .i64 0),(2,.pointer (some ⟨b1,0,none⟩))])
      (fun (k:Nat)=>[pt b1 (.cells #[vp,va,o] 25 (0,0))])
      (fun (k:Nat)=>(T.getD i []).length-k) 0
      (by omega) ⟨rfl,rfl,rfl,rfl,rfl,rfl,rfl,rfl,rfl,trivial⟩ (by repeat (first | exact Sub.nil | refine Sub.cons (by repeat exact .head) ?_)) ?_
     rintro k hk0
     refine W.sreg (WO.p rfl rfl (WO.nil (W.seq ?_)))
     refine W.cond_bl rfl (fun c5=>?_) (fun c5=>?_)
     ·refine W.skip (W.seq (W.block (W.sreg (WO.p rfl rfl ?_))))
      refine' WO.indexAddr (n:=_) (i:=_) rfl rfl rfl ?hs ?h1 rfl ?_
      case hs=>((refine (hT.row i ?_).sl;omega))
      case h1=>(omega)
      refine' WO.load (v:=_) rfl rfl ?hc rfl ?_
      case hc=>(first | (refine (hT.row i ?_).cell0 ?_ 0 ?_ <;> first | rfl | omega))
      refine WO.p rfl rfl (WO.p rfl rfl (WO.nil ?_))
      have hv:=ht.v i (by omega) k (by omega)
      refine W.sreg (WO.fieldL rfl rfl rfl (WO.load rfl rfl (Cell.own Pick.head rfl) rfl (WO.p rfl rfl (WO.indexAddr rfl rfl rfl hR.sl (by omega) rfl ?_))))
      refine' WO.load (v:=_) rfl rfl ?hc rfl ?_
      case hc=>((refine hR.cellV ?_;omega))
      refine WO.p rfl rfl ?_
      refine' WO.indexAddr (n:=_) (i:=_) rfl rfl rfl ?hs ?h1 rfl ?_
      case hs=>((refine (hR.row i ?_).sl;omega))
      case h1=>(omega)
      refine' WO.loadA (vs:=_) rfl rfl ?hc ?hl rfl ?_
      case hc=>((refine (hR.row i ?_).cells ?_ (0,0) <;> omega))
      case hl=>rfl
      refine WO.alloc rfl rfl rfl (fun b2 hb2=>(WO.storeA rfl rfl rfl rfl Pick.head rfl rfl (WO.nil (W.sreg (WO.p rfl rfl (WO.field0 rfl rfl rfl (WO.load rfl rfl (Cell.own Pick.head rfl) rfl (WO.p rfl rfl (WO.p rfl rfl ?_)))))))))
      refine WO.guard_bl rfl rfl (fun c6=>?_) (fun c6=>?_)
      ·exfalso;omega
      ·refine WO.pg rfl rfl rfl (WO.go' rfl (WO.fieldL rfl rfl rfl (WO.go' rfl (WO.load rfl rfl (Cell.own Pick.head rfl) rfl (WO.pg rfl rfl rfl (WO.p rfl rfl (WO.nil ?_)))))))
       refine W.cond_bl rfl (fun c7=>?_) (fun c7=>?_)
       ·exfalso;omega
       ·refine W.skip (W.region (WO.ar rfl rfl rfl (by unfold in64;omega) rfl (WO.p rfl rfl (WO.nil ?_))))
        refine' ⟨k+1,?hp,?hmu,⟨rfl,rfl,rfl,rfl,rfl,rfl,rfl,rfl,rfl,trivial⟩,?hS⟩
        case hS=>repeat (first | exact Sub.nil | refine Sub.cons (by repeat first | exact .head | apply Pick.tail) ?_)
        case hp=>omega
        case hmu=>omega
     ·refine W.exit (blk_same (W.region (WO.ar rfl rfl rfl (by unfold in64;omega) rfl (WO.p rfl rfl (WO.nil ?_)))))
      refine' ⟨i+1,?hp,?hmu,⟨rfl,rfl,rfl,rfl,rfl,trivial⟩,?hS⟩
      case hS=>repeat (first | exact Sub.nil | refine Sub.cons (by repeat exact .head) ?_)
      case hp=>omega
      case hmu=>omega
   ·refine W.exit (blk_same (W.sreg (WO.p rfl rfl (WO.p rfl rfl (WO.nil (W.ret ?_))))))
    exact fin.ret (Res.one rfl (RV.tmp rfl)) rfl
end Go.Proofs.YtfchgmiiicidcaaGreat.Ch
namespace Go.Proofs.YtfchgmiiicidcaaGreat.Ch
open Go Go.TH
attribute [local irreducible] W WO pt
set_option maxRecDepth 10000
set_option maxHeartbeats 1000000
def gcd2 (a b:Int):Int:=(Nat.gcd a.toNat b.toNat:Nat)
theorem gcd2_zero {a:Int} (h:0≤a):gcd2 a 0=a:=by simp [gcd2];omega
theorem gcd2_step {a b:Int} (ha:0≤a) (hb:0<b):gcd2 b (a.tmod b)=gcd2 a b:=by
 unfold gcd2
 obtain ⟨n,rfl⟩:=Int.eq_ofNat_of_zero_le ha
 obtain ⟨m,rfl⟩:=Int.eq_ofNat_of_zero_le (Int.le_of_lt hb)
 rw [Int.tmod_eq_emod_of_nonneg (by omega),← Int.natCast_emod]
 simp only [Int.toNat_natCast]
 rw [Nat.gcd_comm m (n%m),← Nat.gcd_rec,Nat.gcd_comm]
theorem tmod_lt {a b:Int} (ha:0≤a) (hb:0<b):0≤a.tmod b∧a.tmod b<b:=⟨Int.tmod_nonneg b ha,Int.tmod_lt_of_pos a hb⟩
theorem gcd2_pos {a b:Int} (ha:0≤a) (hb:0<b):0<gcd2 a b:=by
 unfold gcd2
 have:0<Nat.gcd a.toNat b.toNat:=Nat.gcd_pos_of_pos_right _ (by omega)
 omega
def ab (n:Int):Int:=max n (-n)
theorem ab_nn (n:Int):0≤ab n:=by unfold ab;omega
def red (n d:Int):Int × Int:=(n.tdiv (gcd2 (ab n) d),d.tdiv (gcd2 (ab n) d))
abbrev raV (r:Int × Int):Value:=.agg #[.int .i64 r.1,.int .i64 r.2]
theorem tdiv_bd {n g M:Int} (hg:0<g) (h : -M≤n∧n≤M) : -M≤n.tdiv g∧n.tdiv g≤M:=by
 have h1:(n.tdiv g).natAbs≤n.natAbs:=by rw [Int.natAbs_tdiv];exact Nat.div_le_self _ _
 omega
theorem c_fraction (w:World) (vp va o:Value) (n d:Int) (hn : -4000000000000000000≤n∧n≤4000000000000000000) (hd:0<d∧d≤4000000000000000000) (hop:vp.oneCell'=true) (hoa:va.oneCell'=true) (hoo:o.oneCell'=true):Ret Tryz.prog 101 [.agg #[vp,va,o],.int .i64 n,.int .i64 d].toArray w (raV (red n d)):=by
 refine Ret.of mixed tyTab Tryz.func101 rfl rfl ?_
 have hgp:=gcd2_pos (ab_nn n) hd.1
 have h1:=tdiv_bd hgp hn
 have h2:=tdiv_bd hgp (n:=d) (M:=4000000000000000000) (by omega)
 refine W.sreg (WO.boxA rfl rfl (fun b1 hb1=>(WO.alloc rfl rfl rfl (fun b2 hb2=>(WO.nil (W.sreg (WO.p rfl rfl (WO.p rfl rfl (WO.neg rfl (by unfold in64;omega) rfl (WO.max2 rfl rfl rfl (WO.p rfl rfl (WO.p rfl rfl (WO.p rfl rfl (WO.nil (W.seq (W.block ?_))))))))))))))))
 refine W.loop2 (fun (x:Int) (y:Int)=>0≤x∧0≤y∧gcd2 x y=gcd2 (ab n) d)
  (fun (x:Int) (y:Int)=>[(7,.int .i64 x),(8,.int .i64 y),(1,.int .i64 n),(2,.int .i64 d),(6,.pointer (some ⟨b2,0,none⟩))])
  (fun (x:Int) (y:Int)=>[pt b2 (.cells #[.int .i64 0,.int .i64 0] 38 (0,0))])
  (fun (x:Int) (y:Int)=>y.toNat) (ab n) d
  (by exact ⟨ab_nn n,by omega,rfl⟩) ⟨rfl,rfl,rfl,rfl,rfl,trivial⟩ (by repeat (first | exact Sub.nil | refine Sub.cons (by repeat exact .head) ?_)) ?_
 rintro x y ⟨hx,hy,hg⟩
 have hgx:y=0→0<x:=by intro e;subst e;rw [gcd2_zero hx] at hg;omega
 refine W.seq (W.sreg (WO.p rfl rfl (WO.p rfl rfl (WO.nil ?_))))
 refine W.cond_bl rfl (fun c1=>?_) (fun c1=>?_)
 ·refine W.skip (W.block ?_)
  refine W.drawD 5 [.r 0 [],.r 1 [],.r 2 [7],.r 3 [7],.r 4 [7]] [7] (A0:=[]) (Sub.refl _) (by kernel_rfl) ?_ ?_
  ·repeat constructor
  refine DT.r rfl rfl rfl (WO.p rfl rfl (WO.nil ⟨rfl,rfl⟩)) (DT.r rfl rfl rfl (WO.p rfl rfl (WO.nil ⟨rfl,rfl⟩)) (DT.r rfl rfl rfl (WO.p rfl rfl (WO.nil ⟨rfl,rfl⟩)) (DT.r rfl rfl rfl (WO.rem rfl rfl (by omega) rfl (WO.nil ⟨rfl,rfl⟩)) (DT.r rfl rfl rfl (WO.p rfl rfl (WO.nil ⟨rfl,rfl⟩)) (DT.nil [_] rfl (WO.p rfl rfl (WO.nil ?_)))))))
  refine' ⟨_,_,?hp,?hmu,⟨rfl,rfl,rfl,rfl,rfl,trivial⟩,?hS⟩
  case hS=>repeat (first | exact Sub.nil | refine Sub.cons (by repeat exact .head) ?_)
  case hp=>exact ⟨hy,(tmod_lt hx (by omega)).1,by rw [gcd2_step hx (by omega)];exact hg⟩
  case hmu=>have:=tmod_lt hx (show 0<y by omega);omega
 ·refine W.exit (blk_same (W.seq ?_))
  obtain rfl:y=0:=by omega
  rw [gcd2_zero hx] at hg
  subst hg
  refine W.drawD 6 [.r 0 [],.r 1 [],.r 2 [],.r 3 [],.r 4 [],.r 5 []] [] (A0:=[]) (Sub.refl _) (by kernel_rfl) ?_ ?_
  ·repeat constructor
  refine DT.r rfl rfl rfl (WO.p rfl rfl (WO.nil ⟨rfl,rfl⟩)) (DT.r rfl rfl rfl (WO.p rfl rfl (WO.nil ⟨rfl,rfl⟩)) (DT.r rfl rfl rfl (WO.quo rfl rfl (by omega) (by unfold in64;omega) rfl (WO.nil ⟨rfl,rfl⟩)) (DT.r rfl rfl rfl (WO.p rfl rfl (WO.nil ⟨rfl,rfl⟩)) (DT.r rfl rfl rfl (WO.p rfl rfl (WO.nil ⟨rfl,rfl⟩)) (DT.r rfl rfl rfl (WO.quo rfl rfl (by omega) (by unfold in64;omega) rfl (WO.nil ⟨rfl,rfl⟩)) (DT.nil [_] rfl (WO.build rfl rfl rfl rfl rfl (WO.storeA rfl rfl rfl rfl Pick.head rfl rfl (WO.nil (W.ret ?_))))))))))
  exact fin.ret (Res.one rfl (RV.cell rfl rfl rfl (Cells.own Pick.head))) rfl
end Go.Proofs.YtfchgmiiicidcaaGreat.Ch
namespace Go.Proofs.YtfchgmiiicidcaaGreat.Ch
open Go Go.TH
attribute [local irreducible] W WO pt
set_option maxRecDepth 10000
set_option maxHeartbeats 1000000
theorem fI_ge {l:List Int} {x:Int} (h:fI l x<l.length):x≤l.getD (fI l x) 0:=by
 have:=List.findIdx_getElem (p:=fun y=>decide (x≤y)) (xs:=l) (w:=h)
 rw [List.getD_eq_getElem?_getD,List.getElem?_eq_getElem h]
 exact of_decide_eq_true this
theorem fI_lt {l:List Int} {x:Int} {j:Nat} (h:j<fI l x):l.getD j 0<x:=by
 have hj:j<l.length:=Nat.lt_of_lt_of_le h (fI_le l x)
 have:=List.not_of_lt_findIdx (p:=fun y=>decide (x≤y)) (xs:=l) h
 rw [List.getD_eq_getElem?_getD,List.getElem?_eq_getElem hj]
 simpa using this
theorem on_bd {l:List Int} {x:Int} (hr:Ris l) (h2:2≤l.length) (h:On l x):nbI l x+1<l.length∧(0≤l.getD (nbI l x) 0∧l.getD (nbI l x) 0≤x)∧x≤l.getD (nbI l x+1) 0∧l.getD (nbI l x+1) 0≤2000∧l.getD (nbI l x) 0<l.getD (nbI l x+1) 0:=by
 have hn:nbI l x+1<l.length:=by have:=h.2;unfold nbI;omega
 have b0:=hr.2 _ (getD_mem (show nbI l x<l.length by omega) 0)
 have b1:=hr.2 _ (getD_mem hn 0)
 have hlt:=hr.1.lt (show nbI l x<nbI l x+1 by omega) hn
 have hge:=fI_ge h.2
 rcases Nat.eq_zero_or_pos (fI l x) with g | g
 ·have hz:nbI l x=0:=by unfold nbI;omega
  rw [hz] at hlt b0 b1 ⊢
  rw [g] at hge
  have:=h.1
  omega
 ·have h1:=fI_lt (l:=l) (x:=x) (show nbI l x<fI l x by unfold nbI;omega)
  rw [show nbI l x+1=fI l x by unfold nbI;omega] at hlt b1 ⊢
  have:=h.2
  omega
def plV (i k:Nat):Value:=.agg #[.int .i64 (i:Int),.int .i64 (k:Int)]
def cnV (i k:Nat) (x0 x1 y0 y1:Int):List (Value × Value):=[(plV i k,.int .i64 (x0*y0)),(plV i (k+1),.int .i64 (x0*y1)),(plV (i+1) k,.int .i64 (x1*y0)),(plV (i+1) (k+1),.int .i64 (x1*y1))]
theorem cnV_get {i k a b:Nat} {x0 x1 y0 y1:Int} (ha:a<2) (hb:b<2):(cnV i k x0 x1 y0 y1)[2*a+b]?=some (.agg #[.int .i64 ((i:Int)+(a:Int)),.int .i64 ((k:Int)+(b:Int))],.int .i64 ([x0,x1].getD a 0*[y0,y1].getD b 0)):=by
 rcases (show a=0∨a=1 by omega) with rfl | rfl <;> rcases (show b=0∨b=1 by omega) with rfl | rfl <;> rfl
theorem two_bd {x0 x1:Int} {a:Nat} (ha:a<2) (h0:0≤x0∧x0≤2000) (h1:0≤x1∧x1≤2000):0≤[x0,x1].getD a 0∧[x0,x1].getD a 0≤2000:=by
 rcases (show a=0∨a=1 by omega) with rfl | rfl
 ·exact h0
 ·exact h1
theorem mul_in {a b:Int} (ha:0≤a∧a≤2000) (hb:0≤b∧b≤2000):in64 (a*b):=by
 have h1:=Int.mul_nonneg ha.1 hb.1
 have h2:=Int.mul_le_mul ha.2 hb.2 hb.1 (by omega)
 unfold in64;omega
theorem cell2 {C:Cx Tryz.prog} {H:List HP} {b a o':Nat} {x0 x1:Int} {t:TypeId} {fr:Nat × Nat} (s:Sub H [pt b (.cells #[.int .i64 x0,.int .i64 x1] t fr)]) (ho:o'=a) (ha:a<2):Cell C H ⟨b,o',none⟩ (.int .i64 ([x0,x1].getD a 0)):=by
 subst ho
 cases s with
 | cons p _=>exact Cell.own p (by rcases (show o'=0∨o'=1 by omega) with rfl | rfl <;> rfl)
theorem c_corners1 (B:Nat) (wr:World) (i k:Nat) (x0 x1 y0 y1:Int) (hik:i≤100∧k≤100) (hx0:0≤x0∧x0≤2000) (hx1:0≤x1∧x1≤2000) (hy0:0≤y0∧y0≤2000) (hy1:0≤y1∧y1≤2000)
 (l:Nat) (Hc:Nat→List HP) (hy:∀ n x,(cnV i k x0 x1 y0 y1)[n]?=some x→YieldOK Tryz.prog B wr l #[x.1,x.2] (Hc n) (Hc (n+1))) (b1 b2 b3 b4:Nat) (w:World) (M':List Nat) (hB:B≤w.heap.size) (hk:∀ k,k<B→w.heap[k]?=wr.heap[k]?) (hM:∀ b∈M',B≤b)
 (hi:Inv w M' ([pt b4 (.cells #[.int .i64 y0,.int .i64 y1] 203 (0,0)),pt b3 (.cells #[.int .i64 x0,.int .i64 x1] 203 (0,0)),pt b2 (.cells #[.int .i64 (k:Int)] 3 (0,0)),pt b1 (.cells #[.int .i64 (i:Int)] 3 (0,0))]++Hc 0) w) :
 Ct Tryz.prog 189 ([.func (.yield l) #[] #[],.pointer (some ⟨b1,0,none⟩),.pointer (some ⟨b2,0,none⟩),.pointer (some ⟨b3,0,none⟩),.pointer (some ⟨b4,0,none⟩)]:List Value).toArray w fun _ w'=>Inv w M' ([pt b4 (.cells #[.int .i64 y0,.int .i64 y1] 203 (0,0)),pt b3 (.cells #[.int .i64 x0,.int .i64 x1] 203 (0,0)),pt b2 (.cells #[.int .i64 (k:Int)] 3 (0,0)),pt b1 (.cells #[.int .i64 (i:Int)] 3 (0,0))]++Hc (cnV i k x0 x1 y0 y1).length) w':=by
 refine Iter.of mixed tyTab hB hM Tryz.func189 rfl rfl hi (W.sreg (WO.p rfl rfl (WO.nil (W.block ?_))))
 refine W.loop (fun (a:Nat)=>a≤2)
  (fun (a:Nat)=>[(8,.int .i64 (a:Int)),(0,.func (.yield l) #[] #[]),(1,.pointer (some ⟨b1,0,none⟩)),(2,.pointer (some ⟨b2,0,none⟩)),(3,.pointer (some ⟨b3,0,none⟩)),(4,.pointer (some ⟨b4,0,none⟩))])
  (fun (a:Nat)=>[pt b1 (.cells #[.int .i64 (i:Int)] 3 (0,0)),pt b2 (.cells #[.int .i64 (k:Int)] 3 (0,0)),pt b3 (.cells #[.int .i64 x0,.int .i64 x1] 203 (0,0)),pt b4 (.cells #[.int .i64 y0,.int .i64 y1] 203 (0,0)),sat (Hc (2*a))])
  (fun (a:Nat)=>2-a) 0
  (by omega) ⟨rfl,rfl,rfl,rfl,rfl,rfl,trivial⟩ (by repeat (first | exact Sub.nil | refine Sub.cons (by repeat first | exact .head | apply Pick.tail) ?_)) ?_
 rintro a ha
 refine W.sreg (WO.p rfl rfl (WO.nil (W.seq ?_)))
 refine W.cond_bl rfl (fun c1=>?_) (fun c1=>?_)
 ·refine W.skip (W.seq (W.block (W.sreg (WO.p rfl rfl (WO.p rfl rfl (WO.nil (W.sreg (WO.p rfl rfl (WO.nil (W.block ?_))))))))))
  refine W.loop (fun (b:Nat)=>b≤2)
   (fun (b:Nat)=>[(11,.int .i64 (b:Int)),(8,.int .i64 (a:Int)),(6,.int .i64 (a:Int)),(0,.func (.yield l) #[] #[]),(1,.pointer (some ⟨b1,0,none⟩)),(2,.pointer (some ⟨b2,0,none⟩)),(3,.pointer (some ⟨b3,0,none⟩)),(4,.pointer (some ⟨b4,0,none⟩))])
   (fun (b:Nat)=>[pt b1 (.cells #[.int .i64 (i:Int)] 3 (0,0)),pt b2 (.cells #[.int .i64 (k:Int)] 3 (0,0)),pt b3 (.cells #[.int .i64 x0,.int .i64 x1] 203 (0,0)),pt b4 (.cells #[.int .i64 y0,.int .i64 y1] 203 (0,0)),sat (Hc (2*a+b))])
   (fun (b:Nat)=>2-b) 0
   (by omega) ⟨rfl,rfl,rfl,rfl,rfl,rfl,rfl,rfl,trivial⟩ (by repeat (first | exact Sub.nil | refine Sub.cons (by repeat exact .head) ?_)) ?_
  rintro b hb
  refine W.sreg (WO.p rfl rfl (WO.nil (W.seq ?_)))
  refine W.cond_bl rfl (fun c2=>?_) (fun c2=>?_)
  ·refine W.skip (W.seq (W.block (W.sreg (WO.p rfl rfl (WO.p rfl rfl (WO.nil (W.seq ?_)))))))
   refine W.drawD 15 [.r 0 [],.b 1 [],.r 2 [],.r 3 [],.b 4 [],.r 5 [],.r 6 [],.r 7 [],.r 8 [],.r 9 [],.b 10 [],.r 11 [],.r 12 [],.b 13 [],.r 14 []] [] (A0:=[_]) (H0:=[_,_,_,_]) (.cons (Pick.tail (Pick.tail (Pick.tail (Pick.tail .head)))) (.cons .head (.cons .head (.cons .head (.cons .head .nil))))) (by kernel_rfl) ?_ ?_
   ·repeat constructor
   refine DT.r rfl rfl rfl (WO.p rfl rfl (WO.nil ⟨rfl,rfl⟩)) (DT.b rfl rfl rfl (WO.load rfl rfl (Cell.own Pick.head rfl) rfl (WO.nil ⟨rfl,rfl⟩)) (DT.r rfl rfl rfl (WO.p rfl rfl (WO.nil ⟨rfl,rfl⟩)) (DT.r rfl rfl rfl (WO.ar rfl rfl rfl (by unfold in64;omega) rfl (WO.nil ⟨rfl,rfl⟩)) (DT.b rfl rfl rfl (WO.load rfl rfl (Cell.own (Pick.tail (Pick.head)) rfl) rfl (WO.nil ⟨rfl,rfl⟩)) (DT.r rfl rfl rfl (WO.p rfl rfl (WO.nil ⟨rfl,rfl⟩)) (DT.r rfl rfl rfl (WO.ar rfl rfl rfl (by unfold in64;omega) rfl (WO.nil ⟨rfl,rfl⟩)) (DT.r rfl rfl rfl (WO.build rfl rfl rfl rfl rfl (WO.nil ⟨rfl,rfl⟩)) (DT.r rfl rfl rfl (WO.p rfl rfl (WO.nil ⟨rfl,rfl⟩)) ?_))))))))
   refine DT.r rfl rfl rfl (WO.indexArrE (i:=a) (o':=a) rfl rfl rfl rfl (by omega) (by omega) rfl (WO.nil ⟨rfl,rfl⟩)) ?_
   refine' DT.b rfl rfl rfl ?hq ?_
   case hq =>
    refine' WO.load (v:=_) rfl rfl ?hc rfl ?_
    case hc=>(first | (refine cell2 (b:=b3) (a:=a) (x0:=x0) (x1:=x1) (t:=203) (fr:=(0,0)) ?_ rfl (by omega);exact (by repeat (first | exact Sub.nil | refine Sub.cons (by repeat first | exact .head | apply Pick.tail) ?_))))
    exact WO.nil ⟨rfl,rfl⟩
   refine DT.r rfl rfl rfl (WO.p rfl rfl (WO.nil ⟨rfl,rfl⟩)) (DT.r rfl rfl rfl (WO.indexArrE (i:=b) (o':=b) rfl rfl rfl rfl (by omega) (by omega) rfl (WO.nil ⟨rfl,rfl⟩)) ?_)
   refine' DT.b rfl rfl rfl ?hq ?_
   case hq =>
    refine' WO.load (v:=_) rfl rfl ?hc rfl ?_
    case hc=>(first | (refine cell2 (b:=b4) (a:=b) (x0:=y0) (x1:=y1) (t:=203) (fr:=(0,0)) ?_ rfl (by omega);exact (by repeat (first | exact Sub.nil | refine Sub.cons (by repeat first | exact .head | apply Pick.tail) ?_))))
    exact WO.nil ⟨rfl,rfl⟩
   refine DT.r rfl rfl rfl (WO.ar rfl rfl rfl (by (first | exact mul_in (two_bd (by omega) hx0 hx1) (two_bd (by omega) hy0 hy1))) rfl (WO.nil ⟨rfl,rfl⟩)) (DT.nil [_,_,_,_,_] rfl (WO.yield rfl rfl (by repeat exact .head) ((hy _ _ (cnV_get (a:=a) (b:=b) (by omega) (by omega))).one.agree hk) rfl (WO.p rfl rfl (WO.nil (W.cond_f rfl (W.skip (W.region (WO.ar rfl rfl rfl (by unfold in64;omega) rfl (WO.p rfl rfl (WO.nil ?_))))))))))
   refine' ⟨b+1,?hp,?hmu,⟨rfl,rfl,rfl,rfl,rfl,rfl,rfl,rfl,trivial⟩,?hS⟩
   case hS=>repeat (first | exact Sub.nil | refine Sub.cons (by repeat first | exact .head | apply Pick.tail) ?_)
   case hp=>omega
   case hmu=>omega
  ·refine W.exit (blk_same ?_)
   obtain rfl:b=2:=by omega
   rw [show 2*a+2=2*(a+1) by omega]
   refine W.region (WO.ar rfl rfl rfl (by unfold in64;omega) rfl (WO.p rfl rfl (WO.nil ?_)))
   refine' ⟨a+1,?hp,?hmu,⟨rfl,rfl,rfl,rfl,rfl,rfl,trivial⟩,?hS⟩
   case hS=>repeat (first | exact Sub.nil | refine Sub.cons (by repeat exact .head) ?_)
   case hp=>omega
   case hmu=>omega
 ·refine W.exit (blk_same ?_)
  obtain rfl:a=2:=by omega
  refine fin.normal (Res.none rfl) ?_
  exact .cons (.tail (.tail (.tail .head))) (.cons (.tail (.tail .head)) (.cons (.tail .head) (.cons .head (.cons .head .nil))))
end Go.Proofs.YtfchgmiiicidcaaGreat.Ch
namespace Go.Proofs.YtfchgmiiicidcaaGreat.Ch
open Go Go.TH
attribute [local irreducible] W WO pt
set_option maxRecDepth 10000
set_option maxHeartbeats 1000000
def fr1 (l:List Int) (x:Int):Int:=l.getD (nbI l x+1) 0-x
def fr0 (l:List Int) (x:Int):Int:=x-l.getD (nbI l x) 0
theorem fr_bd {l:List Int} {x:Int} (hr:Ris l) (h2:2≤l.length) (h:On l x):(0≤fr1 l x∧fr1 l x≤2000)∧(0≤fr0 l x∧fr0 l x≤2000)∧0<fr1 l x+fr0 l x:=by
 have:=on_bd hr h2 h
 unfold fr1 fr0
 omega
theorem c_corners (w:World) (vp va o:Value) (P A:List Int) (R:Rws) (x y:Int) (hc:OkC P A R) (hx:On P x∧On A y) (ho:o.oneCell'=true) (hP:RdF encI 1 w.heap.size w vp P) (hA:RdF encI 1 w.heap.size w va A):Ct Tryz.prog 100 [.agg #[vp,va,o],.agg #[.int .i64 x,.int .i64 y]].toArray w fun v w'=>∃ Hq,(∃ b1 b2 b3 b4,v=.func (.func 189) #[] #[.pointer (some ⟨b1,0,none⟩),.pointer (some ⟨b2,0,none⟩),.pointer (some ⟨b3,0,none⟩),.pointer (some ⟨b4,0,none⟩)] ∧
 Hq=[pt b4 (.cells #[.int .i64 (fr1 A y),.int .i64 (fr0 A y)] 203 (0,0)),pt b3 (.cells #[.int .i64 (fr1 P x),.int .i64 (fr0 P x)] 203 (0,0)),pt b2 (.cells #[.int .i64 (nbI A y:Int)] 3 (0,0)),pt b1 (.cells #[.int .i64 (nbI P x:Int)] 3 (0,0))])∧Inv w [] Hq w':=by
 refine Ct.of mixed tyTab Tryz.func100 rfl rfl ?_
 replace hP:RdF encI 1 (fnCx mixed tyTab Tryz.f100.ntmps w).B (fnCx mixed tyTab Tryz.f100.ntmps w).w0 vp P:=hP
 replace hA:RdF encI 1 (fnCx mixed tyTab Tryz.f100.ntmps w).B (fnCx mixed tyTab Tryz.f100.ntmps w).w0 va A:=hA
 have hop:=hP.sl.oc
 have hoa:=hA.sl.oc
 have hnp:=hc.np
 have hna:=hc.na
 have hbp:=on_bd hc.up hnp.1 hx.1
 have hba:=on_bd hc.ua hna.1 hx.2
 refine W.sreg (WO.boxA rfl rfl (fun b1 hb1=>(WO.boxA rfl rfl (fun b2 hb2=>(WO.p rfl rfl (WO.nil (W.sreg (WO.field0 rfl rfl rfl (WO.field0 rfl rfl rfl (WO.load rfl rfl (Cell.own (Pick.tail (Pick.head)) rfl) rfl (WO.field0 rfl rfl rfl (WO.load rfl rfl (Cell.own Pick.head rfl) rfl (WO.callR rfl Tryz.call121 (fun L w hi=>c_neighbour w vp P x hc.up.1 (by omega) (by omega) (hP.later hi)) rfl (WO.p rfl rfl (WO.p rfl rfl (WO.p rfl rfl (WO.alloc rfl rfl rfl (fun b3 hb3=>(WO.store1 rfl rfl rfl (by rfl) Pick.head rfl (WO.p rfl rfl (WO.nil (W.sreg ?_))))))))))))))))))))))
 refine WO.field0 rfl rfl rfl (WO.fieldL rfl rfl rfl (WO.load rfl rfl (Cell.own (Pick.tail (Pick.tail (Pick.head))) rfl) rfl (WO.fieldL rfl rfl rfl (WO.load rfl rfl (Cell.own (Pick.tail (Pick.head)) rfl) rfl (WO.callR rfl Tryz.call121 (fun L w hi=>c_neighbour w va A y hc.ua.1 (by omega) (by omega) (hA.later hi)) rfl (WO.p rfl rfl (WO.p rfl rfl (WO.p rfl rfl (WO.alloc rfl rfl rfl (fun b4 hb4=>(WO.store1 rfl rfl rfl (by rfl) Pick.head rfl (WO.p rfl rfl (WO.nil (W.seq ?_))))))))))))))
 refine W.drawD 21 [.r 0 [],.r 1 [],.b 2 [],.b 3 [],.r 4 [],.r 5 [],.b 6 [],.r 7 [],.b 8 [],.r 9 [],.r 10 [],.b 11 [],.r 12 [],.r 13 [],.b 14 [],.b 15 [],.r 16 [],.b 17 [],.r 18 [],.r 19 [],.a 20 9 (.cells #[.int .i64 0,.int .i64 0] 203 (0,0))] [] (A0:=[]) (Sub.refl _) (by kernel_rfl) ?_ ?_
 ·exact (ALok.r (ALok.r (ALok.b (ALok.b (ALok.r (ALok.r (ALok.b (ALok.r (ALok.b (ALok.r (ALok.r (ALok.b (ALok.r (ALok.r (ALok.b (ALok.b (ALok.r (ALok.b (ALok.r (ALok.r (ALok.cons rfl rfl rfl rfl rfl ALok.nil)))))))))))))))))))))
 refine DT.r rfl rfl rfl (WO.field0 rfl rfl rfl (WO.nil ⟨rfl,rfl⟩)) (DT.r rfl rfl rfl (WO.field0 rfl rfl rfl (WO.nil ⟨rfl,rfl⟩)) (DT.b rfl rfl rfl (WO.load rfl rfl (Cell.own (Pick.tail (Pick.tail (Pick.tail (Pick.head)))) rfl) rfl (WO.nil ⟨rfl,rfl⟩)) (DT.b rfl rfl rfl (WO.load rfl rfl (Cell.own (Pick.tail (Pick.head)) rfl) rfl (WO.nil ⟨rfl,rfl⟩)) (DT.r rfl rfl rfl (WO.ar rfl rfl rfl (by unfold in64;omega) rfl (WO.nil ⟨rfl,rfl⟩)) ?_))))
 refine' DT.r rfl rfl rfl ?hq ?_
 case hq =>
  refine' WO.indexAddrZ (n:=_) rfl rfl rfl ?hs ?h00 ?h1 rfl ?_
  case hs=>exact hP.sl
  case h00=>omega
  case h1=>(omega)
  exact WO.nil ⟨rfl,rfl⟩
 refine' DT.b rfl rfl rfl ?hq ?_
 case hq =>
  refine' WO.load (v:=_) rfl rfl ?hc rfl ?_
  case hc=>(first | (refine hP.cell0 (i:=nbI P x+1) ?_ 0 ?_ <;> first | rfl | omega))
  exact WO.nil ⟨rfl,rfl⟩
 refine DT.r rfl rfl rfl (WO.field0 rfl rfl rfl (WO.nil ⟨rfl,rfl⟩)) (DT.b rfl rfl rfl (WO.load rfl rfl (Cell.own (Pick.tail (Pick.tail (Pick.head))) rfl) rfl (WO.nil ⟨rfl,rfl⟩)) (DT.r rfl rfl rfl (WO.ar rfl rfl rfl (by unfold in64;omega) rfl (WO.nil ⟨rfl,rfl⟩)) (DT.r rfl rfl rfl (WO.field0 rfl rfl rfl (WO.nil ⟨rfl,rfl⟩)) (DT.b rfl rfl rfl (WO.load rfl rfl (Cell.own (Pick.tail (Pick.tail (Pick.head))) rfl) rfl (WO.nil ⟨rfl,rfl⟩)) (DT.r rfl rfl rfl (WO.field0 rfl rfl rfl (WO.nil ⟨rfl,rfl⟩)) (DT.r rfl rfl rfl (WO.field0 rfl rfl rfl (WO.nil ⟨rfl,rfl⟩)) ?_))))))
 refine DT.b rfl rfl rfl (WO.load rfl rfl (Cell.own (Pick.tail (Pick.tail (Pick.tail (Pick.head)))) rfl) rfl (WO.nil ⟨rfl,rfl⟩)) (DT.b rfl rfl rfl (WO.load rfl rfl (Cell.own (Pick.tail (Pick.head)) rfl) rfl (WO.nil ⟨rfl,rfl⟩)) (DT.r rfl rfl rfl (WO.indexAddr rfl rfl rfl hP.sl (by omega) rfl (WO.nil ⟨rfl,rfl⟩)) ?_))
 refine' DT.b rfl rfl rfl ?hq ?_
 case hq =>
  refine' WO.load (v:=_) rfl rfl ?hc rfl ?_
  case hc=>(first | (refine hP.cell0 (i:=nbI P x) ?_ 0 ?_ <;> first | rfl | omega))
  exact WO.nil ⟨rfl,rfl⟩
 refine DT.r rfl rfl rfl (WO.ar rfl rfl rfl (by unfold in64;omega) rfl (WO.nil ⟨rfl,rfl⟩)) (DT.r rfl rfl rfl (WO.build rfl rfl rfl rfl rfl (WO.nil ⟨rfl,rfl⟩)) (DT.a (fun b5=>(DT.nil [_,_,_,_,_] rfl (WO.storeA rfl rfl rfl rfl Pick.head rfl rfl (WO.nil (W.seq ?_)))))))
 refine W.drawD 21 [.r 0 [],.r 1 [],.b 2 [],.b 3 [],.r 4 [],.r 5 [],.b 6 [],.r 7 [],.b 8 [],.r 9 [],.r 10 [],.b 11 [],.r 12 [],.r 13 [],.b 14 [],.b 15 [],.r 16 [],.b 17 [],.r 18 [],.r 19 [],.a 20 10 (.cells #[.int .i64 0,.int .i64 0] 203 (0,0))] [] (A0:=[]) (Sub.refl _) (by kernel_rfl) ?_ ?_
 ·exact (ALok.r (ALok.r (ALok.b (ALok.b (ALok.r (ALok.r (ALok.b (ALok.r (ALok.b (ALok.r (ALok.r (ALok.b (ALok.r (ALok.r (ALok.b (ALok.b (ALok.r (ALok.b (ALok.r (ALok.r (ALok.cons rfl rfl rfl rfl rfl ALok.nil)))))))))))))))))))))
 refine DT.r rfl rfl rfl (WO.field0 rfl rfl rfl (WO.nil ⟨rfl,rfl⟩)) (DT.r rfl rfl rfl (WO.fieldL rfl rfl rfl (WO.nil ⟨rfl,rfl⟩)) (DT.b rfl rfl rfl (WO.load rfl rfl (Cell.own (Pick.tail (Pick.tail (Pick.tail (Pick.tail (Pick.head))))) rfl) rfl (WO.nil ⟨rfl,rfl⟩)) (DT.b rfl rfl rfl (WO.load rfl rfl (Cell.own (Pick.tail (Pick.head)) rfl) rfl (WO.nil ⟨rfl,rfl⟩)) (DT.r rfl rfl rfl (WO.ar rfl rfl rfl (by unfold in64;omega) rfl (WO.nil ⟨rfl,rfl⟩)) ?_))))
 refine' DT.r rfl rfl rfl ?hq ?_
 case hq =>
  refine' WO.indexAddrZ (n:=_) rfl rfl rfl ?hs ?h00 ?h1 rfl ?_
  case hs=>exact hA.sl
  case h00=>omega
  case h1=>(omega)
  exact WO.nil ⟨rfl,rfl⟩
 refine' DT.b rfl rfl rfl ?hq ?_
 case hq =>
  refine' WO.load (v:=_) rfl rfl ?hc rfl ?_
  case hc=>(first | (refine hA.cell0 (i:=nbI A y+1) ?_ 0 ?_ <;> first | rfl | omega))
  exact WO.nil ⟨rfl,rfl⟩
 refine DT.r rfl rfl rfl (WO.fieldL rfl rfl rfl (WO.nil ⟨rfl,rfl⟩)) (DT.b rfl rfl rfl (WO.load rfl rfl (Cell.own (Pick.tail (Pick.tail (Pick.tail (Pick.head)))) rfl) rfl (WO.nil ⟨rfl,rfl⟩)) (DT.r rfl rfl rfl (WO.ar rfl rfl rfl (by unfold in64;omega) rfl (WO.nil ⟨rfl,rfl⟩)) (DT.r rfl rfl rfl (WO.fieldL rfl rfl rfl (WO.nil ⟨rfl,rfl⟩)) (DT.b rfl rfl rfl (WO.load rfl rfl (Cell.own (Pick.tail (Pick.tail (Pick.tail (Pick.head)))) rfl) rfl (WO.nil ⟨rfl,rfl⟩)) (DT.r rfl rfl rfl (WO.field0 rfl rfl rfl (WO.nil ⟨rfl,rfl⟩)) (DT.r rfl rfl rfl (WO.fieldL rfl rfl rfl (WO.nil ⟨rfl,rfl⟩)) ?_))))))
 refine DT.b rfl rfl rfl (WO.load rfl rfl (Cell.own (Pick.tail (Pick.tail (Pick.tail (Pick.tail (Pick.head))))) rfl) rfl (WO.nil ⟨rfl,rfl⟩)) (DT.b rfl rfl rfl (WO.load rfl rfl (Cell.own (Pick.tail (Pick.head)) rfl) rfl (WO.nil ⟨rfl,rfl⟩)) (DT.r rfl rfl rfl (WO.indexAddr rfl rfl rfl hA.sl (by omega) rfl (WO.nil ⟨rfl,rfl⟩)) ?_))
 refine' DT.b rfl rfl rfl ?hq ?_
 case hq =>
  refine' WO.load (v:=_) rfl rfl ?hc rfl ?_
  case hc=>(first | (refine hA.cell0 (i:=nbI A y) ?_ 0 ?_ <;> first | rfl | omega))
  exact WO.nil ⟨rfl,rfl⟩
 refine DT.r rfl rfl rfl (WO.ar rfl rfl rfl (by unfold in64;omega) rfl (WO.nil ⟨rfl,rfl⟩)) (DT.r rfl rfl rfl (WO.build rfl rfl rfl rfl rfl (WO.nil ⟨rfl,rfl⟩)) (DT.a (fun b6=>(DT.nil [_,_,_,_,_,_] rfl (WO.storeA rfl rfl rfl rfl Pick.head rfl rfl (WO.nil ?_))))))
 refine W.keep (H':=[pt b6 (.cells #[.int .i64 (fr1 A y),.int .i64 (fr0 A y)] 203 (0,0)),pt b5 (.cells #[.int .i64 (fr1 P x),.int .i64 (fr0 P x)] 203 (0,0)),pt b4 (.cells #[.int .i64 (nbI A y:Int)] 3 (0,0)),pt b3 (.cells #[.int .i64 (nbI P x:Int)] 3 (0,0))]) (by repeat (first | exact Sub.nil | refine Sub.cons (by repeat exact .head) ?_)) ?_
 refine W.sreg (WO.p rfl rfl (WO.p rfl rfl (WO.nil (W.ret ?_))))
 exact fin.ret (Res.one rfl (RV.tmp rfl)) ⟨b3,b4,b5,b6,rfl,rfl⟩
end Go.Proofs.YtfchgmiiicidcaaGreat.Ch
namespace Go.Proofs.YtfchgmiiicidcaaGreat.Ch
open Go Go.TH
attribute [local irreducible] W WO pt
set_option maxRecDepth 10000
set_option maxHeartbeats 1000000
abbrev Cn:=Nat × Nat × Int
def cnL (i k:Nat) (x0 x1 y0 y1:Int):List Cn:=[(i,k,x0*y0),(i,k+1,x0*y1),(i+1,k,x1*y0),(i+1,k+1,x1*y1)]
def aS (g:Cn→Int) (L:List Cn):Nat→Int
 | 0=>0
 | q+1=>aS g L q+g (L.getD q (0,0,0))
theorem aS_bd {g:Cn→Int} {L:List Cn} {M:Int} (h:∀ q,q<L.length → -M≤g (L.getD q (0,0,0))∧g (L.getD q (0,0,0))≤M):∀ q,q≤L.length → -(q*M)≤aS g L q∧aS g L q≤q*M
 | 0,_=>by simp [aS]
 | q+1,hq=>by
  have h1:=aS_bd h q (by omega)
  have h2:=h q (by omega)
  have e:((q+1:Nat):Int)*M=q*M+M:=by rw [Int.natCast_add,Int.add_mul];simp
  rw [e]
  simp only [aS]
  omega
theorem cnV_some {i k q:Nat} {x0 x1 y0 y1:Int} {x:Value × Value} (h:(cnV i k x0 x1 y0 y1)[q]?=some x):q<4∧x=(plV ((cnL i k x0 x1 y0 y1).getD q (0,0,0)).1 ((cnL i k x0 x1 y0 y1).getD q (0,0,0)).2.1,.int .i64 ((cnL i k x0 x1 y0 y1).getD q (0,0,0)).2.2):=by
 match q,h with
 | 0,h=>exact ⟨by omega,(Option.some.inj h).symm⟩
 | 1,h=>exact ⟨by omega,(Option.some.inj h).symm⟩
 | 2,h=>exact ⟨by omega,(Option.some.inj h).symm⟩
 | 3,h=>exact ⟨by omega,(Option.some.inj h).symm⟩
theorem mul_r {a b:Int} (ha:0≤a∧a≤2000) (hb:0≤b∧b≤2000):0≤a*b∧a*b≤4000000:=by
 have h1:=Int.mul_nonneg ha.1 hb.1
 have h2:=Int.mul_le_mul ha.2 hb.2 hb.1 (by omega)
 omega
theorem cnL_bd {i k q:Nat} {x0 x1 y0 y1:Int} (hx0:0≤x0∧x0≤2000) (hx1:0≤x1∧x1≤2000) (hy0:0≤y0∧y0≤2000) (hy1:0≤y1∧y1≤2000) (hq:q<4):0≤((cnL i k x0 x1 y0 y1).getD q (0,0,0)).2.2∧((cnL i k x0 x1 y0 y1).getD q (0,0,0)).2.2≤4000000:=by
 match q,hq with
 | 0,_=>exact mul_r hx0 hy0
 | 1,_=>exact mul_r hx0 hy1
 | 2,_=>exact mul_r hx1 hy0
 | 3,_=>exact mul_r hx1 hy1
def whS (P A:List Int) (x y:Int):Int:=(fr1 P x+fr0 P x)*(fr1 A y+fr0 A y)
abbrev cnP (P A:List Int) (x y:Int):List Cn:=cnL (nbI P x) (nbI A y) (fr1 P x) (fr0 P x) (fr1 A y) (fr0 A y)
theorem whS_eq (P A:List Int) (x y:Int):aS (·.2.2) (cnP P A x y) 4=whS P A x y:=by
 unfold whS cnP cnL
 simp only [aS,List.getD_cons_zero,List.getD_cons_succ]
 grind
theorem c_whole (w:World) (vp va o:Value) (P A:List Int) (R:Rws) (x y:Int) (hc:OkC P A R) (hx:On P x∧On A y) (ho:o.oneCell'=true) (hP:RdF encI 1 w.heap.size w vp P) (hA:RdF encI 1 w.heap.size w va A):Ret Tryz.prog 102 [.agg #[vp,va,o],.agg #[.int .i64 x,.int .i64 y]].toArray w (.int .i64 (whS P A x y)):=by
 refine Ret.of mixed tyTab Tryz.func102 rfl rfl ?_
 replace hP:RdF encI 1 (fnCx mixed tyTab Tryz.f102.ntmps w).B (fnCx mixed tyTab Tryz.f102.ntmps w).w0 vp P:=hP
 replace hA:RdF encI 1 (fnCx mixed tyTab Tryz.f102.ntmps w).B (fnCx mixed tyTab Tryz.f102.ntmps w).w0 va A:=hA
 have hop:=hP.sl.oc
 have hoa:=hA.sl.oc
 have hnp:=hc.np
 have hna:=hc.na
 have hfx:=fr_bd hc.up hnp.1 hx.1
 have hfy:=fr_bd hc.ua hna.1 hx.2
 have hbp:=on_bd hc.up hnp.1 hx.1
 have hba:=on_bd hc.ua hna.1 hx.2
 have hS:=aS_bd (g:=(·.2.2)) (L:=cnP P A x y) (M:=4000000) fun q hq=>by
  have:=cnL_bd (i:=nbI P x) (k:=nbI A y) hfx.1 hfx.2.1 hfy.1 hfy.2.1 (q:=q) hq
  exact ⟨Int.le_trans (by omega:(-4000000:Int)≤0) this.1,this.2⟩
 refine W.sreg (WO.boxA rfl rfl (fun b1 hb1=>(WO.boxA rfl rfl (fun b2 hb2=>(WO.p rfl rfl (WO.nil (W.sreg (WO.alloc rfl rfl rfl (fun b3 hb3=>(WO.store1 rfl rfl rfl (by rfl) Pick.head rfl (WO.nil (W.seq (W.sreg (WO.loadA rfl rfl (Cells.own (Pick.tail (Pick.tail (Pick.head)))) rfl rfl (WO.loadA rfl rfl (Cells.own (Pick.tail (Pick.head))) rfl rfl ?_)))))))))))))))
 refine WO.call (Post:=fun v Hq=>∃ b1 b2 b3 b4,v=.func (.func 189) #[] #[.pointer (some ⟨b1,0,none⟩),.pointer (some ⟨b2,0,none⟩),.pointer (some ⟨b3,0,none⟩),.pointer (some ⟨b4,0,none⟩)]∧Hq=[pt b4 (.cells #[.int .i64 (fr1 A y),.int .i64 (fr0 A y)] 203 (0,0)),pt b3 (.cells #[.int .i64 (fr1 P x),.int .i64 (fr0 P x)] 203 (0,0)),pt b2 (.cells #[.int .i64 (nbI A y:Int)] 3 (0,0)),pt b1 (.cells #[.int .i64 (nbI P x:Int)] 3 (0,0))]) rfl Tryz.call100 (fun L w hi=>c_corners w vp va o P A R x y hc hx ho (hP.later hi) (hA.later hi)) rfl ?_
 rintro _ _ ⟨e1,e2,e3,e4,rfl,rfl⟩
 refine WO.nil (W.block ?_)
 refine W.rangeFunc2 [pt e4 (.cells #[.int .i64 (fr1 A y),.int .i64 (fr0 A y)] 203 (0,0)),pt e3 (.cells #[.int .i64 (fr1 P x),.int .i64 (fr0 P x)] 203 (0,0)),pt e2 (.cells #[.int .i64 (nbI A y:Int)] 3 (0,0)),pt e1 (.cells #[.int .i64 (nbI P x:Int)] 3 (0,0))] (fun q=>[pt b3 (.cells #[.int .i64 (aS (·.2.2) (cnP P A x y) q)] 2 (0,0))]) (cnV (nbI P x) (nbI A y) (fr1 P x) (fr0 P x) (fr1 A y) (fr0 A y)) rfl rfl rfl rfl Tryz.call189 (by repeat (first | exact Sub.nil | refine Sub.cons (by repeat exact .head) ?_)) ?_ ?_ ?_
 ·intro l Hc hy w1 M' hB hk hM hi
  exact c_corners1 _ _ (nbI P x) (nbI A y) _ _ _ _ (by omega) hfx.1 hfx.2.1 hfy.1 hfy.2.1 l Hc hy e1 e2 e3 e4 w1 M' hB hk hM hi
 ·intro l w1 M hB hM hk q z hz
  obtain ⟨hq4,rfl⟩:=cnV_some hz
  refine W.region (WO.p rfl rfl (WO.nil (W.block (W.region (WO.load rfl rfl (Cell.own Pick.head rfl) rfl (WO.p rfl rfl (WO.ar rfl rfl rfl (by (first | have h9:=hS q (by show q≤4;omega);have h8:=cnL_bd (i:=nbI P x) (k:=nbI A y) hfx.1 hfx.2.1 hfy.1 hfy.2.1 (q:=q) hq4;unfold in64;omega)) rfl (WO.store1 rfl rfl rfl (by rfl) Pick.head rfl (WO.nil ?_)))))))))
  (repeat (first | exact Sub.nil | refine Sub.cons (by repeat exact .head) ?_))
 rw [show (cnV (nbI P x) (nbI A y) (fr1 P x) (fr0 P x) (fr1 A y) (fr0 A y)).length=4 from rfl,whS_eq]
 refine W.sreg (WO.load rfl rfl (Cell.own (Pick.tail (Pick.tail (Pick.tail (Pick.tail (Pick.head))))) rfl) rfl (WO.p rfl rfl (WO.nil (W.ret ?_))))
 exact fin.ret (Res.one rfl (RV.tmp rfl)) rfl
end Go.Proofs.YtfchgmiiicidcaaGreat.Ch
namespace Go.Proofs.YtfchgmiiicidcaaGreat.Ch
open Go Go.TH
attribute [local irreducible] W WO pt
set_option maxRecDepth 10000
set_option maxHeartbeats 1000000
def FnP (B:Nat) (wr:World) (f:Nat) (first cap:List Value) (S:Nat→Nat→Prop) (T:Nat→Nat→Int):Prop :=
 ∀ w:World,B≤w.heap.size→(∀ k,k<B→w.heap[k]?=wr.heap[k]?)→∀ i k,S i k→Ret Tryz.prog f (first++[plV i k]++cap).toArray w (.int .i64 (T i k))
theorem FnP.later {C:Cx Tryz.prog} {H:List HP} {L:List HP} {w:World} {f:Nat} {first cap:List Value} {S:Nat→Nat→Prop} {T:Nat→Nat→Int} {B:Nat} {wr:World} (h:FnP B wr f first cap S T) (hB:B≤C.B) (hw:∀ k,k<B→C.w0.heap[k]?=wr.heap[k]?) (hi:Inv C.w0 C.M (L++H) w) {i k:Nat} (hs:S i k):Ret Tryz.prog f (first++[plV i k]++cap).toArray w (.int .i64 (T i k)) :=
 h w (Nat.le_trans hB (Nat.le_trans C.hB hi.size)) (fun j hj=>(hi.keepB j (Nat.lt_of_lt_of_le hj hB)).trans (hw j hj)) i k hs
def plS (P A:List Int) (x y:Int) (T:Nat→Nat→Int):Nat→Int:=aS (fun t=>t.2.2*T t.1 t.2.1) (cnP P A x y)
theorem cnP_at {P A:List Int} {x y:Int} (hp:nbI P x+1<P.length) (ha:nbI A y+1<A.length) {q:Nat} (hq:q<4):((cnP P A x y).getD q (0,0,0)).1<P.length∧((cnP P A x y).getD q (0,0,0)).2.1<A.length:=by
 match q,hq with
 | 0,_=>exact ⟨Nat.lt_of_succ_lt hp,Nat.lt_of_succ_lt ha⟩
 | 1,_=>exact ⟨Nat.lt_of_succ_lt hp,ha⟩
 | 2,_=>exact ⟨hp,Nat.lt_of_succ_lt ha⟩
 | 3,_=>exact ⟨hp,ha⟩
theorem mul_p {a b:Int} (ha:0≤a∧a≤4000000) (hb:0≤b∧b≤100000):0≤a*b∧a*b≤400000000000:=by
 have h1:=Int.mul_nonneg ha.1 hb.1
 have h2:=Int.mul_le_mul ha.2 hb.2 hb.1 (by omega)
 omega
theorem c_value (w:World) (vp va o:Value) (P A:List Int) (R:Rws) (x y:Int) (f:Nat) (first cap:List Value) (T:Nat→Nat→Int) (hc:OkC P A R) (hx:On P x∧On A y) (ho:o.oneCell'=true) (hP:RdF encI 1 w.heap.size w vp P) (hA:RdF encI 1 w.heap.size w va A)
 (hF:FnP w.heap.size w f first cap (fun i k=>i<P.length∧k<A.length) T) (hT:∀ i k,i<P.length→k<A.length→0≤T i k∧T i k≤100000) (hcall:∀ (args:Array Value) (w:World),(callFunc f args).run Tryz.prog w=.ok (.enter f args) w) :
 Ret Tryz.prog 36 [.agg #[vp,va,o],.agg #[.int .i64 x,.int .i64 y],.func (.func f) first.toArray cap.toArray].toArray w (raV (red (plS P A x y T 4) (whS P A x y))):=by
 refine Ret.of mixed tyTab Tryz.func36 rfl rfl ?_
 replace hP:RdF encI 1 (fnCx mixed tyTab Tryz.f36.ntmps w).B (fnCx mixed tyTab Tryz.f36.ntmps w).w0 vp P:=hP
 replace hA:RdF encI 1 (fnCx mixed tyTab Tryz.f36.ntmps w).B (fnCx mixed tyTab Tryz.f36.ntmps w).w0 va A:=hA
 replace hF:FnP (fnCx mixed tyTab Tryz.f36.ntmps w).B (fnCx mixed tyTab Tryz.f36.ntmps w).w0 f first cap (fun i k=>i<P.length∧k<A.length) T:=hF
 have hop:=hP.sl.oc
 have hoa:=hA.sl.oc
 have hnp:=hc.np
 have hna:=hc.na
 have hfx:=fr_bd hc.up hnp.1 hx.1
 have hfy:=fr_bd hc.ua hna.1 hx.2
 have hbp:=on_bd hc.up hnp.1 hx.1
 have hba:=on_bd hc.ua hna.1 hx.2
 have hW:0<whS P A x y∧whS P A x y≤16000000:=by
  have h1:=Int.mul_pos hfx.2.2 hfy.2.2
  have h2:=Int.mul_le_mul (show fr1 P x+fr0 P x≤4000 by omega) (show fr1 A y+fr0 A y≤4000 by omega) (by omega) (by omega)
  exact ⟨h1,h2⟩
 have hM:∀ q,q<4→0≤((cnP P A x y).getD q (0,0,0)).2.2*T ((cnP P A x y).getD q (0,0,0)).1 ((cnP P A x y).getD q (0,0,0)).2.1∧((cnP P A x y).getD q (0,0,0)).2.2*T ((cnP P A x y).getD q (0,0,0)).1 ((cnP P A x y).getD q (0,0,0)).2.1≤400000000000:=fun q hq =>
  mul_p (cnL_bd hfx.1 hfx.2.1 hfy.1 hfy.2.1 hq) (hT _ _ (cnP_at hbp.1 hba.1 hq).1 (cnP_at hbp.1 hba.1 hq).2)
 have hS:∀ q,q≤4 → -(q*400000000000)≤plS P A x y T q∧plS P A x y T q≤q*400000000000:=aS_bd (L:=cnP P A x y) fun q hq=>⟨Int.le_trans (by omega:(-400000000000:Int)≤0) (hM q hq).1,(hM q hq).2⟩
 have hS4:=hS 4 (by omega)
 refine W.sreg (WO.boxA rfl rfl (fun b1 hb1=>(WO.boxA rfl rfl (fun b2 hb2=>(WO.box1 rfl (by rfl) rfl (fun b3 hb3=>(WO.alloc rfl rfl rfl (fun b4 hb4=>(WO.nil (W.sreg (WO.alloc rfl rfl rfl (fun b5 hb5=>(WO.store1 rfl rfl rfl (by rfl) Pick.head rfl (WO.nil (W.seq (W.sreg (WO.loadA rfl rfl (Cells.own (Pick.tail (Pick.tail (Pick.tail (Pick.tail (Pick.head)))))) rfl rfl (WO.loadA rfl rfl (Cells.own (Pick.tail (Pick.tail (Pick.tail (Pick.head))))) rfl rfl ?_))))))))))))))))))
 refine WO.call (Post:=fun v Hq=>∃ b1 b2 b3 b4,v=.func (.func 189) #[] #[.pointer (some ⟨b1,0,none⟩),.pointer (some ⟨b2,0,none⟩),.pointer (some ⟨b3,0,none⟩),.pointer (some ⟨b4,0,none⟩)]∧Hq=[pt b4 (.cells #[.int .i64 (fr1 A y),.int .i64 (fr0 A y)] 203 (0,0)),pt b3 (.cells #[.int .i64 (fr1 P x),.int .i64 (fr0 P x)] 203 (0,0)),pt b2 (.cells #[.int .i64 (nbI A y:Int)] 3 (0,0)),pt b1 (.cells #[.int .i64 (nbI P x:Int)] 3 (0,0))]) rfl Tryz.call100 (fun L w hi=>c_corners w vp va o P A R x y hc hx ho (hP.later hi) (hA.later hi)) rfl ?_
 rintro _ _ ⟨e1,e2,e3,e4,rfl,rfl⟩
 refine WO.nil (W.block ?_)
 refine W.rangeFunc2 [pt e4 (.cells #[.int .i64 (fr1 A y),.int .i64 (fr0 A y)] 203 (0,0)),pt e3 (.cells #[.int .i64 (fr1 P x),.int .i64 (fr0 P x)] 203 (0,0)),pt e2 (.cells #[.int .i64 (nbI A y:Int)] 3 (0,0)),pt e1 (.cells #[.int .i64 (nbI P x:Int)] 3 (0,0))] (fun q=>[pt b5 (.cells #[.int .i64 (plS P A x y T q)] 2 (0,0)),pt b1 (.cells #[vp,va,o] 94 (0,0)),pt b2 (.cells #[.int .i64 x,.int .i64 y] 36 (0,0)),pt b3 (.cells #[.func (.func f) first.toArray cap.toArray] 98 (0,0)),pt b4 (.cells #[.int .i64 0,.int .i64 0] 38 (0,0))]) (cnV (nbI P x) (nbI A y) (fr1 P x) (fr0 P x) (fr1 A y) (fr0 A y)) rfl rfl rfl rfl Tryz.call189 (by repeat (first | exact Sub.nil | refine Sub.cons (by repeat first | exact .head | apply Pick.tail) ?_)) ?_ ?_ ?_
 ·intro l Hc hy w1 M' hB hk hM hi
  exact c_corners1 _ _ (nbI P x) (nbI A y) _ _ _ _ (by omega) hfx.1 hfx.2.1 hfy.1 hfy.2.1 l Hc hy e1 e2 e3 e4 w1 M' hB hk hM hi
 ·intro l w1 M hB hM9 hk9 q z hz
  obtain ⟨hq4,rfl⟩:=cnV_some hz
  refine W.sreg (WO.alloc rfl rfl rfl (fun b6 hb6=>(WO.storeA rfl rfl rfl rfl Pick.head rfl rfl (WO.nil (W.region (WO.p rfl rfl (WO.nil (W.block ?_))))))))
  refine W.drawD 6 [.f 0 [],.r 1 [],.b 2 [],.b 3 [],.b 4 [],.r 5 []] [] (A0:=[_]) (H0:=[_,_,_,_,_]) (.cons (Pick.tail .head) (.cons .head (.cons .head (.cons .head (.cons .head (.cons .head .nil)))))) (by kernel_rfl) ?_ ?_
  ·repeat constructor
  refine DT.f [_,_,_,_,_,_] rfl rfl rfl rfl (WO.load rfl rfl (Cell.own Pick.head rfl) rfl (WO.nil ⟨rfl,rfl⟩)) (DT.r rfl rfl rfl (WO.p rfl rfl (WO.nil ⟨rfl,rfl⟩)) (DT.b rfl rfl rfl (WO.load rfl rfl (Cell.own (Pick.tail (Pick.tail (Pick.tail (Pick.head)))) rfl) rfl (WO.nil ⟨rfl,rfl⟩)) (DT.b rfl rfl rfl (WO.loadA rfl rfl (Cells.own Pick.head) rfl rfl (WO.nil ⟨rfl,rfl⟩)) (DT.b rfl rfl rfl (WO.callCR (first:=first) (captured:=cap) rfl rfl hcall (fun L w' hi=>FnP.later (C:=rdCx (fnCx mixed tyTab Tryz.f36.ntmps w) l w1 M hB hM9) hF (Nat.le_refl _) hk9 hi (cnP_at hbp.1 hba.1 hq4)) rfl (WO.nil ⟨rfl,rfl⟩)) ?_))))
  refine DT.r rfl rfl rfl (WO.ar rfl rfl rfl (by (first | have h8:=hM q hq4;unfold cnP at h8;unfold in64;omega)) rfl (WO.nil ⟨rfl,rfl⟩)) (DT.nil [_,_,_,_,_,_] rfl (WO.ar rfl rfl rfl (by (first | have h8:=hM q hq4;have h9:=hS q (by omega);unfold cnP at h8;unfold in64;omega)) rfl (WO.store1 rfl rfl rfl (by rfl) Pick.head rfl (WO.nil ?_))))
  (repeat (first | exact Sub.nil | refine Sub.cons (by repeat first | exact .head | apply Pick.tail) ?_))
 refine W.seq ?_
 rw [show (cnV (nbI P x) (nbI A y) (fr1 P x) (fr0 P x) (fr1 A y) (fr0 A y)).length=4 from rfl]
 refine W.drawD 5 [.b 0 [],.b 1 [],.b 2 [],.b 3 [],.b 4 []] [] (A0:=[_]) (H0:=[_,_,_,_,_,_,_,_]) (.cons (Pick.tail (Pick.tail (Pick.tail (Pick.tail (Pick.tail (Pick.tail (Pick.tail (Pick.tail .head)))))))) (.cons .head (.cons .head (.cons .head (.cons .head (.cons .head (.cons .head (.cons .head (.cons .head .nil))))))))) (by kernel_rfl) ?_ ?_
 ·repeat constructor
 refine DT.b rfl rfl rfl (WO.loadA rfl rfl (Cells.own (Pick.tail (Pick.tail (Pick.tail (Pick.tail (Pick.tail (Pick.head))))))) rfl rfl (WO.nil ⟨rfl,rfl⟩)) (DT.b rfl rfl rfl (WO.load rfl rfl (Cell.own (Pick.tail (Pick.tail (Pick.tail (Pick.tail (Pick.head))))) rfl) rfl (WO.nil ⟨rfl,rfl⟩)) (DT.b rfl rfl rfl (WO.loadA rfl rfl (Cells.own (Pick.tail (Pick.tail (Pick.tail (Pick.tail (Pick.tail (Pick.head))))))) rfl rfl (WO.nil ⟨rfl,rfl⟩)) (DT.b rfl rfl rfl (WO.loadA rfl rfl (Cells.own (Pick.tail (Pick.tail (Pick.tail (Pick.tail (Pick.tail (Pick.tail (Pick.head)))))))) rfl rfl (WO.nil ⟨rfl,rfl⟩)) ?_)))
 refine DT.b rfl rfl rfl (WO.callR rfl Tryz.call102 (fun L w hi=>c_whole w vp va o P A R x y hc hx ho (hP.later hi) (hA.later hi)) rfl (WO.nil ⟨rfl,rfl⟩)) (DT.nil [_,_,_,_,_,_,_,_,_] rfl (WO.callR rfl Tryz.call101 (fun L w hi=>c_fraction w vp va o _ _ (by omega) (by omega) hop hoa ho) rfl (WO.storeA rfl rfl rfl rfl Pick.head rfl rfl (WO.nil (W.ret ?_)))))
 exact fin.ret (Res.one rfl (RV.cell rfl rfl rfl (Cells.own (by repeat exact .head)))) rfl
end Go.Proofs.YtfchgmiiicidcaaGreat.Ch
namespace Go.Proofs.YtfchgmiiicidcaaGreat.Ch
open Go Go.TH
attribute [local irreducible] W WO pt
set_option maxRecDepth 10000
set_option maxHeartbeats 1000000
theorem capAgree {w w':World} {p:Addr} {v:Value} (h:Cap w p v) (hB:w.heap.size≤w'.heap.size) (hk:∀ k,k<w.heap.size→w'.heap[k]?=w.heap[k]?):Cap w' p v :=
 ⟨Nat.lt_of_lt_of_le h.lt hB,by rw [cell_agree hk h.lt];exact h.at_⟩
theorem c_Value1 (w:World) (u:Value) (q:Addr) (tv:List Value) (T:List (List Int)) (i k:Nat) (hi:i<T.length) (hk:k<(T.getD i []).length) (hc:Cap w q u) (hT:RdR encI 1 w.heap.size w u tv T):Ret Tryz.prog 72 [plV i k,.pointer (some q)].toArray w (.int .i64 ((T.getD i []).getD k 0)):=by
 refine Ret.of mixed tyTab Tryz.func72 rfl rfl ?_
 replace hT:RdR encI 1 (fnCx mixed tyTab Tryz.f72.ntmps w).B (fnCx mixed tyTab Tryz.f72.ntmps w).w0 u tv T:=hT
 replace hc:Cap (fnCx mixed tyTab Tryz.f72.ntmps w).w0 q u:=hc
 unfold plV
 refine W.sreg (WO.boxA rfl rfl (fun b1 hb1=>(WO.p rfl rfl (WO.nil (W.seq ?_)))))
 refine W.drawD 7 [.b 0 [],.r 1 [],.b 2 [],.r 3 [],.b 4 [],.r 5 [],.b 6 []] [] (A0:=[]) (Sub.refl _) (by kernel_rfl) ?_ ?_
 ·repeat constructor
 refine' DT.b rfl rfl rfl ?hq ?_
 case hq =>
  refine' WO.load (v:=_) rfl rfl ?hc rfl ?_
  case hc=>(refine Cap.cell (v:=u) rfl hc)
  exact WO.nil ⟨rfl,rfl⟩
 refine DT.r rfl rfl rfl (WO.field0 rfl rfl rfl (WO.nil ⟨rfl,rfl⟩)) (DT.b rfl rfl rfl (WO.load rfl rfl (Cell.own Pick.head rfl) rfl (WO.nil ⟨rfl,rfl⟩)) (DT.r rfl rfl rfl (WO.indexAddr rfl rfl rfl hT.sl (by omega) rfl (WO.nil ⟨rfl,rfl⟩)) (DT.b rfl rfl rfl (WO.load (v:=_) rfl rfl (hT.cellV hi) rfl (WO.nil ⟨rfl,rfl⟩)) (DT.r rfl rfl rfl (WO.fieldL rfl rfl rfl (WO.nil ⟨rfl,rfl⟩)) (DT.b rfl rfl rfl (WO.load rfl rfl (Cell.own Pick.head rfl) rfl (WO.nil ⟨rfl,rfl⟩)) (DT.nil [_] rfl (WO.indexAddr rfl rfl rfl ((hT.row i hi).sl) (by omega) rfl ?_)))))))
 refine' WO.load (v:=_) rfl rfl ?hc rfl ?_
 case hc=>((refine (hT.row i hi).cell0 (i:=k) hk 0 ?_;rfl))
 refine WO.p rfl rfl (WO.nil (W.ret ?_))
 exact fin.ret (Res.one rfl (RV.tmp rfl)) rfl
def tAt (T:List (List Int)) (i k:Nat):Int:=(T.getD i []).getD k 0
def loAt (R:Rws) (i k:Nat):Int:=((R.getD i []).getD k (0,0)).1
def valQ (P A:List Int) (x y:Int) (T:Nat→Nat→Int):Int × Int:=red (plS P A x y T 4) (whS P A x y)
theorem OkTr.bd {P A:List Int} {R:Rws} {T:List (List Int)} (hc:OkC P A R) (ht:OkTr R T) {i k:Nat} (hi:i<P.length) (hk:k<A.length):0≤tAt T i k∧tAt T i k≤100000:=by
 have hnr:=hc.nr
 have hrw:=hc.row (show i<R.length by omega)
 have h1:=hc.at_ (show i<R.length by omega) (show k<(R.getD i []).length by omega)
 have h2:=ht.v i (by omega) k (by omega)
 unfold tAt;omega
theorem c_Value (w:World) (vp va o u:Value) (rv tv:List Value) (P A:List Int) (R:Rws) (T:List (List Int)) (x y:Int) (hc:OkC P A R) (ht:OkTr R T) (hx:On P x∧On A y) (hP:RdF encI 1 w.heap.size w vp P) (hA:RdF encI 1 w.heap.size w va A) (hR:RdR encP 2 w.heap.size w o rv R) (hT:RdR encI 1 w.heap.size w u tv T):Ret Tryz.prog 27 [.agg #[vp,va,o],u,.agg #[.int .i64 x,.int .i64 y]].toArray w (.tuple #[raV (valQ P A x y (tAt T)),.int .i64 0]):=by
 refine Ret.of mixed tyTab Tryz.func27 rfl rfl ?_
 replace hR:RdR encP 2 (fnCx mixed tyTab Tryz.f27.ntmps w).B (fnCx mixed tyTab Tryz.f27.ntmps w).w0 o rv R:=hR
 replace hT:RdR encI 1 (fnCx mixed tyTab Tryz.f27.ntmps w).B (fnCx mixed tyTab Tryz.f27.ntmps w).w0 u tv T:=hT
 replace hP:RdF encI 1 (fnCx mixed tyTab Tryz.f27.ntmps w).B (fnCx mixed tyTab Tryz.f27.ntmps w).w0 vp P:=hP
 replace hA:RdF encI 1 (fnCx mixed tyTab Tryz.f27.ntmps w).B (fnCx mixed tyTab Tryz.f27.ntmps w).w0 va A:=hA
 have hop:=hP.sl.oc
 have hoa:=hA.sl.oc
 have hoo:=hR.sl.oc
 have hou:=hT.sl.oc
 have hnr:=hc.nr
 have hn:=ht.n
 refine W.sreg (WO.boxA rfl rfl (fun b1 hb1=>(WO.box1 rfl (by assumption) rfl (fun b2 hb2=>(WO.boxA rfl rfl (fun b3 hb3=>(WO.alloc rfl rfl rfl (fun b4 hb4=>(WO.p rfl rfl (WO.nil (W.seq (W.sreg (WO.loadA rfl rfl (Cells.own (Pick.tail (Pick.tail (Pick.tail (Pick.head))))) rfl rfl (WO.load rfl rfl (Cell.own (Pick.tail (Pick.tail (Pick.head))) rfl) rfl (WO.callR rfl Tryz.call26 (fun L w hi=>c_CheckTrue w vp va o u rv tv P A R T hc ht (hP.later hi) (hA.later hi) (hR.later hi) (hT.later hi)) rfl (WO.p rfl rfl (WO.nil (W.sreg (WO.p rfl rfl (WO.p rfl rfl (WO.nil ?_)))))))))))))))))))))
 refine W.cond_bl rfl (fun c1=>?_) (fun c1=>?_)
 ·exfalso;omega
 ·refine W.skip (W.sreg (WO.loadA rfl rfl (Cells.own (Pick.tail (Pick.tail (Pick.tail (Pick.head))))) rfl rfl (WO.build rfl rfl rfl rfl rfl (WO.alloc rfl rfl rfl (fun b5 hb5=>(WO.storeA rfl rfl rfl rfl Pick.head rfl (oc3 hop hoa hoo) (WO.nil (W.seq (W.sreg (WO.loadA rfl rfl (Cells.own Pick.head) rfl rfl (WO.loadA rfl rfl (Cells.own (Pick.tail (Pick.tail (Pick.head)))) rfl rfl (WO.buildSl rfl rfl rfl rfl rfl rfl rfl rfl rfl (fun v6=>?_)))))))))))))
  refine WO.callR rfl Tryz.call71 (fun L w hi=>c_on w _ vp va o P A R [(x,y)] hc hoo (by intro z hz;obtain rfl:=List.mem_singleton.1 hz;exact hx) (RdF.of_ow (e:=36) encP_ok (by repeat exact .head) hi) (hP.later hi) (hA.later hi)) rfl (WO.p rfl rfl (WO.nil (W.cond_f rfl (W.skip (W.sreg (WO.loadA rfl rfl (Cells.own (Pick.tail (Pick.head))) rfl rfl (WO.loadA rfl rfl (Cells.own (Pick.tail (Pick.tail (Pick.tail (Pick.head))))) rfl rfl (WO.p rfl rfl ?_))))))))
  refine WO.callR rfl Tryz.call36 (fun L w hi=>c_value w vp va o P A R x y 72 [] [.pointer (some ⟨b2,0,none⟩)] (tAt T) hc hx hoo (hP.later hi) (hA.later hi) (fun w' hB hk i k hs=>c_Value1 w' u ⟨b2,0,none⟩ tv T i k (by omega) (by have:=ht.m i (by omega);have:=hc.row (show i<R.length by omega);omega) (capAgree (Cap.of (b:=b2) (off:=0) (v:=u) (by repeat first | exact .head | apply Pick.tail) rfl hi) hB hk) (((hT.later hi).agree hk).up hB)) (fun i k h1 h2=>OkTr.bd hc ht h1 h2) Tryz.call72) rfl (WO.storeA rfl rfl rfl rfl (Pick.tail (Pick.tail (Pick.head))) rfl rfl (WO.p rfl rfl (WO.nil (W.ret ?_))))
  exact fin.ret (Res.two rfl (RV.cell rfl rfl rfl (Cells.own (by repeat exact .head))) (RV.tmp rfl)) rfl
end Go.Proofs.YtfchgmiiicidcaaGreat.Ch
namespace Go.Proofs.YtfchgmiiicidcaaGreat.Ch
open Go Go.TH
attribute [local irreducible] W WO pt
set_option maxRecDepth 10000
set_option maxHeartbeats 1000000
end Go.Proofs.YtfchgmiiicidcaaGreat.Ch
namespace Go.Proofs.YtfchgmiiicidcaaGreat
open Go Go.TH
theorem aS_le {g g':Ch.Cn→Int} {L:List Ch.Cn} (h:∀ q,q<L.length→g (L.getD q (0,0,0))≤g' (L.getD q (0,0,0))):∀ q,q≤L.length→Ch.aS g L q≤Ch.aS g' L q
  | 0,_=>Int.le_refl _
  | q+1,hq=>by
    have h1:=aS_le h q (by omega)
    have h2:=h q (by omega)
    simp only [Ch.aS]
    omega
theorem plS_le {P A:List Int} {R:Ch.Rws} {x y:Int} {T T':Nat→Nat→Int} (hc:Ch.OkC P A R) (hx:Ch.On P x∧Ch.On A y) (h:∀ i k,i<P.length→k<A.length→T i k≤T' i k):Ch.plS P A x y T 4≤Ch.plS P A x y T' 4:=by
  have hnp:=hc.np
  have hna:=hc.na
  have hfx:=Ch.fr_bd hc.up hnp.1 hx.1
  have hfy:=Ch.fr_bd hc.ua hna.1 hx.2
  have hbp:=Ch.on_bd hc.up hnp.1 hx.1
  have hba:=Ch.on_bd hc.ua hna.1 hx.2
  refine aS_le (L:=Ch.cnP P A x y) (fun q hq=>?_) 4 (Nat.le_refl 4)
  have h1:=Ch.cnP_at (x:=x) (y:=y) hbp.1 hba.1 (q:=q) hq
  exact Int.mul_le_mul_of_nonneg_left (h _ _ h1.1 h1.2) (Ch.cnL_bd hfx.1 hfx.2.1 hfy.1 hfy.2.1 hq).1
theorem whS_pos {P A:List Int} {R:Ch.Rws} {x y:Int} (hc:Ch.OkC P A R) (hx:Ch.On P x∧Ch.On A y):0<Ch.whS P A x y :=
  Int.mul_pos (Ch.fr_bd hc.up hc.np.1 hx.1).2.2 (Ch.fr_bd hc.ua hc.na.1 hx.2).2.2
/-- both parts of a fraction, times their divisor -/
theorem red_pt (n:Int) {d:Int} (hd:0<d):∃ g,0<g∧(Ch.red n d).1*g=n∧(Ch.red n d).2*g=d:=by
  have hg:=Ch.gcd2_pos (Ch.ab_nn n) hd
  have e:Ch.gcd2 (Ch.ab n) d=(Int.gcd n d:Int):=by
    unfold Ch.gcd2 Int.gcd
    have h1:(Ch.ab n).toNat=n.natAbs:=by unfold Ch.ab;omega
    have h2:d.toNat=d.natAbs:=by omega
    rw [h1,h2]
  refine ⟨_,hg,?_,?_⟩
  · unfold Ch.red;rw [e];exact Int.tdiv_mul_cancel (Int.gcd_dvd_left ..)
  · unfold Ch.red;rw [e];exact Int.tdiv_mul_cancel (Int.gcd_dvd_right ..)
end Go.Proofs.YtfchgmiiicidcaaGreat
namespace Go.Proofs.YtfchgmiiicidcaaGreat
open Go Go.TH
theorem isSl_lit {a:Option Addr} {n c:Nat} (h:n≤9223372036854775807) (hb:0<n→∃ b o,a=some ⟨b,o,none⟩):IsSl (.slice a n c) n:=⟨h,a,c,rfl,hb⟩
theorem gcd2_mul {k a b:Int} (hk:0<k) (ha:0≤a) (hb:0≤b):Ch.gcd2 (k*a) (k*b)=k*Ch.gcd2 a b:=by
  unfold Ch.gcd2
  obtain ⟨n,rfl⟩:=Int.eq_ofNat_of_zero_le (Int.le_of_lt hk)
  obtain ⟨a,rfl⟩:=Int.eq_ofNat_of_zero_le ha
  obtain ⟨b,rfl⟩:=Int.eq_ofNat_of_zero_le hb
  rw [← Int.natCast_mul,← Int.natCast_mul]
  simp only [Int.toNat_natCast]
  rw [Nat.gcd_mul_left];simp
theorem ab_mul {k n:Int} (hk:0<k):Ch.ab (k*n)=k*Ch.ab n:=by
  unfold Ch.ab
  rcases Int.le_total 0 n with h | h
  · have:=Int.mul_nonneg (Int.le_of_lt hk) h
    rw [show max n (-n)=n by omega];omega
  · have:=Int.mul_nonneg (Int.le_of_lt hk) (show 0 ≤ -n by omega)
    rw [show max n (-n) = -n by omega]
    rw [Int.mul_neg] at this ⊢;omega
/-- a fraction stays if both parts are a number of times as great -/
theorem red_mul {k n d:Int} (hk:0<k) (hd:0<d):Ch.red (k*n) (k*d)=Ch.red n d:=by
  have hg:=Ch.gcd2_pos (Ch.ab_nn n) hd
  unfold Ch.red
  rw [ab_mul hk,gcd2_mul hk (Ch.ab_nn n) (Int.le_of_lt hd),Int.mul_tdiv_mul_of_pos _ _ hk,Int.mul_tdiv_mul_of_pos _ _ hk]
end Go.Proofs.YtfchgmiiicidcaaGreat
namespace Go.Proofs.YtfchgmiiicidcaaGreat
open Go Go.TH
attribute [local irreducible] W WO pt
set_option maxRecDepth 10000
set_option maxHeartbeats 4000000
theorem val_bd {P A:List Int} {R:Ch.Rws} {x y:Int} {T:Nat→Nat→Int} (hc:Ch.OkC P A R) (hx:Ch.On P x∧Ch.On A y) (hT:∀ i k,i<P.length→k<A.length→0≤T i k∧T i k≤100000):(0≤(Ch.valQ P A x y T).1∧(Ch.valQ P A x y T).1≤1000000000000000)∧(0<(Ch.valQ P A x y T).2∧(Ch.valQ P A x y T).2≤1000000000000000):=by
 have hnp:=hc.np
 have hna:=hc.na
 have hfx:=Ch.fr_bd hc.up hnp.1 hx.1
 have hfy:=Ch.fr_bd hc.ua hna.1 hx.2
 have hw:=whS_pos hc hx
 have hbp:=Ch.on_bd hc.up hnp.1 hx.1
 have hba:=Ch.on_bd hc.ua hna.1 hx.2
 have hw2:Ch.whS P A x y≤4000000:=by
  have q1:Ch.fr1 P x+Ch.fr0 P x≤2000:=by unfold Ch.fr1 Ch.fr0;omega
  have q2:Ch.fr1 A y+Ch.fr0 A y≤2000:=by unfold Ch.fr1 Ch.fr0;omega
  exact Int.mul_le_mul q1 q2 (by omega) (by omega)
 have h0:=plS_le (T:=fun _ _=>0) (T':=T) hc hx (fun i k h1 h2=>(hT i k h1 h2).1)
 have h1:=plS_le (T:=T) (T':=fun _ _=>100000) hc hx (fun i k h1 h2=>(hT i k h1 h2).2)
 have e0:Ch.plS P A x y (fun _ _=>0) 4=0:=by
  unfold Ch.plS;simp only [Ch.aS,Int.mul_zero,Int.add_zero]
 have e1:Ch.plS P A x y (fun _ _=>100000) 4=Ch.whS P A x y*100000:=by
  rw [← Ch.whS_eq];unfold Ch.plS;simp only [Ch.aS];omega
 obtain ⟨k,hk,k1,k2⟩:=red_pt (Ch.plS P A x y T 4) hw
 unfold Ch.valQ
 generalize (Ch.red (Ch.plS P A x y T 4) (Ch.whS P A x y)).1=u at *
 generalize (Ch.red (Ch.plS P A x y T 4) (Ch.whS P A x y)).2=v at *
 have hu:0≤u:=by
  rcases Int.lt_or_le u 0 with c | c
  ·have:=Int.mul_lt_mul_of_pos_right c hk;rw [Int.zero_mul] at this;omega
  ·exact c
 have hv:0<v:=by
  rcases Int.lt_or_le 0 v with c | c
  ·exact c
  ·have:=Int.mul_le_mul_of_nonneg_right c (Int.le_of_lt hk);rw [Int.zero_mul] at this;omega
 have hu2:=Int.mul_le_mul_of_nonneg_left (show 1≤k by omega) hu
 have hv2:=Int.mul_le_mul_of_nonneg_left (show 1≤k by omega) (Int.le_of_lt hv)
 omega
theorem Tcell {C:Cx Tryz.prog} {H:List HP} {rv:List Value} {xss:List (List Int)} {i k:Nat} (s:Sub H [RowsE encI 2 1 rv xss]) (hi:i<xss.length) (hk:k<(xss.getD i []).length):Cell C H (elt (rv.getD i undef) k 1) (.int .i64 ((xss.getD i []).getD k 0)):=by
 cases s with
 | cons p _=>exact RowsE.cell0 encI_ok p hi hk 0 rfl
theorem Cell.as {C:Cx Tryz.prog} {H:List HP} {a:Addr} {u v:Value} (e:u=v) (h:Cell C H a u):Cell C H a v:=e▸h
theorem eq38t (a b:Int):EqT Tryz.prog .eql 38 (.agg #[.int .i64 a,.int .i64 b]) (.agg #[.int .i64 a,.int .i64 b]) (.bool true):=by
 intro x y w
 simp [go_sem,Tryz.eqGuardType38,Tryz.underlying38]
theorem mul_bd {a b A B:Int} (ha:0≤a∧a≤A) (hb:0≤b∧b≤B):0≤a*b∧a*b≤A*B:=⟨Int.mul_nonneg ha.1 hb.1,Int.mul_le_mul ha.2 hb.2 hb.1 (by omega)⟩
end Go.Proofs.YtfchgmiiicidcaaGreat
namespace Go.Proofs.YtfchgmiiicidcaaGreat
open Go Go.TH
inductive MeR (A:List Int) (s:Nat→Int) (n:Nat):Bool→Int × Int→Prop
 | here (j:Nat):j<n→(∀ k,k<j→0<s k)→s j=0→MeR A s n true (A.getD j 0,1)
 | mid (j:Nat):j+1<n→(∀ k,k<j+1→0<s k)→s (j+1)<0→MeR A s n true (Ch.red (A.getD j 0 * -s (j+1)+A.getD (j+1) 0*s j) (s j + -s (j+1)))
 | high:(∀ k,k<n→0<s k)→MeR A s n false (0,0)
 | low:0<n→s 0<0→MeR A s n false (0,0)
def Dk (A:List Int) (s:Nat→Int) (k:Nat) (u v:Int):Int:=(A.getD (k+1) 0*v-u)*s k+(u-A.getD k 0*v)*s (k+1)
structure Mt (A:List Int) (s:Nat→Int) (n:Nat) (num den:Int):Prop where
 dp:0<den
 ins:∃ k,k+1<n∧A.getD k 0*den≤num∧num≤A.getD (k+1) 0*den
 pos:∀ k u v,k+1<n→0<v→A.getD k 0*v≤u→u≤A.getD (k+1) 0*v→(0<Dk A s k u v↔u*den<num*v)∧(Dk A s k u v<0↔num*v<u*den)
theorem seg_lo {p q sk sk1 x0 x1 d1 d2:Int} (hp:0≤p) (hq:0≤q) (hpq:0<p+q) (h1:p≤sk1) (h2:sk1<sk) (hx0:0≤x0) (hx1:0≤x1) (hx:0<x0+x1) (hd1:x1≤d1) (hd2:d1<d2) (hc:x1=0→p=0→(d1=0↔sk1=0)) :
 (0<x1*sk+x0*sk1↔0<q*d1+p*d2)∧0≤x1*sk+x0*sk1∧0≤q*d1+p*d2:=by
 have a1:=Int.mul_nonneg hx1 (show 0≤sk by omega)
 have a2:=Int.mul_nonneg hx0 (show 0≤sk1 by omega)
 have a3:=Int.mul_nonneg hq (show 0≤d1 by omega)
 have a4:=Int.mul_nonneg hp (show 0≤d2 by omega)
 refine ⟨?_,by omega,by omega⟩
 rcases Int.lt_or_le 0 p with c | c
 ·have b1:=Int.mul_pos c (show 0<d2 by omega)
  rcases Int.lt_or_le 0 x1 with e | e
  ·have:=Int.mul_pos e (show 0<sk by omega);omega
  ·have:=Int.mul_pos (show 0<x0 by omega) (show 0<sk1 by omega);omega
 ·obtain rfl:p=0:=by omega
  rcases Int.lt_or_le 0 x1 with e | e
  ·have b1:=Int.mul_pos e (show 0<sk by omega)
   have b2:=Int.mul_pos (show 0<q by omega) (show 0<d1 by omega)
   omega
  ·obtain rfl:x1=0:=by omega
   have hi:=hc rfl rfl
   rcases Int.lt_or_le 0 sk1 with f | f
   ·have b1:=Int.mul_pos (show 0<x0 by omega) f
    have b2:=Int.mul_pos (show 0<q by omega) (show 0<d1 by omega)
    omega
   ·have z1:sk1=0:=by omega
    have z2:=hi.2 z1
    rw [z1,z2];omega
section
variable {A:List Int} {s:Nat→Int} {n:Nat}
theorem dec_lt (hs:∀ k,k+1<n→s (k+1)<s k):∀ {i j:Nat},i<j→j<n→s j<s i
 | i,0,h,_=>by omega
 | i,j+1,h,hj=>by
  have h1:=hs j hj
  rcases Nat.lt_or_ge i j with g | g
  ·have:=dec_lt hs g (by omega);omega
  ·obtain rfl:i=j:=by omega
   exact h1
theorem inc_le (hA:∀ i j,i<j→j<n→A.getD i 0<A.getD j 0) {i j:Nat} (h:i≤j) (hj:j<n):A.getD i 0≤A.getD j 0:=by
 rcases Nat.lt_or_ge i j with g | g
 ·exact Int.le_of_lt (hA i j g hj)
 ·obtain rfl:i=j:=by omega
  exact Int.le_refl _
theorem dec_le (hs:∀ k,k+1<n→s (k+1)<s k) {i j:Nat} (h:i≤j) (hj:j<n):s j≤s i:=by
 rcases Nat.lt_or_ge i j with g | g
 ·exact Int.le_of_lt (dec_lt hs g hj)
 ·obtain rfl:i=j:=by omega
  exact Int.le_refl _
theorem mt_of (hA:∀ i j,i<j→j<n→A.getD i 0<A.getD j 0) (hs:∀ k,k+1<n→s (k+1)<s k) {a:Nat} (ha:a+1<n) (h0:0≤s a) (h1:s (a+1)≤0):Mt A s n (A.getD a 0 * -s (a+1)+A.getD (a+1) 0*s a) (s a + -s (a+1)):=by
 have hsa:=hs a ha
 have hAa:=hA a (a+1) (by omega) ha
 refine ⟨by omega,⟨a,ha,?_,?_⟩,fun k u v hk hv hu1 hu2=>?_⟩
 ·have:=Int.mul_le_mul_of_nonneg_right (Int.le_of_lt hAa) h0
  rw [Int.mul_add];omega
 ·have:=Int.mul_le_mul_of_nonneg_right (Int.le_of_lt hAa) (show 0 ≤ -s (a+1) by omega)
  rw [Int.mul_add];omega
 have hAk:=hA k (k+1) (by omega) hk
 have hsk:=hs k hk
 have hvk:=Int.mul_lt_mul_of_pos_right hAk hv
 have hva:=Int.mul_lt_mul_of_pos_right hAa hv
 have eE:(A.getD a 0 * -s (a+1)+A.getD (a+1) 0*s a)*v-u*(s a + -s (a+1)) = -s (a+1)*(A.getD a 0*v-u)+s a*(A.getD (a+1) 0*v-u):=by grind
 rcases Nat.lt_or_ge k a with g | g
 ·have m1:=Int.mul_le_mul_of_nonneg_right (inc_le hA (show k+1≤a by omega) (by omega)) (Int.le_of_lt hv)
  have hl:=seg_lo (p:=s a) (q := -s (a+1)) (sk:=s k) (sk1:=s (k+1)) (x0:=u-A.getD k 0*v) (x1:=A.getD (k+1) 0*v-u) (d1:=A.getD a 0*v-u) (d2:=A.getD (a+1) 0*v-u) h0 (by omega) (by omega) (dec_le hs (by omega) (by omega)) hsk (by omega) (by omega) (by omega) (by omega) (by omega) (fun c1 c2=>by
   rcases Nat.lt_or_ge (k+1) a with q | q
   ·have q1:=dec_lt hs q (by omega)
    have q2:=Int.mul_lt_mul_of_pos_right (hA _ _ q (by omega)) hv
    constructor
    ·intro;omega
    ·intro;omega
   ·obtain rfl:k+1=a:=by omega
    constructor
    ·intro;omega
    ·intro;omega)
  unfold Dk
  rw [← eE] at hl
  constructor
  ·constructor
   ·intro c;have:=hl.1.1 c;omega
   ·intro c;exact hl.1.2 (by omega)
  ·constructor
   ·intro c;omega
   ·intro c;omega
 ·rcases Nat.lt_or_ge a k with c | c
  ·have m1:=Int.mul_le_mul_of_nonneg_right (inc_le hA (show a+1≤k by omega) (by omega)) (Int.le_of_lt hv)
   have hl:=seg_lo (p := -s (a+1)) (q:=s a) (sk := -s (k+1)) (sk1 := -s k) (x0:=A.getD (k+1) 0*v-u) (x1:=u-A.getD k 0*v) (d1:=u-A.getD (a+1) 0*v) (d2:=u-A.getD a 0*v) (by omega) h0 (by omega) (by have:=dec_le hs (show a+1≤k by omega) (by omega);omega) (by omega) (by omega) (by omega) (by omega) (by omega) (by omega) (fun c1 c2=>by
    rcases Nat.lt_or_ge (a+1) k with q | q
    ·have q1:=dec_lt hs q (by omega)
     have q2:=Int.mul_lt_mul_of_pos_right (hA _ _ q (by omega)) hv
     constructor
     ·intro;omega
     ·intro;omega
    ·obtain rfl:a+1=k:=by omega
     constructor
     ·intro;omega
     ·intro;omega)
   have eD:(u-A.getD k 0*v) * -s (k+1)+(A.getD (k+1) 0*v-u) * -s k = -Dk A s k u v:=by unfold Dk;grind
   have e2:s a*(u-A.getD (a+1) 0*v) + -s (a+1)*(u-A.getD a 0*v) = -((A.getD a 0 * -s (a+1)+A.getD (a+1) 0*s a)*v-u*(s a + -s (a+1))):=by grind
   rw [eD,e2] at hl
   constructor
   ·constructor
    ·intro c;omega
    ·intro c;omega
   ·constructor
    ·intro c;have:=hl.1.1 (by omega);omega
    ·intro c;have:=hl.1.2 (by omega);omega
  ·obtain rfl:k=a:=by omega
   have eD:Dk A s k u v=(A.getD k 0 * -s (k+1)+A.getD (k+1) 0*s k)*v-u*(s k + -s (k+1)):=by unfold Dk;grind
   rw [eD]
   constructor
   ·constructor
    ·intro c;omega
    ·intro c;omega
   ·constructor
    ·intro c;omega
    ·intro c;omega
theorem red_one (x:Int):Ch.red x 1=(x,1):=by
 unfold Ch.red
 have:Ch.gcd2 (Ch.ab x) 1=1:=by unfold Ch.gcd2;simp
 rw [this];simp
theorem red_at {x d:Int} (hd:0<d):Ch.red (x*d) d=(x,1):=by
 rw [← red_one x,← red_mul (k:=d) hd (show (0:Int)<1 by omega),Int.mul_comm x d,Int.mul_one]
theorem MeR.mt (hn:2≤n) (hA:∀ i j,i<j→j<n→A.getD i 0<A.getD j 0) (hs:∀ k,k+1<n→s (k+1)<s k) {x:Int × Int} (h:MeR A s n true x):∃ num den,x=Ch.red num den∧Mt A s n num den:=by
 cases h with
 | here j hj hp h0 =>
  rcases Nat.eq_zero_or_pos j with g | g
  ·subst g
   have h1:=hs 0 (by omega)
   refine ⟨_,_,?_,mt_of hA hs (a:=0) (by omega) (by omega) (by omega)⟩
   rw [h0,Int.mul_zero,Int.add_zero,Int.zero_add,red_at (by omega)]
  ·obtain ⟨a,rfl⟩:∃ a,j=a+1:=⟨j-1,by omega⟩
   have h1:=hp a (by omega)
   refine ⟨_,_,?_,mt_of hA hs (a:=a) (by omega) (by omega) (by omega)⟩
   rw [h0,Int.neg_zero,Int.mul_zero,Int.add_zero,Int.zero_add,red_at (by omega)]
 | mid j hj hp h0=>exact ⟨_,_,rfl,mt_of hA hs (a:=j) hj (Int.le_of_lt (hp j (by omega))) (by omega)⟩
theorem MeR.ends (hs:∀ k,k+1<n→s (k+1)<s k) {x:Int × Int} (h:MeR A s n true x):0≤s 0∧s (n-1)≤0:=by
 cases h with
 | here j hj hp h0 =>
  refine ⟨?_,?_⟩
  ·rcases Nat.eq_zero_or_pos j with g | g
   ·subst g;omega
   ·exact Int.le_of_lt (hp 0 g)
  ·have:=dec_le hs (show j≤n-1 by omega) (by omega);omega
 | mid j hj hp h0 =>
  refine ⟨Int.le_of_lt (hp 0 (by omega)),?_⟩
  have:=dec_le hs (show j+1≤n-1 by omega) (by omega);omega
theorem MeR.yes {b:Bool} {x:Int × Int} (h:MeR A s n b x) (hn:0<n) (h0:0≤s 0) (h1:s (n-1)≤0):b=true:=by
 cases h with
 | here=>rfl
 | mid=>rfl
 | high hp=>have:=hp (n-1) (by omega);omega
 | low _ g=>omega
end
theorem red_lt {n d m e:Int} (hd:0<d) (he:0<e):(Ch.red n d).1*(Ch.red m e).2<(Ch.red m e).1*(Ch.red n d).2↔n*e<m*d:=by
 obtain ⟨g,hg,g1,g2⟩:=red_pt n hd
 obtain ⟨k,hk,k1,k2⟩:=red_pt m he
 generalize (Ch.red n d).1=a at *
 generalize (Ch.red n d).2=b at *
 generalize (Ch.red m e).1=u at *
 generalize (Ch.red m e).2=v at *
 have e1:n*e=a*v*(g*k):=by rw [← g1,← k2];grind
 have e2:m*d=u*b*(g*k):=by rw [← k1,← g2];grind
 rw [e1,e2]
 exact (Int.mul_lt_mul_right (Int.mul_pos hg hk)).symm
theorem red_pos2 (n:Int) {d:Int} (hd:0<d):0<(Ch.red n d).2:=by
 obtain ⟨g,hg,_,g2⟩:=red_pt n hd
 rcases Int.lt_or_le 0 (Ch.red n d).2 with c | c
 ·exact c
 ·have:=Int.mul_le_mul_of_nonneg_right c (Int.le_of_lt hg);rw [Int.zero_mul] at this;omega
def abv (P A:List Int) (T:Nat→Nat→Int) (x base slope:Int) (k:Nat):Int:=Ch.fr1 P x*T (Ch.nbI P x) k+Ch.fr0 P x*T (Ch.nbI P x+1) k-(Ch.fr1 P x+Ch.fr0 P x)*(base+slope*A.getD k 0)
theorem abv_at {P A:List Int} {R:Ch.Rws} {T:Nat→Nat→Int} {x y base slope:Int} (hc:Ch.OkC P A R) (hy:Ch.On A y):Ch.plS P A x y T 4-(base+slope*y)*Ch.whS P A x y=Dk A (abv P A T x base slope) (Ch.nbI A y) y 1:=by
 unfold Ch.plS Dk abv Ch.whS
 show Ch.aS _ (Ch.cnL _ _ _ _ _ _) 4-_=_
 unfold Ch.cnL
 simp only [Ch.aS,List.getD_cons_zero,List.getD_cons_succ]
 have g1:Ch.fr1 A y=A.getD (Ch.nbI A y+1) 0-y:=rfl
 have g0:Ch.fr0 A y=y-A.getD (Ch.nbI A y) 0:=rfl
 rw [g1,g0]
 grind
theorem abv_dec {P A:List Int} {R:Ch.Rws} {T:Nat→Nat→Int} {x base slope:Int} (hc:Ch.OkC P A R) (hx:Ch.On P x) (hs:1≤slope) (hT:∀ i,i<P.length→∀ k,k+1<A.length→T i (k+1)≤T i k):∀ k,k+1<A.length→abv P A T x base slope (k+1)<abv P A T x base slope k:=fun k hk=>by
 have hf:=Ch.fr_bd hc.up hc.np.1 hx
 have hb:=Ch.on_bd hc.up hc.np.1 hx
 have h1:=Int.mul_le_mul_of_nonneg_left (hT _ (show Ch.nbI P x<P.length by omega) k hk) hf.1.1
 have h2:=Int.mul_le_mul_of_nonneg_left (hT _ hb.1 k hk) hf.2.1.1
 have h3:=hc.ua.1.lt (show k<k+1 by omega) hk
 have h4:=Int.mul_lt_mul_of_pos_left h3 (show 0<slope by omega)
 have h5:=Int.mul_lt_mul_of_pos_left (show base+slope*A.getD k 0<base+slope*A.getD (k+1) 0 by omega) hf.2.2
 unfold abv
 omega
theorem pos_mul {a k:Int} (hk:0<k):0<a↔0<a*k:=⟨fun h=>Int.mul_pos h hk,fun h=>by
 rcases Int.lt_or_le 0 a with c | c
 ·exact c
 ·have:=Int.mul_le_mul_of_nonneg_right c (Int.le_of_lt hk)
  rw [Int.zero_mul] at this;omega⟩
theorem met_at {P A:List Int} {R:Ch.Rws} {T:Nat→Nat→Int} {x y base slope:Int} {z:Int × Int} (hc:Ch.OkC P A R) (hx:Ch.On P x∧Ch.On A y) (hs:1≤slope) (hT:∀ i,i<P.length→∀ k,k+1<A.length→T i (k+1)≤T i k) (hm:MeR A (abv P A T x base slope) A.length true z) :
 0<z.2∧(z.1<y*z.2↔(Ch.valQ P A x y T).1<(base+slope*y)*(Ch.valQ P A x y T).2)∧((base+slope*y)*(Ch.valQ P A x y T).2=(Ch.valQ P A x y T).1→z=(y,1)):=by
 obtain ⟨num,den,rfl,hM⟩:=hm.mt hc.na.1 (fun i j h1 h2=>hc.ua.1.lt h1 h2) (abv_dec hc hx.1 hs hT)
 have hb:=Ch.on_bd hc.ua hc.na.1 hx.2
 have hp:=hM.pos (Ch.nbI A y) y 1 hb.1 (by omega) (by omega) (by omega)
 rw [← abv_at (P:=P) hc hx.2,Int.mul_one] at hp
 have hw:=whS_pos hc hx
 obtain ⟨g,hg,g1,g2⟩:=red_pt num hM.dp
 obtain ⟨k,hk,k1,k2⟩:=red_pt (Ch.plS P A x y T 4) hw
 unfold Ch.valQ
 have hp2:=red_pos2 num hM.dp
 have hat:num=y*den→Ch.red num den=(y,1):=fun h=>by rw [h];exact red_at hM.dp
 generalize Ch.red num den=z at *
 generalize Ch.red (Ch.plS P A x y T 4) (Ch.whS P A x y)=v at *
 have e1:((base+slope*y)*v.2-v.1)*k=(base+slope*y)*Ch.whS P A x y-Ch.plS P A x y T 4:=by rw [← k1,← k2];grind
 have e2:(y*z.2-z.1)*g=y*den-num:=by rw [← g1,← g2];grind
 have s1:(0<(base+slope*y)*v.2-v.1↔0<(base+slope*y)*Ch.whS P A x y-Ch.plS P A x y T 4):=by rw [← e1];exact pos_mul hk
 have s2:(0<y*z.2-z.1↔0<y*den-num):=by rw [← e2];exact pos_mul hg
 refine ⟨hp2,?_,fun h=>?_⟩
 ·constructor
  ·intro c;have:=s2.1 (by omega);have:=hp.2.2 (by omega);have:=s1.2 (by omega);omega
  ·intro c;have:=s1.1 (by omega);have:=hp.2.1 (by omega);have:=s2.2 (by omega);omega
 ·have z0:(base+slope*y)*v.2-v.1=0:=by omega
  rw [z0,Int.zero_mul] at e1
  have h1:num=y*den:=by
   have c1:=hp.1
   have c2:=hp.2
   omega
  exact hat h1
end Go.Proofs.YtfchgmiiicidcaaGreat
namespace Go.Proofs.YtfchgmiiicidcaaGreat
open Go Go.TH
attribute [local irreducible] W WO pt
set_option maxRecDepth 10000
set_option maxHeartbeats 2000000
def OkN (base slope:Int):Prop:=(0≤base∧base≤100000)∧1≤slope∧slope≤1000
theorem one_in {x t:Int} (h:0≤x∧x≤t):∀ y∈[x],0≤y∧y≤t:=fun y hy=>by obtain rfl:=List.mem_singleton.1 hy;exact h
theorem c_checkNeed (w:World) (vp va o:Value) (P A:List Int) (R:Ch.Rws) (x base slope:Int) (hc:Ch.OkC P A R) (hx:Ch.On P x) (hn:OkN base slope) (ho:o.oneCell'=true) (hP:RdF encI 1 w.heap.size w vp P) (hA:RdF encI 1 w.heap.size w va A):Ret Tryz.prog 59 [.agg #[vp,va,o],.int .i64 x,.agg #[.int .i64 base,.int .i64 slope]].toArray w (.int .i64 0):=by
 refine Ret.of mixed tyTab Tryz.func59 rfl rfl ?_
 replace hP:RdF encI 1 (fnCx mixed tyTab Tryz.f59.ntmps w).B (fnCx mixed tyTab Tryz.f59.ntmps w).w0 vp P:=hP
 replace hA:RdF encI 1 (fnCx mixed tyTab Tryz.f59.ntmps w).B (fnCx mixed tyTab Tryz.f59.ntmps w).w0 va A:=hA
 have hop:=hP.sl.oc
 have hoa:=hA.sl.oc
 have hnp:=hc.np
 unfold OkN at hn
 refine W.sreg (WO.boxA rfl rfl (fun b1 hb1=>(WO.boxA rfl rfl (fun b2 hb2=>(WO.p rfl rfl (WO.nil (W.seq (W.sreg (WO.field0 rfl rfl rfl (WO.load rfl rfl (Cell.own Pick.head rfl) rfl (WO.buildSl rfl rfl rfl rfl rfl rfl rfl rfl rfl (fun v3=>(WO.callR (r:=.bool true) rfl Tryz.call120 (fun L w hi=>by have h:=Ch.c_within w _ [base] 100000 (RdF.of_ow (e:=2) encI_ok (by repeat exact .head) hi);rw [bl_t.2 (one_in (by omega))] at h;exact h) rfl ?_)))))))))))))
 refine WO.p rfl rfl (WO.p rfl rfl (WO.go' rfl (WO.fieldL rfl rfl rfl (WO.go' rfl (WO.load rfl rfl (Cell.own (Pick.tail (Pick.head)) rfl) rfl (WO.go' rfl (WO.ar rfl rfl rfl (by unfold in64;omega) rfl (WO.go' rfl (WO.buildSl rfl rfl rfl rfl rfl rfl rfl rfl rfl (fun v4=>(WO.go' rfl (WO.callR (r:=.bool true) rfl Tryz.call120 (fun L w hi=>by have h:=Ch.c_within w _ [slope-1] 999 (RdF.of_ow (e:=2) encI_ok (by repeat exact .head) hi);rw [bl_t.2 (one_in (by omega))] at h;exact h) rfl (WO.pg rfl rfl rfl (WO.p rfl rfl (WO.nil (W.cond_f rfl (W.skip (W.seq (W.sreg ?_)))))))))))))))))))
 refine WO.field0 rfl rfl rfl (WO.field0 rfl rfl rfl (WO.load rfl rfl (Cell.own (Pick.tail (Pick.tail (Pick.tail (Pick.head)))) rfl) rfl (WO.p rfl rfl (WO.callR (r:=.tuple #[.int .i64 (Ch.nbI P x:Int),.bool true]) rfl Tryz.call121 (fun L w hi=>by have h:=Ch.c_neighbour w vp P x hc.up.1 (by omega) (by omega) (hP.later hi);rw [bl_t.2 hx] at h;exact h) rfl (WO.p rfl rfl (WO.p rfl rfl (WO.p rfl rfl (WO.p rfl rfl (WO.p rfl rfl (WO.nil (W.sreg (WO.p rfl rfl (WO.p rfl rfl (WO.nil (W.cond_f rfl (W.skip (W.sreg (WO.p rfl rfl (WO.nil (W.ret ?_))))))))))))))))))))
 exact fin.ret (Res.one rfl (RV.tmp rfl)) rfl
def mkL (g:Nat→Int) (k n:Nat):List Int:=(List.range k).map g++List.replicate (n-k) 0
theorem mkL_0 (g:Nat→Int) (n:Nat):List.replicate n 0=mkL g 0 n:=by simp [mkL]
theorem mkL_len {g:Nat→Int} {k n:Nat} (h:k≤n):(mkL g k n).length=n:=by simp [mkL];omega
theorem mkL_n (g:Nat→Int) (n:Nat):mkL g n n=(List.range n).map g:=by simp [mkL]
theorem mkL_set {g:Nat→Int} {k n:Nat} (h:k<n):(mkL g k n).set k (g k)=mkL g (k+1) n:=by
 unfold mkL
 obtain ⟨m,hm⟩:∃ m,n-k=m+1:=⟨n-k-1,by omega⟩
 rw [List.set_append_right _ _ (by simp),hm,show n-(k+1)=m by omega,List.replicate_succ,List.range_succ,List.map_append]
 simp
theorem ran_get {g:Nat→Int} {k n:Nat} (h:k<n):((List.range n).map g).getD k 0=g k:=by
 rw [List.getD_eq_getElem?_getD,List.getElem?_map,List.getElem?_range h];rfl
theorem Lcell {C:Cx Tryz.prog} {H:List HP} {v:Value} {g:Nat→Int} {n k j:Nat} (s:Sub H [OwE encI 2 1 v ((List.range n).map g)]) (hk:k<n) (hj:j=k):Cell C H (elt v j 1) (.int .i64 (g k)):=by
 subst hj
 cases s with
 | cons p _=>rw [← ran_get (g:=g) hk];exact OwE.cell0 encI_ok p (by simp;exact hk) 0 rfl
theorem abv_bd {P A:List Int} {R:Ch.Rws} {T:Nat→Nat→Int} {x base slope:Int} {k:Nat} (hc:Ch.OkC P A R) (hx:Ch.On P x) (hn:OkN base slope) (hT:∀ i k,i<P.length→k<A.length→0≤T i k∧T i k≤100000) (hk:k<A.length) :
 (0≤Ch.fr1 P x*T (Ch.nbI P x) k∧Ch.fr1 P x*T (Ch.nbI P x) k≤200000000)∧(0≤Ch.fr0 P x*T (Ch.nbI P x+1) k∧Ch.fr0 P x*T (Ch.nbI P x+1) k≤200000000)∧(0≤slope*A.getD k 0∧slope*A.getD k 0≤2000000)∧(0≤(Ch.fr1 P x+Ch.fr0 P x)*(base+slope*A.getD k 0)∧(Ch.fr1 P x+Ch.fr0 P x)*(base+slope*A.getD k 0)≤4200000000):=by
 have hf:=Ch.fr_bd hc.up hc.np.1 hx
 have hb:=Ch.on_bd hc.up hc.np.1 hx
 have hA:=hc.ua.2 _ (getD_mem hk 0)
 have q1:Ch.fr1 P x+Ch.fr0 P x≤2000:=by unfold Ch.fr1 Ch.fr0;omega
 unfold OkN at hn
 have m0:=Int.mul_nonneg (show 0≤slope by omega) hA.1
 have m1:=Int.mul_le_mul hn.2.2 hA.2 hA.1 (by omega)
 have t1:=hT _ k (show Ch.nbI P x<P.length by omega) hk
 have t2:=hT _ k hb.1 hk
 have m2:=Int.mul_nonneg hf.1.1 t1.1
 have m3:=Int.mul_le_mul hf.1.2 t1.2 t1.1 (by omega)
 have m4:=Int.mul_nonneg hf.2.1.1 t2.1
 have m5:=Int.mul_le_mul hf.2.1.2 t2.2 t2.1 (by omega)
 have m6:=Int.mul_nonneg (Int.le_of_lt hf.2.2) (show 0≤base+slope*A.getD k 0 by omega)
 have m7:=Int.mul_le_mul q1 (show base+slope*A.getD k 0≤2100000 by omega) (by omega) (by omega)
 omega
theorem mid_bd {a b p q:Int} (ha:0≤a∧a≤2000) (hb:0≤b∧b≤2000) (hp:0<p∧p≤5000000000) (hq:0<q∧q≤5000000000):(0≤a*q∧a*q≤10000000000000)∧(0≤b*p∧b*p≤10000000000000):=by
 have m0:=Int.mul_nonneg ha.1 (show 0≤q by omega)
 have m1:=Int.mul_le_mul ha.2 hq.2 (by omega) (by omega)
 have m2:=Int.mul_nonneg hb.1 (show 0≤p by omega)
 have m3:=Int.mul_le_mul hb.2 hp.2 (by omega) (by omega)
 omega
theorem c_meet (w:World) (vp va o u:Value) (tv:List Value) (P A:List Int) (R:Ch.Rws) (T:List (List Int)) (x base slope:Int) (hc:Ch.OkC P A R) (hx:Ch.On P x) (hn:OkN base slope) (ho:o.oneCell'=true) (hl:T.length=P.length) (hr:∀ i,i<T.length→(T.getD i []).length=A.length) (hb:∀ i k,i<P.length→k<A.length→0≤Ch.tAt T i k∧Ch.tAt T i k≤100000) (hP:RdF encI 1 w.heap.size w vp P) (hA:RdF encI 1 w.heap.size w va A) (hT:RdR encI 1 w.heap.size w u tv T):RetE Tryz.prog 60 [.agg #[vp,va,o],u,.int .i64 x,.agg #[.int .i64 base,.int .i64 slope]].toArray w (fun r=>∃ (b:Bool) (z:Int × Int),r=.tuple #[Ch.raV z,.bool b]∧MeR A (abv P A (Ch.tAt T) x base slope) A.length b z):=by
 refine RetE.of mixed tyTab Tryz.func60 rfl rfl ?_
 replace hT:RdR encI 1 (fnCx mixed tyTab Tryz.f60.ntmps w).B (fnCx mixed tyTab Tryz.f60.ntmps w).w0 u tv T:=hT
 replace hP:RdF encI 1 (fnCx mixed tyTab Tryz.f60.ntmps w).B (fnCx mixed tyTab Tryz.f60.ntmps w).w0 vp P:=hP
 replace hA:RdF encI 1 (fnCx mixed tyTab Tryz.f60.ntmps w).B (fnCx mixed tyTab Tryz.f60.ntmps w).w0 va A:=hA
 have hop:=hP.sl.oc
 have hoa:=hA.sl.oc
 have hnp:=hc.np
 have hna:=hc.na
 have hfx:=Ch.fr_bd hc.up hnp.1 hx
 have hbp:=Ch.on_bd hc.up hnp.1 hx
 have hn2:=hn
 unfold OkN at hn2
 refine W.sreg (WO.boxA rfl rfl (fun b1 hb1=>(WO.boxA rfl rfl (fun b2 hb2=>(WO.alloc rfl rfl rfl (fun b3 hb3=>(WO.p rfl rfl (WO.nil (W.scope (W.sreg (WO.field0 rfl rfl rfl (WO.field0 rfl rfl rfl (WO.load rfl rfl (Cell.own (Pick.tail (Pick.tail (Pick.head))) rfl) rfl (WO.p rfl rfl (WO.callR (r:=.tuple #[.int .i64 (Ch.nbI P x:Int),.bool true]) rfl Tryz.call121 (fun L w hi=>by have h:=Ch.c_neighbour w vp P x hc.up.1 (by omega) (by omega) (hP.later hi);rw [bl_t.2 hx] at h;exact h) rfl (WO.p rfl rfl (WO.p rfl rfl (WO.p rfl rfl (WO.p rfl rfl (WO.p rfl rfl (WO.nil (W.seq ?_))))))))))))))))))))))
 refine W.drawD 18 [.r 0 [],.r 1 [],.b 2 [],.r 3 [],.r 4 [],.r 5 [],.b 6 [],.r 7 [],.r 8 [],.r 9 [],.r 10 [],.r 11 [],.b 12 [],.r 13 [],.r 14 [],.b 15 [],.r 16 [],.r 17 []] [] (A0:=[]) (Sub.refl _) (by kernel_rfl) ?_ ?_
 ·repeat constructor
 refine DT.r rfl rfl rfl (WO.field0 rfl rfl rfl (WO.nil ⟨rfl,rfl⟩)) (DT.r rfl rfl rfl (WO.field0 rfl rfl rfl (WO.nil ⟨rfl,rfl⟩)) (DT.b rfl rfl rfl (WO.load rfl rfl (Cell.own (Pick.tail (Pick.tail (Pick.head))) rfl) rfl (WO.nil ⟨rfl,rfl⟩)) (DT.r rfl rfl rfl (WO.p rfl rfl (WO.nil ⟨rfl,rfl⟩)) (DT.r rfl rfl rfl (WO.ar rfl rfl rfl (by unfold in64;omega) rfl (WO.nil ⟨rfl,rfl⟩)) ?_))))
 refine' DT.r rfl rfl rfl ?hq ?_
 case hq =>
  refine' WO.indexAddrZ (n:=_) rfl rfl rfl ?hs ?h00 ?h1 rfl ?_
  case hs=>exact hP.sl
  case h00=>omega
  case h1=>(omega)
  exact WO.nil ⟨rfl,rfl⟩
 refine' DT.b rfl rfl rfl ?hq ?_
 case hq =>
  refine' WO.load (v:=_) rfl rfl ?hc rfl ?_
  case hc=>(first | (refine hP.cell0 (i:=Ch.nbI P x+1) ?_ 0 ?_ <;> first | rfl | omega))
  exact WO.nil ⟨rfl,rfl⟩
 refine DT.r rfl rfl rfl (WO.p rfl rfl (WO.nil ⟨rfl,rfl⟩)) (DT.r rfl rfl rfl (WO.ar rfl rfl rfl (by unfold in64;omega) rfl (WO.nil ⟨rfl,rfl⟩)) (DT.r rfl rfl rfl (WO.p rfl rfl (WO.nil ⟨rfl,rfl⟩)) (DT.r rfl rfl rfl (WO.field0 rfl rfl rfl (WO.nil ⟨rfl,rfl⟩)) (DT.r rfl rfl rfl (WO.field0 rfl rfl rfl (WO.nil ⟨rfl,rfl⟩)) (DT.b rfl rfl rfl (WO.load rfl rfl (Cell.own (Pick.tail (Pick.tail (Pick.head))) rfl) rfl (WO.nil ⟨rfl,rfl⟩)) (DT.r rfl rfl rfl (WO.p rfl rfl (WO.nil ⟨rfl,rfl⟩)) (DT.r rfl rfl rfl (WO.indexAddr rfl rfl rfl hP.sl (by omega) rfl (WO.nil ⟨rfl,rfl⟩)) ?_)))))))
 refine' DT.b rfl rfl rfl ?hq ?_
 case hq =>
  refine' WO.load (v:=_) rfl rfl ?hc rfl ?_
  case hc=>(first | (refine hP.cell0 (i:=Ch.nbI P x) ?_ 0 ?_ <;> first | rfl | omega))
  exact WO.nil ⟨rfl,rfl⟩
 refine DT.r rfl rfl rfl (WO.ar rfl rfl rfl (by unfold in64;omega) rfl (WO.nil ⟨rfl,rfl⟩)) (DT.r rfl rfl rfl (WO.p rfl rfl (WO.nil ⟨rfl,rfl⟩)) (DT.nil [_,_,_] rfl (WO.p rfl rfl (WO.nil (W.sreg (WO.p rfl rfl (WO.p rfl rfl (WO.ar rfl rfl rfl (by unfold in64;omega) rfl (WO.p rfl rfl (WO.nil (W.sreg (WO.field0 rfl rfl rfl (WO.fieldL rfl rfl rfl (WO.load rfl rfl (Cell.own (Pick.tail (Pick.tail (Pick.head))) rfl) rfl (WO.len rfl rfl hA.sl rfl (WO.makeI rfl rfl rfl rfl (by omega) (by omega) rfl (fun lb=>?_)))))))))))))))))
 rw [mkL_0 (abv P A (Ch.tAt T) x base slope)]
 have hlb:IsSl (.slice (some ⟨lb,0,none⟩) A.length A.length) A.length:=isSl_lit (by omega) (fun _=>⟨_,_,rfl⟩)
 refine WO.p rfl rfl (WO.nil (W.seq (W.sreg (WO.field0 rfl rfl rfl (WO.fieldL rfl rfl rfl (WO.load rfl rfl (Cell.own (Pick.tail (Pick.tail (Pick.tail (Pick.head)))) rfl) rfl (WO.len rfl rfl hA.sl rfl (WO.p rfl rfl (WO.nil (W.block ?_))))))))))
 refine W.loop (fun (k:Nat)=>k≤A.length)
  (fun (k:Nat)=>[(60,.int .i64 (k:Int)),(59,.int .i64 (A.length:Int)),(58,va),(15,.slice (some ⟨lb,0,none⟩) A.length A.length),(14,.int .i64 (Ch.fr1 P x+Ch.fr0 P x)),(13,.int .i64 (Ch.fr0 P x)),(12,.int .i64 (Ch.fr1 P x)),(10,.int .i64 (Ch.nbI P x:Int)),(9,.bool false),(8,.pointer (some ⟨b3,0,none⟩)),(7,.pointer (some ⟨b2,0,none⟩)),(4,.pointer (some ⟨b1,0,none⟩)),(1,u)])
  (fun (k:Nat)=>[pt b1 (.cells #[vp,va,o] 94 (0,0)),pt b2 (.cells #[.int .i64 base,.int .i64 slope] 71 (0,0)),pt b3 (.cells #[.int .i64 0,.int .i64 0] 38 (0,0)),OwE encI 2 1 (.slice (some ⟨lb,0,none⟩) A.length A.length) (mkL (abv P A (Ch.tAt T) x base slope) k A.length)])
  (fun (k:Nat)=>A.length-k) 0
  (by omega) ⟨rfl,rfl,rfl,rfl,rfl,rfl,rfl,rfl,rfl,rfl,rfl,rfl,rfl,trivial⟩ (by repeat (first | exact Sub.nil | refine Sub.cons (by repeat first | exact .head | apply Pick.tail) ?_)) ?_
 rintro k hk0
 refine W.sreg (WO.p rfl rfl (WO.nil (W.seq ?_)))
 refine W.cond_bl rfl (fun c1=>?_) (fun c1=>?_)
 ·refine W.skip (W.seq (W.block (W.sreg (WO.p rfl rfl (WO.indexAddr rfl rfl rfl hA.sl (by omega) rfl ?_)))))
  refine' WO.load (v:=_) rfl rfl ?hc rfl ?_
  case hc=>(first | (refine hA.cell0 (i:=k) ?_ 0 ?_ <;> first | rfl | omega))
  refine WO.p rfl rfl (WO.p rfl rfl (WO.nil ?_))
  have hbd:=abv_bd (k:=k) hc hx hn hb (by omega)
  unfold Ch.tAt at hbd
  have hr1:=hr (Ch.nbI P x) (by omega)
  have hr2:=hr (Ch.nbI P x+1) (by omega)
  refine W.drawD 32 [.r 0 [],.r 1 [],.r 2 [],.r 3 [],.r 4 [],.r 5 [],.b 6 [],.r 7 [],.r 8 [],.b 9 [],.r 10 [],.r 11 [],.r 12 [],.r 13 [],.r 14 [],.r 15 [],.b 16 [],.r 17 [],.r 18 [],.b 19 [],.r 20 [],.r 21 [],.r 22 [],.r 23 [],.b 24 [],.r 25 [],.b 26 [],.r 27 [],.r 28 [],.r 29 [],.r 30 [],.r 31 []] [] (A0:=[_]) (H0:=[_,_,_]) (.cons (Pick.tail (Pick.tail (Pick.tail .head))) (.cons .head (.cons .head (.cons .head .nil)))) (by kernel_rfl) ?_ ?_
  ·repeat constructor
  refine DT.r rfl rfl rfl (WO.p rfl rfl (WO.nil ⟨rfl,rfl⟩)) (DT.r rfl rfl rfl (WO.p rfl rfl (WO.nil ⟨rfl,rfl⟩)) (DT.r rfl rfl rfl (WO.p rfl rfl (WO.nil ⟨rfl,rfl⟩)) (DT.r rfl rfl rfl (WO.p rfl rfl (WO.nil ⟨rfl,rfl⟩)) (DT.r rfl rfl rfl (WO.p rfl rfl (WO.nil ⟨rfl,rfl⟩)) (DT.r rfl rfl rfl (WO.indexAddr rfl rfl rfl hT.sl (by omega) rfl (WO.nil ⟨rfl,rfl⟩)) ?_)))))
  refine' DT.b rfl rfl rfl ?hq ?_
  case hq =>
   refine' WO.load (v:=_) rfl rfl ?hc rfl ?_
   case hc=>((refine hT.cellV (i:=Ch.nbI P x) ?_;omega))
   exact WO.nil ⟨rfl,rfl⟩
  refine DT.r rfl rfl rfl (WO.p rfl rfl (WO.nil ⟨rfl,rfl⟩)) ?_
  refine' DT.r rfl rfl rfl ?hq ?_
  case hq =>
   refine' WO.indexAddr (n:=_) (i:=_) rfl rfl rfl ?hs ?h1 rfl ?_
   case hs=>((refine (hT.row _ ?_).sl;omega))
   case h1=>(omega)
   exact WO.nil ⟨rfl,rfl⟩
  refine' DT.b rfl rfl rfl ?hq ?_
  case hq =>
   refine' WO.load (v:=_) rfl rfl ?hc rfl ?_
   case hc=>(first | (refine (hT.row (Ch.nbI P x) ?_).cell0 (i:=k) ?_ 0 ?_ <;> first | rfl | omega))
   exact WO.nil ⟨rfl,rfl⟩
  refine DT.r rfl rfl rfl (WO.ar rfl rfl rfl (by unfold in64;omega) rfl (WO.nil ⟨rfl,rfl⟩)) (DT.r rfl rfl rfl (WO.p rfl rfl (WO.nil ⟨rfl,rfl⟩)) (DT.r rfl rfl rfl (WO.p rfl rfl (WO.nil ⟨rfl,rfl⟩)) (DT.r rfl rfl rfl (WO.p rfl rfl (WO.nil ⟨rfl,rfl⟩)) (DT.r rfl rfl rfl (WO.ar rfl rfl rfl (by unfold in64;omega) rfl (WO.nil ⟨rfl,rfl⟩)) ?_))))
  refine' DT.r rfl rfl rfl ?hq ?_
  case hq =>
   refine' WO.indexAddrZ (n:=_) rfl rfl rfl ?hs ?h00 ?h1 rfl ?_
   case hs=>exact hT.sl
   case h00=>omega
   case h1=>(omega)
   exact WO.nil ⟨rfl,rfl⟩
  refine' DT.b rfl rfl rfl ?hq ?_
  case hq =>
   refine' WO.load (v:=_) rfl rfl ?hc rfl ?_
   case hc=>((refine hT.cellV (i:=Ch.nbI P x+1) ?_;omega))
   exact WO.nil ⟨rfl,rfl⟩
  refine DT.r rfl rfl rfl (WO.p rfl rfl (WO.nil ⟨rfl,rfl⟩)) ?_
  refine' DT.r rfl rfl rfl ?hq ?_
  case hq =>
   refine' WO.indexAddr (n:=_) (i:=_) rfl rfl rfl ?hs ?h1 rfl ?_
   case hs=>((refine (hT.row _ ?_).sl;omega))
   case h1=>(omega)
   exact WO.nil ⟨rfl,rfl⟩
  refine' DT.b rfl rfl rfl ?hq ?_
  case hq =>
   refine' WO.load (v:=_) rfl rfl ?hc rfl ?_
   case hc=>(first | (refine (hT.row (Ch.nbI P x+1) ?_).cell0 (i:=k) ?_ 0 ?_ <;> first | rfl | omega))
   exact WO.nil ⟨rfl,rfl⟩
  refine DT.r rfl rfl rfl (WO.ar rfl rfl rfl (by unfold in64;omega) rfl (WO.nil ⟨rfl,rfl⟩)) (DT.r rfl rfl rfl (WO.ar rfl rfl rfl (by unfold in64;omega) rfl (WO.nil ⟨rfl,rfl⟩)) (DT.r rfl rfl rfl (WO.p rfl rfl (WO.nil ⟨rfl,rfl⟩)) (DT.r rfl rfl rfl (WO.field0 rfl rfl rfl (WO.nil ⟨rfl,rfl⟩)) (DT.b rfl rfl rfl (WO.load rfl rfl (Cell.own (Pick.tail (Pick.head)) rfl) rfl (WO.nil ⟨rfl,rfl⟩)) (DT.r rfl rfl rfl (WO.fieldL rfl rfl rfl (WO.nil ⟨rfl,rfl⟩)) (DT.b rfl rfl rfl (WO.load rfl rfl (Cell.own (Pick.tail (Pick.head)) rfl) rfl (WO.nil ⟨rfl,rfl⟩)) (DT.r rfl rfl rfl (WO.p rfl rfl (WO.nil ⟨rfl,rfl⟩)) ?_)))))))
  refine DT.r rfl rfl rfl (WO.ar rfl rfl rfl (by unfold in64;omega) rfl (WO.nil ⟨rfl,rfl⟩)) (DT.r rfl rfl rfl (WO.ar rfl rfl rfl (by unfold in64;omega) rfl (WO.nil ⟨rfl,rfl⟩)) (DT.r rfl rfl rfl (WO.ar rfl rfl rfl (by unfold in64;omega) rfl (WO.nil ⟨rfl,rfl⟩)) (DT.r rfl rfl rfl (WO.ar rfl rfl rfl (by unfold in64;omega) rfl (WO.nil ⟨rfl,rfl⟩)) (DT.nil [_,_,_,_] rfl (WO.indexAddr rfl rfl rfl hlb (by omega) rfl (WO.storeE (n:=abv P A (Ch.tAt T) x base slope k) encI_ok rfl rfl rfl rfl (by repeat exact .head) (by rw [mkL_len (by omega)];omega) ?_))))))
  rw [mkL_set (by omega)]
  refine WO.nil (W.region (WO.ar rfl rfl rfl (by unfold in64;omega) rfl (WO.p rfl rfl (WO.nil ?_))))
  refine' ⟨k+1,?hp,?hmu,⟨rfl,rfl,rfl,rfl,rfl,rfl,rfl,rfl,rfl,rfl,rfl,rfl,rfl,trivial⟩,?hS⟩
  case hS=>repeat (first | exact Sub.nil | refine Sub.cons (by repeat first | exact .head | apply Pick.tail) ?_)
  case hp=>omega
  case hmu=>omega
 ·refine W.exit (blk_same ?_)
  obtain rfl:k=A.length:=by omega
  rw [mkL_n]
  refine W.sreg (WO.p rfl rfl (WO.nil (W.seq (W.label (W.seq (W.sreg (WO.p rfl rfl (WO.len rfl rfl hlb rfl (WO.p rfl rfl (WO.nil (W.block ?_)))))))))))
  refine W.loop2 (fun (j:Nat) (a:Int)=>j≤A.length∧a=(j:Int)-1∧∀ i,i<j→0<abv P A (Ch.tAt T) x base slope i)
   (fun (j:Nat) (a:Int)=>[(101,.int .i64 (j:Int)),(100,.int .i64 (A.length:Int)),(18,.int .i64 a),(15,.slice (some ⟨lb,0,none⟩) A.length A.length),(14,.int .i64 (Ch.fr1 P x+Ch.fr0 P x)),(13,.int .i64 (Ch.fr0 P x)),(12,.int .i64 (Ch.fr1 P x)),(10,.int .i64 (Ch.nbI P x:Int)),(9,.bool false),(8,.pointer (some ⟨b3,0,none⟩)),(7,.pointer (some ⟨b2,0,none⟩)),(4,.pointer (some ⟨b1,0,none⟩)),(1,u)])
   (fun (j:Nat) (a:Int)=>[pt b1 (.cells #[vp,va,o] 94 (0,0)),pt b2 (.cells #[.int .i64 base,.int .i64 slope] 71 (0,0)),pt b3 (.cells #[.int .i64 0,.int .i64 0] 38 (0,0)),OwE encI 2 1 (.slice (some ⟨lb,0,none⟩) A.length A.length) ((List.range A.length).map (abv P A (Ch.tAt T) x base slope))])
   (fun (j:Nat) (a:Int)=>A.length-j) 0 (-1)
   (by exact ⟨by omega,by omega,fun i hi=>by omega⟩) ⟨rfl,rfl,rfl,rfl,rfl,rfl,rfl,rfl,rfl,rfl,rfl,rfl,rfl,trivial⟩ (by repeat (first | exact Sub.nil | refine Sub.cons (by repeat exact .head) ?_)) ?_
  rintro j a ⟨hj0,hja,hpos⟩
  refine W.sreg (WO.p rfl rfl (WO.nil (W.seq ?_)))
  refine W.cond_bl rfl (fun c2=>?_) (fun c2=>?_)
  ·refine W.skip (W.seq (W.block (W.sreg (WO.p rfl rfl (WO.p rfl rfl (WO.nil (W.block (W.sreg (WO.p rfl rfl (WO.p rfl rfl (WO.indexAddr rfl rfl rfl hlb (by omega) rfl ?_)))))))))))
   refine' WO.load (v:=_) rfl rfl ?hc rfl ?_
   case hc=>(first | (refine Lcell (n:=A.length) (k:=j) (g:=abv P A (Ch.tAt T) x base slope) ?_ (by omega) rfl;exact (by repeat (first | exact Sub.nil | refine Sub.cons (by repeat first | exact .head | apply Pick.tail) ?_))))
   refine WO.p rfl rfl (WO.p rfl rfl (WO.nil ?_))
   refine W.cond_bl rfl (fun c3=>?_) (fun c3=>?_)
   ·refine W.region (WO.p rfl rfl (WO.p rfl rfl (WO.nil (W.region (WO.ar rfl rfl rfl (by unfold in64;omega) rfl (WO.p rfl rfl (WO.nil ?_)))))))
    refine' ⟨j+1,_,?hp,?hmu,⟨rfl,rfl,rfl,rfl,rfl,rfl,rfl,rfl,rfl,rfl,rfl,rfl,rfl,trivial⟩,?hS⟩
    case hS=>repeat (first | exact Sub.nil | refine Sub.cons (by repeat exact .head) ?_)
    case hp=>exact ⟨by omega,by omega,fun i hi=>by rcases Nat.lt_or_ge i j with q | q;exact hpos i q;obtain rfl:i=j:=(by omega);assumption⟩
    case hmu=>omega
   ·refine W.sreg (WO.p rfl rfl (WO.p rfl rfl (WO.indexAddr rfl rfl rfl hlb (by omega) rfl ?_)))
    refine' WO.load (v:=_) rfl rfl ?hc rfl ?_
    case hc=>(first | (refine Lcell (n:=A.length) (k:=j) (g:=abv P A (Ch.tAt T) x base slope) ?_ (by omega) rfl;exact (by repeat (first | exact Sub.nil | refine Sub.cons (by repeat first | exact .head | apply Pick.tail) ?_))))
    refine WO.p rfl rfl (WO.p rfl rfl (WO.nil ?_))
    refine W.cond_bl rfl (fun c4=>?_) (fun c4=>?_)
    ·refine W.sreg (WO.field0 rfl rfl rfl (WO.fieldL rfl rfl rfl (WO.load rfl rfl (Cell.own Pick.head rfl) rfl (WO.p rfl rfl (WO.indexAddr rfl rfl rfl hA.sl (by omega) rfl ?_)))))
     refine' WO.load (v:=_) rfl rfl ?hc rfl ?_
     case hc=>(first | (refine hA.cell0 (i:=j) ?_ 0 ?_ <;> first | rfl | omega))
     refine WO.build rfl rfl rfl rfl rfl (WO.storeA rfl rfl rfl rfl (Pick.tail (Pick.tail (Pick.head))) rfl rfl (WO.p rfl rfl (WO.nil (W.ret ?_))))
     refine fin.ret (Res.two rfl (RV.cell rfl rfl rfl (Cells.own (by repeat exact .head))) (RV.tmp rfl)) ⟨_,(_,_),rfl,?_⟩
     exact MeR.here j (by omega) hpos (by omega)
    ·refine W.exit (blk_other rfl (blk_other rfl (blk_same (W.seq (W.sreg (WO.p rfl rfl (WO.p rfl rfl (WO.p rfl rfl ?_))))))))
     refine WO.guard_bl rfl rfl (fun c5=>?_) (fun c5=>?_)
     ·refine WO.no rfl rfl (WO.no rfl rfl (WO.no rfl rfl (WO.no rfl rfl (WO.no rfl rfl (WO.p rfl rfl (WO.nil (W.cond_t rfl (W.sreg (WO.build rfl rfl rfl rfl rfl (WO.storeA rfl rfl rfl rfl (Pick.tail (Pick.tail (Pick.head))) rfl rfl (WO.p rfl rfl (WO.nil (W.ret ?_)))))))))))))
      refine fin.ret (Res.two rfl (RV.cell rfl rfl rfl (Cells.own (by repeat exact .head))) (RV.tmp rfl)) ⟨_,(_,_),rfl,?_⟩
      (obtain rfl:j=0:=(by omega);exact MeR.low (by omega) (by omega))
     ·refine WO.pg rfl rfl rfl (WO.pg rfl rfl rfl (WO.go' rfl (WO.len rfl rfl hlb rfl (WO.go' rfl (WO.ar rfl rfl rfl (by unfold in64;omega) rfl (WO.pg rfl rfl rfl (WO.p rfl rfl (WO.nil ?_))))))))
      refine W.cond_bl rfl (fun c6=>?_) (fun c6=>?_)
      ·exfalso;omega
      ·refine W.skip (W.seq ?_)
       obtain ⟨i,rfl⟩:∃ i:Nat,j=i+1:=⟨j-1,by omega⟩
       obtain rfl:a=(i:Int):=by omega
       have hb1:=abv_bd (k:=i) hc hx hn hb (by omega)
       have hb2:=abv_bd (k:=i+1) hc hx hn hb (by omega)
       have hA1:=hc.ua.2 _ (getD_mem (show i<A.length by omega) 0)
       have hA2:=hc.ua.2 _ (getD_mem (show i+1<A.length by omega) 0)
       have hp0:=hpos i (by omega)
       have hp1:abv P A (Ch.tAt T) x base slope i≤5000000000:=by unfold abv;omega
       have hq1 : -5000000000≤abv P A (Ch.tAt T) x base slope (i+1):=by unfold abv;omega
       have hmd:=mid_bd (a:=A.getD i 0) (b:=A.getD (i+1) 0) (p:=abv P A (Ch.tAt T) x base slope i) (q := -abv P A (Ch.tAt T) x base slope (i+1)) (by omega) (by omega) (by omega) (by omega)
       refine W.drawD 11 [.r 0 [],.r 1 [],.r 2 [],.b 3 [],.r 4 [],.r 5 [],.r 6 [],.r 7 [],.b 8 [],.r 9 [],.r 10 []] [] (A0:=[]) (Sub.refl _) (by kernel_rfl) ?_ ?_
       ·repeat constructor
       refine DT.r rfl rfl rfl (WO.p rfl rfl (WO.nil ⟨rfl,rfl⟩)) (DT.r rfl rfl rfl (WO.p rfl rfl (WO.nil ⟨rfl,rfl⟩)) (DT.r rfl rfl rfl (WO.indexAddr rfl rfl rfl hlb (by omega) rfl (WO.nil ⟨rfl,rfl⟩)) ?_))
       refine' DT.b rfl rfl rfl ?hq ?_
       case hq =>
        refine' WO.load (v:=_) rfl rfl ?hc rfl ?_
        case hc=>(first | (refine Lcell (n:=A.length) (k:=i) (g:=abv P A (Ch.tAt T) x base slope) ?_ (by omega) rfl;exact (by repeat (first | exact Sub.nil | refine Sub.cons (by repeat first | exact .head | apply Pick.tail) ?_))))
        exact WO.nil ⟨rfl,rfl⟩
       refine DT.r rfl rfl rfl (WO.p rfl rfl (WO.nil ⟨rfl,rfl⟩)) (DT.r rfl rfl rfl (WO.p rfl rfl (WO.nil ⟨rfl,rfl⟩)) (DT.r rfl rfl rfl (WO.ar rfl rfl rfl (by unfold in64;omega) rfl (WO.nil ⟨rfl,rfl⟩)) ?_))
       refine' DT.r rfl rfl rfl ?hq ?_
       case hq =>
        refine' WO.indexAddrZ (n:=_) rfl rfl rfl ?hs ?h00 ?h1 rfl ?_
        case hs=>exact hlb
        case h00=>omega
        case h1=>(omega)
        exact WO.nil ⟨rfl,rfl⟩
       refine' DT.b rfl rfl rfl ?hq ?_
       case hq =>
        refine' WO.load (v:=_) rfl rfl ?hc rfl ?_
        case hc=>(first | (refine Lcell (n:=A.length) (k:=i+1) (j:=((i:Int)+1).toNat) (g:=abv P A (Ch.tAt T) x base slope) ?_ (by omega) (by omega);exact (by repeat (first | exact Sub.nil | refine Sub.cons (by repeat first | exact .head | apply Pick.tail) ?_))))
        exact WO.nil ⟨rfl,rfl⟩
       refine DT.r rfl rfl rfl (WO.neg rfl (by unfold in64;omega) rfl (WO.nil ⟨rfl,rfl⟩)) (DT.r rfl rfl rfl (WO.p rfl rfl (WO.nil ⟨rfl,rfl⟩)) (DT.nil [_,_,_,_] rfl (WO.p rfl rfl (WO.nil (W.sreg (WO.loadA rfl rfl (Cells.own Pick.head) rfl rfl (WO.p rfl rfl (WO.p rfl rfl (WO.nil (W.seq ?_))))))))))
       refine W.drawD 22 [.r 0 [],.r 1 [],.r 2 [],.b 3 [],.r 4 [],.r 5 [],.b 6 [],.r 7 [],.r 8 [],.r 9 [],.r 10 [],.b 11 [],.r 12 [],.r 13 [],.r 14 [],.b 15 [],.r 16 [],.r 17 [],.r 18 [],.r 19 [],.r 20 [],.r 21 []] [] (A0:=[_]) (H0:=[_,_,_]) (.cons (Pick.tail (Pick.tail .head)) (.cons .head (.cons .head (.cons .head .nil)))) (by kernel_rfl) ?_ ?_
       ·repeat constructor
       refine DT.r rfl rfl rfl (WO.p rfl rfl (WO.nil ⟨rfl,rfl⟩)) (DT.r rfl rfl rfl (WO.field0 rfl rfl rfl (WO.nil ⟨rfl,rfl⟩)) (DT.r rfl rfl rfl (WO.fieldL rfl rfl rfl (WO.nil ⟨rfl,rfl⟩)) (DT.b rfl rfl rfl (WO.load rfl rfl (Cell.own Pick.head rfl) rfl (WO.nil ⟨rfl,rfl⟩)) (DT.r rfl rfl rfl (WO.p rfl rfl (WO.nil ⟨rfl,rfl⟩)) (DT.r rfl rfl rfl (WO.indexAddr rfl rfl rfl hA.sl (by omega) rfl (WO.nil ⟨rfl,rfl⟩)) ?_)))))
       refine' DT.b rfl rfl rfl ?hq ?_
       case hq =>
        refine' WO.load (v:=_) rfl rfl ?hc rfl ?_
        case hc=>(first | (refine hA.cell0 (i:=i) ?_ 0 ?_ <;> first | rfl | omega))
        exact WO.nil ⟨rfl,rfl⟩
       refine DT.r rfl rfl rfl (WO.p rfl rfl (WO.nil ⟨rfl,rfl⟩)) (DT.r rfl rfl rfl (WO.ar rfl rfl rfl (by unfold in64;omega) rfl (WO.nil ⟨rfl,rfl⟩)) (DT.r rfl rfl rfl (WO.field0 rfl rfl rfl (WO.nil ⟨rfl,rfl⟩)) (DT.r rfl rfl rfl (WO.fieldL rfl rfl rfl (WO.nil ⟨rfl,rfl⟩)) (DT.b rfl rfl rfl (WO.load rfl rfl (Cell.own Pick.head rfl) rfl (WO.nil ⟨rfl,rfl⟩)) (DT.r rfl rfl rfl (WO.p rfl rfl (WO.nil ⟨rfl,rfl⟩)) (DT.r rfl rfl rfl (WO.ar rfl rfl rfl (by unfold in64;omega) rfl (WO.nil ⟨rfl,rfl⟩)) ?_))))))
       refine' DT.r rfl rfl rfl ?hq ?_
       case hq =>
        refine' WO.indexAddrZ (n:=_) rfl rfl rfl ?hs ?h00 ?h1 rfl ?_
        case hs=>exact hA.sl
        case h00=>omega
        case h1=>(omega)
        exact WO.nil ⟨rfl,rfl⟩
       refine' DT.b rfl rfl rfl ?hq ?_
       case hq =>
        refine' WO.load (v:=_) rfl rfl ?hc rfl ?_
        case hc=>(first | (refine hA.cell0 (i:=i+1) ?_ 0 ?_ <;> first | rfl | omega))
        exact WO.nil ⟨rfl,rfl⟩
       refine DT.r rfl rfl rfl (WO.p rfl rfl (WO.nil ⟨rfl,rfl⟩)) (DT.r rfl rfl rfl (WO.ar rfl rfl rfl (by unfold in64;omega) rfl (WO.nil ⟨rfl,rfl⟩)) (DT.r rfl rfl rfl (WO.ar rfl rfl rfl (by unfold in64;omega) rfl (WO.nil ⟨rfl,rfl⟩)) (DT.r rfl rfl rfl (WO.p rfl rfl (WO.nil ⟨rfl,rfl⟩)) (DT.r rfl rfl rfl (WO.p rfl rfl (WO.nil ⟨rfl,rfl⟩)) (DT.r rfl rfl rfl (WO.ar rfl rfl rfl (by unfold in64;omega) rfl (WO.nil ⟨rfl,rfl⟩)) (DT.nil [_,_,_,_] rfl ?_))))))
       refine WO.callCR (first:=[.agg #[vp,va,o]]) (captured:=[]) rfl rfl Tryz.call101 (fun L w hi=>Ch.c_fraction w vp va o (A.getD i 0 * -abv P A (Ch.tAt T) x base slope (i+1)+A.getD (i+1) 0*abv P A (Ch.tAt T) x base slope i) (abv P A (Ch.tAt T) x base slope i + -abv P A (Ch.tAt T) x base slope (i+1)) (by omega) (by omega) hop hoa ho) rfl (WO.storeA rfl rfl rfl rfl Pick.head rfl rfl (WO.p rfl rfl (WO.nil (W.ret ?_))))
       refine fin.ret (Res.two rfl (RV.cell rfl rfl rfl (Cells.own (by repeat exact .head))) (RV.tmp rfl)) ⟨_,(_,_),rfl,?_⟩
       exact MeR.mid i (by omega) hpos (by omega)
  ·refine W.exit (blk_same (W.seq (W.sreg (WO.p rfl rfl (WO.p rfl rfl (WO.p rfl rfl ?_))))))
   refine WO.guard_bl rfl rfl (fun c7=>?_) (fun c7=>?_)
   ·exfalso;omega
   ·refine WO.pg rfl rfl rfl (WO.pg rfl rfl rfl (WO.go' rfl (WO.len rfl rfl hlb rfl (WO.go' rfl (WO.ar rfl rfl rfl (by unfold in64;omega) rfl (WO.pg rfl rfl rfl (WO.p rfl rfl (WO.nil ?_))))))))
    refine W.cond_bl rfl (fun c8=>?_) (fun c8=>?_)
    ·refine W.sreg (WO.build rfl rfl rfl rfl rfl (WO.storeA rfl rfl rfl rfl (Pick.tail (Pick.tail (Pick.head))) rfl rfl (WO.p rfl rfl (WO.nil (W.ret ?_)))))
     refine fin.ret (Res.two rfl (RV.cell rfl rfl rfl (Cells.own (by repeat exact .head))) (RV.tmp rfl)) ⟨_,(_,_),rfl,?_⟩
     exact MeR.high (fun k hk=>hpos k (by omega))
    ·exfalso;omega
end Go.Proofs.YtfchgmiiicidcaaGreat
