/-
  What is proved here: operations on the bits of numbers. Conditions: none; each rule states its own.
-/
import Derived.Test.YtncjabmlkgacdaaGreatM2
import Derived.Laws.Shifts
import Derived.Laws.Cover1
set_option linter.unusedVariables false
set_option linter.unusedSimpArgs false
namespace Go.TH
open Go
def room (k:IntKind):Nat:=if k.signed then k.bits-1 else k.bits
def Fits (k:IntKind) (a:Nat):Prop:=a<2 ^ room k
theorem wrap_nat {k:IntKind} {a:Nat} (h:Fits k a):k.wrap (a:Int)=(a:Int):=by
 unfold Fits room at h
 have e1:(a:Int)%(2 ^ k.bits:Int)=(a:Int):=by
  refine Int.emod_eq_of_lt (by omega) ?_
  have h2:a<2 ^ k.bits:=Nat.lt_of_lt_of_le h (Nat.pow_le_pow_right (by omega) (by split <;> omega))
  exact_mod_cast h2
 unfold IntKind.wrap
 simp only [e1]
 split
 ·rename_i hs
  simp only [Bool.and_eq_true,decide_eq_true_eq] at hs
  rw [if_pos hs.1] at h
  have h3:(a:Int)<(2 ^ (k.bits-1):Int):=by exact_mod_cast h
  omega
 ·rfl
theorem ofInt_nat {k:IntKind} {a:Nat} (h:Fits k a):(BitVec.ofInt k.bits (a:Int)).toNat=a:=by
 have h2:a<2 ^ k.bits:=Nat.lt_of_lt_of_le h (Nat.pow_le_pow_right (by omega) (by unfold room;split <;> omega))
 rw [show BitVec.ofInt k.bits (a:Int)=BitVec.ofNat k.bits a by simp,BitVec.toNat_ofNat]
 exact Nat.mod_eq_of_lt h2
theorem mod_fits {k:IntKind} {a:Nat} (h:Fits k a):a%2 ^ k.bits=a:=Nat.mod_eq_of_lt (Nat.lt_of_lt_of_le h (Nat.pow_le_pow_right (by omega) (by unfold room;split <;> omega)))
theorem Fits.and {k:IntKind} {a b:Nat} (h:Fits k a):Fits k (a&&&b):=Nat.lt_of_le_of_lt Nat.and_le_left h
theorem Fits.or {k:IntKind} {a b:Nat} (h:Fits k a) (h':Fits k b):Fits k (a|||b):=Nat.or_lt_two_pow h h'
theorem Fits.xor {k:IntKind} {a b:Nat} (h:Fits k a) (h':Fits k b):Fits k (a^^^b):=Nat.xor_lt_two_pow h h'
theorem Fits.shr {k:IntKind} {a s:Nat} (h:Fits k a):Fits k (a>>>s):=Nat.lt_of_le_of_lt (by rw [Nat.shiftRight_eq_div_pow];exact Nat.div_le_self _ _) h
section
variable {P:Program} {C:Cx P} {E:Env} {H:List HP}
variable {ops:Array Oper} {K:KP} {rest:List Oper} {d:Nat} {ty:TypeId} {pos:String} {af:Array Edge} {x y:Operand} {T T':TypeId} {k:IntKind} {a b:Nat}
end
theorem RdR.of_lit {P:Program} {C:Cx P} {H:List HP} {α:Type} {enc:α→List Value} {sz e':Nat} {v:Value} {rv:List Value} {xss:List (List α)} {H1 L:List HP} {w:World} {n:Nat} (p:Pick (OwC e' 1 v n rv) H H1) (hi:Inv C.w0 C.M (L++H) w) (hlen:rv.length=xss.length) (hrow:∀ i,i<xss.length→RdF enc sz w.heap.size w (rv.getD i undef) (xss.getD i [])):RdR enc sz w.heap.size w v rv xss:=by
 have hn:rv.length=n:=by have:=(OwC.open (hi.pickL p)).1;omega
 subst hn
 refine ⟨⟨OwC.sl p L w hi,fun hl=>?_,fun i x hx j u hu=>?_⟩,hlen,hrow⟩
 ·have:=World.block_lt_of_cell? w _ (OwC.cell1 (C:=C) p hl L w hi)
  rw [elt_eq,addr_add_block] at this
  exact this
 ·have hlt:=(List.getElem?_eq_some_iff.1 hx).1
  obtain ⟨rfl,rfl⟩:j=0∧u=x:=by
   cases j with
   | zero=>simp [encV] at hu;exact ⟨rfl,hu.symm⟩
   | succ j=>simp [encV] at hu
  have:=OwC.cell1 (C:=C) p hlt L w hi
  rw [elt_eq] at this
  simpa [hx,Addr.add] using this
theorem RdR.of_two {P:Program} {C:Cx P} {H:List HP} {α:Type} {enc:α→List Value} {sz e':Nat} {v a b:Value} {xs ys:List α} {H1 L:List HP} {w:World} (p:Pick (OwC e' 1 v 2 [a,b]) H H1) (hi:Inv C.w0 C.M (L++H) w) (ha:RdF enc sz w.heap.size w a xs) (hb:RdF enc sz w.heap.size w b ys):RdR enc sz w.heap.size w v [a,b] [xs,ys] :=
 RdR.of_lit p hi rfl fun i hl=>match i,hl with
  | 0,_=>ha
  | 1,_=>hb
section
variable {P:Program} {C:Cx P} {E:Env} {H:List HP}
variable {ops:Array Oper} {K:KP} {rest:List Oper} {d:Nat} {ty:TypeId} {pos:String} {af:Array Edge} {x y:Operand} {T:TypeId}
theorem WO.indexV {len e i:Nat} {k:IntKind} {vs:List Value} {v:Value} (hT:C.tt.ar? T=some (len,e,1)) (hO:C.tt.one? e=true) (hx:ev E x=some (.agg vs.toArray)) (hy:ev E y=some (.int k (i:Int))) (h1:i<len) (hv:lget vs i=some v) (hN:Nat.blt d C.N=true)
 (h:WO C ops rest K ((d,v)::E) H):WO C ops (⟨some d,.index T x y,ty,pos,af,none⟩::rest) K E H :=
 WO.pure v (by simp) (fun L a w hf hi=>by
  rw [lget_eq] at hv
  have hp:=run_part1 (P:=P) (w:=w) (CT.of hO) hv
  simp [execOp,hf.eval hx,hf.eval hy,Instr.index,run_underlying (ArT.of hT).u,asIntOf,h1,run_sizeOf (ArT.of hT).size,hp]) hN h
end
end Go.TH
namespace Go.Proofs.YtncjabmlkgacdaaGreat.Sp
open Go Go.TH
attribute [local irreducible] W WO pt
set_option maxRecDepth 10000
set_option maxHeartbeats 1000000
structure Sd where
 a:Int
 b:Int
 c:Int
abbrev sdV (s:Sd):Value:=.agg #[.int .i64 s.a,.int .i64 s.b,.int .i64 s.c]
def encSd (s:Sd):List Value:=[.int .i64 s.a,.int .i64 s.b,.int .i64 s.c]
theorem encSd_ok:EncOk encSd 3:=⟨fun _=>rfl,fun x u hu=>by simp [encSd] at hu;rcases hu with rfl | rfl | rfl <;> rfl,by omega⟩
def sd0:Sd:=⟨0,0,0⟩
def loS (r:Rn):Sd:=⟨r.p,r.q,r.lo⟩
def hiS (r:Rn):Sd:=⟨-r.p,-r.q,-r.hi⟩
def crs (s o:Sd):Int:=s.a*o.b-s.b*o.a
def byS (s:Sd) (n:Int):Sd:=⟨s.a*n,s.b*n,s.c*n⟩
def ab (n:Int):Int:=max n (-n)
def siz (s:Sd):Int:=ab s.a+ab s.b
def addS (s o:Sd):Sd:=⟨s.a+o.a,s.b+o.b,s.c+o.c⟩
def sumS (l:List Sd):Sd:=l.foldl addS sd0
structure OkS (A B:Int) (s:Sd):Prop where
 a : -A≤s.a∧s.a≤A
 b : -A≤s.b∧s.b≤A
 c : -B≤s.c∧s.c≤B
theorem OkS.lo {r:Rn} (h:OkRn r):OkS 20 100000 (loS r):=by
 obtain ⟨h1,h2,_,h3,h4,h5⟩:=h
 unfold OkN at h1 h2
 exact ⟨h1,h2,by show _≤r.lo∧r.lo≤_;omega⟩
theorem OkS.hi {r:Rn} (h:OkRn r):OkS 20 100000 (hiS r):=by
 obtain ⟨h1,h2,_,h3,h4,h5⟩:=h
 unfold OkN at h1 h2
 exact ⟨by show _ ≤ -r.p ∧ -r.p≤_;omega,by show _ ≤ -r.q ∧ -r.q≤_;omega,by show _ ≤ -r.hi ∧ -r.hi≤_;omega⟩
theorem OkS.by_ {s:Sd} {A B N n:Int} (h:OkS A B s) (hn : -N≤n∧n≤N):OkS (A*N) (B*N) (byS s n):=⟨mul_bd h.a hn,mul_bd h.b hn,mul_bd h.c hn⟩
theorem OkS.up {s:Sd} {A B A' B':Int} (h:OkS A B s) (hA:A≤A') (hB:B≤B'):OkS A' B' s:=by
 obtain ⟨h1,h2,h3⟩:=h
 exact ⟨by omega,by omega,by omega⟩
theorem crs_bd {s o:Sd} {B B':Int} (h:OkS 20 B s) (g:OkS 20 B' o):(-400≤s.a*o.b∧s.a*o.b≤400)∧(-400≤s.b*o.a∧s.b*o.a≤400) ∧ -800≤crs s o∧crs s o≤800:=by
 have h1:=mul_bd h.a g.b
 have h2:=mul_bd h.b g.a
 unfold crs
 omega
theorem siz_bd {s:Sd} {B:Int} (h:OkS 20 B s):0≤siz s∧siz s≤40:=by
 obtain ⟨h1,h2,_⟩:=h
 unfold siz ab;omega
theorem c_cross (w:World) (s o:Sd) (hs:OkS 20 1000000 s) (ho:OkS 20 1000000 o):Ret Tryz.prog 168 [sdV s,sdV o].toArray w (.int .i64 (crs s o)):=by
 refine Ret.of mixed tyTab Tryz.func168 rfl rfl ?_
 have hb:=crs_bd hs ho
 unfold crs at hb
 refine W.sreg (WO.boxA rfl rfl (fun b1 hb1=>(WO.boxA rfl rfl (fun b2 hb2=>(WO.p rfl rfl (WO.nil (W.sreg (WO.indexArrL (o':=0) rfl rfl rfl (by decide) rfl rfl (WO.load rfl rfl (Cell.own (Pick.tail (Pick.head)) rfl) rfl (WO.indexArrL (o':=1) rfl rfl rfl (by decide) rfl rfl (WO.load rfl rfl (Cell.own Pick.head rfl) rfl (WO.ar rfl rfl rfl (by unfold in64;omega) rfl (WO.indexArrL (o':=1) rfl rfl rfl (by decide) rfl rfl (WO.load rfl rfl (Cell.own (Pick.tail (Pick.head)) rfl) rfl (WO.indexArrL (o':=0) rfl rfl rfl (by decide) rfl rfl ?_)))))))))))))))
 refine WO.load rfl rfl (Cell.own Pick.head rfl) rfl (WO.ar rfl rfl rfl (by unfold in64;omega) rfl (WO.ar rfl rfl rfl (by unfold in64;omega) rfl (WO.p rfl rfl (WO.nil (W.ret ?_)))))
 exact fin.ret (Res.one rfl (RV.tmp rfl)) rfl
theorem c_by (w:World) (s:Sd) (n:Int) (hs:OkS 1000000 1000000 s) (hn : -1000000≤n∧n≤1000000):Ret Tryz.prog 154 [sdV s,.int .i64 n].toArray w (sdV (byS s n)):=by
 refine Ret.of mixed tyTab Tryz.func154 rfl rfl ?_
 have h1:=mul_bd hs.a hn
 have h2:=mul_bd hs.b hn
 have h3:=mul_bd hs.c hn
 refine W.sreg (WO.boxA rfl rfl (fun b1 hb1=>(WO.alloc rfl rfl rfl (fun b2 hb2=>(WO.nil (W.sreg (WO.indexArrL (o':=0) rfl rfl rfl (by decide) rfl rfl (WO.load rfl rfl (Cell.own (Pick.tail (Pick.head)) rfl) rfl (WO.p rfl rfl (WO.ar rfl rfl rfl (by unfold in64;omega) rfl (WO.indexArrL (o':=1) rfl rfl rfl (by decide) rfl rfl (WO.load rfl rfl (Cell.own (Pick.tail (Pick.head)) rfl) rfl (WO.p rfl rfl (WO.ar rfl rfl rfl (by unfold in64;omega) rfl (WO.indexArrL (o':=2) rfl rfl rfl (by decide) rfl rfl (WO.load rfl rfl (Cell.own (Pick.tail (Pick.head)) rfl) rfl (WO.p rfl rfl (WO.ar rfl rfl rfl (by unfold in64;omega) rfl (WO.build rfl rfl rfl rfl rfl ?_)))))))))))))))))))
 refine WO.storeA rfl rfl rfl rfl Pick.head rfl rfl (WO.nil (W.ret ?_))
 exact fin.ret (Res.one rfl (RV.cell rfl rfl rfl (Cells.own Pick.head))) rfl
theorem c_flat (w:World) (s:Sd):Ret Tryz.prog 100 [sdV s].toArray w (sdV ⟨s.a,s.b,0⟩):=by
 refine Ret.of mixed tyTab Tryz.func100 rfl rfl (W.sreg (WO.boxA rfl rfl (fun b1 hb1=>(WO.alloc rfl rfl rfl (fun b2 hb2=>(WO.nil (W.sreg (WO.indexArrL (o':=0) rfl rfl rfl (by decide) rfl rfl (WO.load rfl rfl (Cell.own (Pick.tail (Pick.head)) rfl) rfl (WO.indexArrL (o':=1) rfl rfl rfl (by decide) rfl rfl (WO.load rfl rfl (Cell.own (Pick.tail (Pick.head)) rfl) rfl (WO.build rfl rfl rfl rfl rfl (WO.storeA rfl rfl rfl rfl Pick.head rfl rfl (WO.nil (W.ret ?_)))))))))))))))
 exact fin.ret (Res.one rfl (RV.cell rfl rfl rfl (Cells.own Pick.head))) rfl
theorem c_size (w:World) (s:Sd) (hs:OkS 20 1000000 s):Ret Tryz.prog 175 [sdV s].toArray w (.int .i64 (siz s)):=by
 refine Ret.of mixed tyTab Tryz.func175 rfl rfl ?_
 obtain ⟨h1,h2,h3⟩:=hs
 refine W.sreg (WO.boxA rfl rfl (fun b1 hb1=>(WO.p rfl rfl (WO.nil (W.sreg (WO.indexArrL (o':=0) rfl rfl rfl (by decide) rfl rfl (WO.load rfl rfl (Cell.own Pick.head rfl) rfl (WO.indexArrL (o':=0) rfl rfl rfl (by decide) rfl rfl (WO.load rfl rfl (Cell.own Pick.head rfl) rfl (WO.neg rfl (by unfold in64;omega) rfl (WO.max2 rfl rfl rfl (WO.indexArrL (o':=1) rfl rfl rfl (by decide) rfl rfl (WO.load rfl rfl (Cell.own Pick.head rfl) rfl (WO.indexArrL (o':=1) rfl rfl rfl (by decide) rfl rfl (WO.load rfl rfl (Cell.own Pick.head rfl) rfl (WO.neg rfl (by unfold in64;omega) rfl (WO.max2 rfl rfl rfl (WO.ar rfl rfl rfl (by unfold in64;omega) rfl (WO.p rfl rfl ?_)))))))))))))))))))
 refine WO.nil (W.ret ?_)
 exact fin.ret (Res.one rfl (RV.tmp rfl)) rfl
theorem c_newPair (w:World) (r:Rn) (h:OkRn r):Ret Tryz.prog 97 [rnV r].toArray w (.agg #[.int .i64 r.p,.int .i64 r.q,.int .i64 r.lo,.int .i64 r.hi,.int .i64 r.p,.int .i64 r.q,.int .i64 r.lo,.int .i64 (-r.p),.int .i64 (-r.q),.int .i64 (-r.hi)]):=by
 refine Ret.of mixed tyTab Tryz.func97 rfl rfl ?_
 obtain ⟨h1,h2,_,h3,h4,h5⟩:=h
 unfold OkN at h1 h2
 refine W.sreg (WO.boxA rfl rfl (fun b1 hb1=>(WO.alloc rfl rfl rfl (fun b2 hb2=>(WO.nil (W.sreg (WO.loadA rfl rfl (Cells.own (Pick.tail (Pick.head))) rfl rfl (WO.field0 rfl rfl rfl (WO.load rfl rfl (Cell.own (Pick.tail (Pick.head)) rfl) rfl (WO.fieldL rfl rfl rfl (WO.load rfl rfl (Cell.own (Pick.tail (Pick.head)) rfl) rfl (WO.fieldL rfl rfl rfl (WO.field0 rfl rfl rfl (WO.load rfl rfl (Cell.own (Pick.tail (Pick.head)) rfl) rfl (WO.build rfl rfl rfl rfl rfl ?_)))))))))))))))
 refine WO.field0 rfl rfl rfl (WO.load rfl rfl (Cell.own (Pick.tail (Pick.head)) rfl) rfl (WO.neg rfl (by unfold in64;omega) rfl (WO.fieldL rfl rfl rfl (WO.load rfl rfl (Cell.own (Pick.tail (Pick.head)) rfl) rfl (WO.neg rfl (by unfold in64;omega) rfl (WO.fieldL rfl rfl rfl (WO.fieldL rfl rfl rfl (WO.load rfl rfl (Cell.own (Pick.tail (Pick.head)) rfl) rfl (WO.neg rfl (by unfold in64;omega) rfl (WO.build rfl rfl rfl rfl rfl (WO.build rfl rfl rfl rfl rfl (WO.storeA rfl rfl rfl rfl Pick.head rfl rfl (WO.nil (W.ret ?_))))))))))))))
 exact fin.ret (Res.one rfl (RV.cell rfl rfl rfl (Cells.own Pick.head))) rfl
theorem sumS_take {l:List Sd} {i:Nat} (h:i<l.length):sumS (l.take (i+1))=addS (sumS (l.take i)) (l.getD i sd0):=by
 unfold sumS;rw [take_succ_getD h sd0,List.foldl_append];rfl
def addK (s o:Sd) (k:Nat):Sd:=⟨if 0<k then s.a+o.a else s.a,if 1<k then s.b+o.b else s.b,if 2<k then s.c+o.c else s.c⟩
def prtS (s:Sd) (k:Nat):Int:=if k=0 then s.a else if k=1 then s.b else s.c
theorem prtS_bd {A:Int} {s:Sd} (h:OkS A A s) {k:Nat} : -A≤prtS s k∧prtS s k≤A:=by
 obtain ⟨h1,h2,h3⟩:=h
 unfold prtS;split
 ·exact h1
 ·split
  ·exact h2
  ·exact h3
theorem prtS_get (s:Sd) {k:Nat} (h:k<3):lget (encSd s) k=some (.int .i64 (prtS s k)):=by
 obtain rfl | rfl | rfl:k=0∨k=1∨k=2:=by omega
 all_goals rfl
theorem addK_3 (s o:Sd):addK s o 3=addS s o:=rfl
theorem addK_at {s o:Sd} {k:Nat} (h:k<3):prtS (addK s o k) k=prtS s k:=by
 obtain rfl | rfl | rfl:k=0∨k=1∨k=2:=by omega
 all_goals rfl
theorem addK_set {s o:Sd} {k:Nat} (h:k<3):(encSd (addK s o k)).set k (.int .i64 (prtS (addK s o k) k+prtS o k))=encSd (addK s o (k+1)):=by
 obtain rfl | rfl | rfl:k=0∨k=1∨k=2:=by omega
 all_goals rfl
theorem sum_in {M:Int} (hM:0≤M) {l:List Sd} (h:∀ s∈l,OkS M M s):∀ {i:Nat},i≤l.length→OkS (M*i) (M*i) (sumS (l.take i))
 | 0,_=>by
  rw [show M*((0:Nat):Int)=0 by simp]
  show OkS 0 0 sd0
  exact ⟨by decide,by decide,by decide⟩
 | i+1,hi=>by
  have h1:=sum_in hM h (i:=i) (by omega)
  have h2:=h _ (getD_mem (show i<l.length by omega) sd0)
  rw [sumS_take (by omega)]
  have e:M*((i+1:Nat):Int)=M*i+M:=by rw [Int.natCast_succ,Int.mul_add,Int.mul_one]
  rw [e]
  obtain ⟨a1,a2,a3⟩:=h1
  obtain ⟨b1,b2,b3⟩:=h2
  exact ⟨by show _≤_+_∧_+_≤_;omega,by show _≤_+_∧_+_≤_;omega,by show _≤_+_∧_+_≤_;omega⟩
theorem RdF.cells3 {C:Cx Tryz.prog} {H:List HP} {o:Value} {l:List Sd} (h:RdF encSd 3 C.B C.w0 o l) {i:Nat} (h1:i<l.length):Cells C H (elt o i 3) [.int .i64 (l.getD i sd0).a,.int .i64 (l.getD i sd0).b,.int .i64 (l.getD i sd0).c]:=RdF.cells h h1 sd0
theorem cellK {C:Cx Tryz.prog} {H:List HP} {b k:Nat} {o s:Sd} {o':Nat} {t:TypeId} {fr:Nat × Nat} (p:Sub H [pt b (.cells (encSd (addK o s k)).toArray t fr)]) (hk:k<3) (ho:o'=k):Cell C H ⟨b,o',none⟩ (.int .i64 (prtS o k)):=by
 subst ho
 cases p with
 | cons p _=>exact Cell.own p (by rw [prtS_get _ hk,addK_at hk])
theorem c_sum (w:World) (v:Value) (l:List Sd) (hR:RdF encSd 3 w.heap.size w v l) (hl:l.length≤4) (hb:∀ s∈l,OkS 1000000000000000 1000000000000000 s):Ret Tryz.prog 153 [v].toArray w (sdV (sumS l)):=by
 refine Ret.of mixed tyTab Tryz.func153 rfl rfl ?_
 replace hR:RdF encSd 3 (fnCx mixed tyTab Tryz.f153.ntmps w).B (fnCx mixed tyTab Tryz.f153.ntmps w).w0 v l:=hR
 have hle:=hR.sl.le
 refine W.sreg (WO.alloc rfl rfl rfl (fun b1 hb1=>(WO.nil (W.sreg (WO.alloc rfl rfl rfl (fun b2 hb2=>(WO.nil (W.seq (W.sreg (WO.p rfl rfl (WO.len rfl rfl hR.sl rfl (WO.p rfl rfl (WO.nil (W.block ?_))))))))))))))
 refine W.loop2 (fun (i:Nat) (o:Sd)=>i≤l.length∧o=sumS (l.take i))
  (fun (i:Nat) (o:Sd)=>[(10,.int .i64 (i:Int)),(9,.int .i64 (l.length:Int)),(8,v),(3,.pointer (some ⟨b2,0,none⟩)),(2,.pointer (some ⟨b1,0,none⟩))])
  (fun (i:Nat) (o:Sd)=>[pt b2 (.cells #[.int .i64 o.a,.int .i64 o.b,.int .i64 o.c] 96 (0,0)),pt b1 (.cells #[.int .i64 0,.int .i64 0,.int .i64 0] 96 (0,0))])
  (fun (i:Nat) (o:Sd)=>l.length-i) 0 sd0
  (by exact ⟨by omega,rfl⟩) ⟨rfl,rfl,rfl,rfl,rfl,trivial⟩ (by repeat (first | exact Sub.nil | refine Sub.cons (by repeat exact .head) ?_)) ?_
 rintro i o ⟨hi0,ho⟩
 refine W.sreg (WO.p rfl rfl (WO.nil (W.seq ?_)))
 refine W.cond_bl rfl (fun c1=>?_) (fun c1=>?_)
 ·refine W.skip (W.seq (W.block (W.sreg (WO.indexAddr rfl rfl rfl hR.sl (by omega) rfl (WO.loadA rfl rfl (RdF.cells3 hR (i:=i) (by omega)) rfl rfl (WO.alloc rfl rfl rfl (fun b3 hb3=>(WO.storeA rfl rfl rfl rfl Pick.head rfl rfl (WO.nil (W.sreg (WO.loadA rfl rfl (Cells.own Pick.head) rfl rfl (WO.p rfl rfl (WO.nil (W.block ?_))))))))))))))
  refine W.loop (fun (k:Nat)=>k≤3)
   (fun (k:Nat)=>[(15,.int .i64 (k:Int)),(14,.agg #[.int .i64 (l.getD i sd0).a,.int .i64 (l.getD i sd0).b,.int .i64 (l.getD i sd0).c]),(10,.int .i64 (i:Int)),(9,.int .i64 (l.length:Int)),(8,v),(3,.pointer (some ⟨b2,0,none⟩)),(2,.pointer (some ⟨b1,0,none⟩))])
   (fun (k:Nat)=>[pt b2 (.cells (encSd (addK o (l.getD i sd0) k)).toArray 96 (0,0)),pt b1 (.cells #[.int .i64 0,.int .i64 0,.int .i64 0] 96 (0,0))])
   (fun (k:Nat)=>3-k) 0
   (by omega) ⟨rfl,rfl,rfl,rfl,rfl,rfl,rfl,trivial⟩ (by repeat (first | exact Sub.nil | refine Sub.cons (by repeat first | exact .head | apply Pick.tail) ?_)) ?_
  rintro k hk0
  refine W.sreg (WO.p rfl rfl (WO.nil (W.seq ?_)))
  refine W.cond_bl rfl (fun c2=>?_) (fun c2=>?_)
  ·refine W.skip (W.seq (W.block (W.sreg (WO.p rfl rfl (WO.indexV (vs:=encSd (l.getD i sd0)) (i:=k) rfl rfl rfl rfl (by omega) (prtS_get _ (by omega)) rfl (WO.p rfl rfl (WO.p rfl rfl (WO.nil ?_))))))))
   have p1:=prtS_bd (hb _ (getD_mem (show i<l.length by omega) sd0)) (k:=k)
   have p2:=prtS_bd (sum_in (by omega) hb (i:=i) (by omega)) (k:=k)
   rw [← ho] at p2
   refine W.region (WO.p rfl rfl (WO.indexArrE (i:=k) (o':=0+k*1) rfl rfl rfl rfl (by omega) rfl rfl ?_))
   refine' WO.load (v:=_) rfl rfl ?hc rfl ?_
   case hc=>(first | (refine cellK (b:=b2) (o:=o) (s:=l.getD i sd0) (k:=k) (o':=0+k*1) (t:=96) (fr:=(0,0)) ?_ (by omega) (by omega);repeat (first | exact Sub.nil | refine Sub.cons (by repeat exact .head) ?_)))
   refine WO.p rfl rfl (WO.ar rfl rfl rfl (by unfold in64;omega) rfl (WO.indexArrE (i:=k) (o':=0+k*1) rfl rfl rfl rfl (by omega) rfl rfl (WO.store1 (cs:=encSd (addK o (l.getD i sd0) k)) rfl rfl rfl rfl (by repeat exact .head) (by rw [Nat.blt_eq];show 0+k*1<3;omega) ?_)))
   rw [show 0+k*1=k by omega,show (encSd (addK o (l.getD i sd0) k)).set k (.int .i64 (prtS o k+prtS (l.getD i sd0) k))=encSd (addK o (l.getD i sd0) (k+1)) by rw [← addK_set (by omega),addK_at (by omega)]]
   refine WO.nil (W.region (WO.ar rfl rfl rfl (by unfold in64;omega) rfl (WO.p rfl rfl (WO.nil ?_))))
   refine' ⟨k+1,?hp,?hmu,⟨rfl,rfl,rfl,rfl,rfl,rfl,rfl,trivial⟩,?hS⟩
   case hS=>repeat (first | exact Sub.nil | refine Sub.cons (by repeat exact .head) ?_)
   case hp=>omega
   case hmu=>omega
  ·refine W.exit (blk_same ?_)
   obtain rfl:3=k:=by omega
   rw [addK_3]
   refine W.region (WO.ar rfl rfl rfl (by unfold in64;omega) rfl (WO.p rfl rfl (WO.nil ?_)))
   refine' ⟨i+1,_,?hp,?hmu,⟨rfl,rfl,rfl,rfl,rfl,trivial⟩,?hS⟩
   case hS=>repeat (first | exact Sub.nil | refine Sub.cons (by repeat exact .head) ?_)
   case hp=>exact ⟨by omega,by rw [sumS_take (by omega),ho]⟩
   case hmu=>omega
 ·refine W.exit (blk_same (W.sreg (WO.loadA rfl rfl (Cells.own Pick.head) rfl rfl (WO.storeA rfl rfl rfl rfl (Pick.tail (Pick.head)) rfl rfl (WO.nil (W.ret (fin.ret (Res.one rfl (RV.cell rfl rfl rfl (Cells.own (by repeat exact .head)))) ?_)))))))
  rw [show i=l.length by omega,List.take_length] at ho
  (rw [← ho];done)
end Go.Proofs.YtncjabmlkgacdaaGreat.Sp
namespace Go.Proofs.YtncjabmlkgacdaaGreat.Sp
open Go Go.TH
attribute [local irreducible] W WO pt
set_option maxRecDepth 10000
set_option maxHeartbeats 1000000
def gcd2 (a b:Int):Int:=(Nat.gcd a.toNat b.toNat:Nat)
theorem gcd2_zero {a:Int} (h:0≤a):gcd2 a 0=a:=by simp [gcd2];omega
theorem gcd2_comm (a b:Int):gcd2 a b=gcd2 b a:=by unfold gcd2;rw [Nat.gcd_comm]
theorem gcd2_step {a b:Int} (ha:0≤a) (hb:0<b):gcd2 b (a.tmod b)=gcd2 a b:=by
 unfold gcd2
 obtain ⟨n,rfl⟩:=Int.eq_ofNat_of_zero_le ha
 obtain ⟨m,rfl⟩:=Int.eq_ofNat_of_zero_le (Int.le_of_lt hb)
 rw [Int.tmod_eq_emod_of_nonneg (by omega),← Int.natCast_emod]
 simp only [Int.toNat_natCast]
 rw [Nat.gcd_comm m (n%m),← Nat.gcd_rec,Nat.gcd_comm]
theorem tmod_lt {a b:Int} (ha:0≤a) (hb:0<b):0≤a.tmod b∧a.tmod b<b:=⟨Int.tmod_nonneg b ha,Int.tmod_lt_of_pos a hb⟩
theorem gcd2_pos {a b:Int} (hb:0<b):0<gcd2 a b:=by
 unfold gcd2
 have:0<Nat.gcd a.toNat b.toNat:=Nat.gcd_pos_of_pos_right _ (by omega)
 omega
theorem ab_nn (n:Int):0≤ab n:=by unfold ab;omega
def red (n d:Int):Int × Int:=(n.tdiv (gcd2 (ab n) d),d.tdiv (gcd2 (ab n) d))
abbrev raV (r:Int × Int):Value:=.agg #[.int .i64 r.1,.int .i64 r.2]
theorem gcd2_dvd (n:Int) {d:Int} (hd:0<d):gcd2 (ab n) d∣n∧gcd2 (ab n) d∣d:=by
 unfold gcd2
 have h1:(Nat.gcd (ab n).toNat d.toNat:Int)∣((ab n).toNat:Int):=Int.natCast_dvd_natCast.2 (Nat.gcd_dvd_left _ _)
 have h2:(Nat.gcd (ab n).toNat d.toNat:Int)∣(d.toNat:Int):=Int.natCast_dvd_natCast.2 (Nat.gcd_dvd_right _ _)
 rw [Int.toNat_of_nonneg (ab_nn n)] at h1
 rw [Int.toNat_of_nonneg (by omega)] at h2
 refine ⟨?_,h2⟩
 unfold ab at h1 ⊢
 rcases Int.le_total 0 n with h | h
 ·rwa [show max n (-n)=n by omega] at h1 ⊢
 ·rw [show max n (-n) = -n by omega] at h1 ⊢;exact Int.dvd_neg.1 h1
theorem red_parts (n:Int) {d:Int} (hd:0<d):∃ g:Int,0<g∧n=(red n d).1*g∧d=(red n d).2*g∧0<(red n d).2∧(red n d).2≤d∧ab (red n d).1≤ab n:=by
 have hg:=gcd2_pos (a:=ab n) hd
 obtain ⟨⟨x,hx⟩,⟨y,hy⟩⟩:=gcd2_dvd n hd
 have e1:n.tdiv (gcd2 (ab n) d)=x:=by
  generalize gcd2 (ab n) d=g at *
  rw [hx,Int.mul_tdiv_cancel_left _ (by omega)]
 have e2:d.tdiv (gcd2 (ab n) d)=y:=by
  generalize gcd2 (ab n) d=g at *
  rw [hy,Int.mul_tdiv_cancel_left _ (by omega)]
 have e3:red n d=(x,y):=by unfold red;rw [e1,e2]
 rw [e3]
 generalize gcd2 (ab n) d=g at *
 have hy0:0<y:=by
  rcases Int.lt_or_le 0 y with h | h
  ·exact h
  ·have:=Int.mul_nonneg (show 0≤g by omega) (show 0 ≤ -y by omega)
   rw [Int.mul_neg] at this;omega
 refine ⟨g,hg,by rw [hx];exact Int.mul_comm _ _,by rw [hy];exact Int.mul_comm _ _,hy0,?_,?_⟩
 ·show y≤d
  have:=Int.mul_le_mul_of_nonneg_right (show 1≤g by omega) (show 0≤y by omega)
  omega
 ·show ab x≤ab n
  rw [hx]
  unfold ab
  rcases Int.le_total 0 x with h | h
  ·have a1:=Int.mul_le_mul_of_nonneg_right (show 1≤g by omega) h
   rw [Int.one_mul] at a1;omega
  ·have a1:=Int.mul_le_mul_of_nonneg_right (show 1≤g by omega) (show 0 ≤ -x by omega)
   rw [Int.one_mul,Int.mul_neg] at a1;omega
theorem tdiv_bd {n g:Int} (hg:0<g) (h : -4000000000000000000≤n∧n≤4000000000000000000) : -4000000000000000000≤n.tdiv g∧n.tdiv g≤4000000000000000000:=by
 rcases Int.le_total 0 n with h0 | h0
 ·have h1:=Int.tdiv_nonneg (a:=n) (b:=g) h0 (by omega)
  have h2:=Int.tdiv_le_self (a:=n) g h0
  omega
 ·have h1:=Int.tdiv_nonneg (a := -n) (b:=g) (by omega) (by omega)
  have h2:=Int.tdiv_le_self (a := -n) g (by omega)
  rw [Int.neg_tdiv] at h1 h2;omega
theorem c_common (w:World) (n d:Int) (hn : -4000000000000000000≤n∧n≤4000000000000000000) (hd:0<d):Ret Tryz.prog 169 [.int .i64 n,.int .i64 d].toArray w (.int .i64 (gcd2 (ab n) d)):=by
 refine Ret.of mixed tyTab Tryz.func169 rfl rfl (W.sreg (WO.p rfl rfl (WO.nil (W.sreg (WO.p rfl rfl (WO.p rfl rfl (WO.neg rfl (by unfold in64;omega) rfl (WO.max2 rfl rfl rfl (WO.p rfl rfl (WO.nil (W.seq (W.block ?_))))))))))))
 refine W.loop2 (fun (x:Int) (y:Int)=>0≤x∧0≤y∧gcd2 x y=gcd2 (ab n) d)
  (fun (x:Int) (y:Int)=>[(0,.int .i64 x),(1,.int .i64 y)])
  (fun (x:Int) (y:Int)=>[])
  (fun (x:Int) (y:Int)=>x.toNat) (ab n) d
  (by exact ⟨ab_nn n,by omega,rfl⟩) ⟨rfl,rfl,trivial⟩ (by repeat (first | exact Sub.nil | refine Sub.cons (by repeat first | exact .head | apply Pick.tail) ?_)) ?_
 rintro x y ⟨hx,hy,hg⟩
 refine W.seq (W.sreg (WO.p rfl rfl (WO.p rfl rfl (WO.nil ?_))))
 refine W.cond_bl rfl (fun c1=>?_) (fun c1=>?_)
 ·refine W.skip (W.block (W.region (WO.p rfl rfl (WO.p rfl rfl (WO.rem rfl rfl (by omega) rfl (WO.p rfl rfl (WO.p rfl rfl (WO.p rfl rfl (WO.nil ?_)))))))))
  refine' ⟨_,_,?hp,?hmu,⟨rfl,rfl,trivial⟩,?hS⟩
  case hS=>repeat (first | exact Sub.nil | refine Sub.cons (by repeat first | exact .head | apply Pick.tail) ?_)
  case hp=>exact ⟨(tmod_lt hy (by omega)).1,hx,by rw [← hg,gcd2_comm (y.tmod x) x,gcd2_step hy (by omega),gcd2_comm]⟩
  case hmu=>have:=tmod_lt hy (show 0<x by omega);omega
 ·refine W.exit (blk_same (W.sreg (WO.p rfl rfl (WO.p rfl rfl (WO.nil (W.ret (fin.ret (Res.one rfl (RV.tmp rfl)) ?_)))))))
  obtain rfl:x=0:=by omega
  rw [← hg,gcd2_comm,gcd2_zero hy]
theorem c_ratio (w:World) (n d:Int) (hn : -4000000000000000000≤n∧n≤4000000000000000000) (hd:0<d∧d≤4000000000000000000):Ret Tryz.prog 92 [.int .i64 n,.int .i64 d].toArray w (raV (red n d)):=by
 refine Ret.of mixed tyTab Tryz.func92 rfl rfl ?_
 have hg:=gcd2_pos (a:=ab n) hd.1
 have h1:=tdiv_bd hg hn
 have h2:=tdiv_bd hg (n:=d) (by omega)
 refine W.sreg (WO.alloc rfl rfl rfl (fun b1 hb1=>(WO.nil (W.sreg (WO.p rfl rfl (WO.p rfl rfl (WO.callR rfl Tryz.call169 (fun L w hi=>c_common w n d hn hd.1) rfl (WO.p rfl rfl (WO.nil (W.seq ?_))))))))))
 refine W.drawD 6 [.r 0 [],.r 1 [],.r 2 [],.r 3 [],.r 4 [],.r 5 []] [] (A0:=[]) (Sub.refl _) (by kernel_rfl) ?_ ?_
 ·repeat constructor
 refine DT.r rfl rfl rfl (WO.p rfl rfl (WO.nil ⟨rfl,rfl⟩)) (DT.r rfl rfl rfl (WO.p rfl rfl (WO.nil ⟨rfl,rfl⟩)) (DT.r rfl rfl rfl (WO.quo rfl rfl (by omega) (by unfold in64;omega) rfl (WO.nil ⟨rfl,rfl⟩)) (DT.r rfl rfl rfl (WO.p rfl rfl (WO.nil ⟨rfl,rfl⟩)) (DT.r rfl rfl rfl (WO.p rfl rfl (WO.nil ⟨rfl,rfl⟩)) (DT.r rfl rfl rfl (WO.quo rfl rfl (by omega) (by unfold in64;omega) rfl (WO.nil ⟨rfl,rfl⟩)) (DT.nil [_] rfl (WO.build rfl rfl rfl rfl rfl (WO.storeA rfl rfl rfl rfl Pick.head rfl rfl (WO.nil (W.ret ?_))))))))))
 exact fin.ret (Res.one rfl (RV.cell rfl rfl rfl (Cells.own Pick.head))) rfl
theorem c_less (w:World) (a b c d:Int) (h1:in64 (a*d)) (h2:in64 (c*b)):Ret Tryz.prog 159 [.agg #[.int .i64 a,.int .i64 b],.agg #[.int .i64 c,.int .i64 d]].toArray w (.bool (bl (a*d<c*b))):=by
 refine Ret.of mixed tyTab Tryz.func159 rfl rfl (W.sreg (WO.boxA rfl rfl (fun b1 hb1=>(WO.boxA rfl rfl (fun b2 hb2=>(WO.p rfl rfl (WO.nil (W.sreg (WO.field0 rfl rfl rfl (WO.load rfl rfl (Cell.own (Pick.tail (Pick.head)) rfl) rfl (WO.fieldL rfl rfl rfl (WO.load rfl rfl (Cell.own Pick.head rfl) rfl (WO.ar rfl rfl rfl (by (assumption)) rfl (WO.field0 rfl rfl rfl (WO.load rfl rfl (Cell.own Pick.head rfl) rfl (WO.fieldL rfl rfl rfl (WO.load rfl rfl (Cell.own (Pick.tail (Pick.head)) rfl) rfl (WO.ar rfl rfl rfl (by (assumption)) rfl (WO.p rfl rfl (WO.p rfl rfl (WO.nil (W.ret ?_))))))))))))))))))))))
 exact fin.ret (Res.one rfl (RV.tmp rfl)) rfl
end Go.Proofs.YtncjabmlkgacdaaGreat.Sp
namespace Go.Proofs.YtncjabmlkgacdaaGreat.Sp
open Go Go.TH
attribute [local irreducible] W WO pt
set_option maxRecDepth 10000
set_option maxHeartbeats 1000000
def encPr (r:Rn):List Value:=[.int .i64 r.p,.int .i64 r.q,.int .i64 r.lo,.int .i64 r.hi,.int .i64 r.p,.int .i64 r.q,.int .i64 r.lo,.int .i64 (-r.p),.int .i64 (-r.q),.int .i64 (-r.hi)]
theorem encPr_ok:EncOk encPr 10:=⟨fun _=>rfl,fun x u hu=>by simp [encPr] at hu;rcases hu with rfl | rfl | rfl | rfl | rfl | rfl | rfl | rfl | rfl | rfl <;> rfl,by omega⟩
def sds (l:List Rn):List Sd:=l.flatMap fun r=>[loS r,hiS r]
theorem sds_len (l:List Rn):(sds l).length=2*l.length:=by
 induction l with
 | nil=>rfl
 | cons r l ih=>show (_::_::sds l).length=_;simp only [List.length_cons,ih];omega
theorem sds_step {l:List Rn} {i:Nat} (h:i<l.length):sds (l.take i)++[loS (l.getD i rn0),hiS (l.getD i rn0)]=sds (l.take (i+1)):=by
 unfold sds;rw [take_succ_getD h rn0,List.flatMap_append];rfl
theorem sds_ok {l:List Rn} (h:OkRs l):∀ s∈sds l,OkS 20 100000 s:=fun s hs=>by
 obtain ⟨r,hr,hm⟩:=List.mem_flatMap.1 hs
 have:s=loS r∨s=hiS r:=by simpa using hm
 rcases this with rfl | rfl
 ·exact OkS.lo (h r hr)
 ·exact OkS.hi (h r hr)
structure Tbl (B:Nat) (w:World) (p:Addr) (rv sv:Value) (l:List Rn):Prop where
 c:RdC B w p [rv,sv]
 r:RdF encPr 10 B w rv l
 s:RdF encSd 3 B w sv (sds l)
theorem Tbl.later {C:Cx Tryz.prog} {H L:List HP} {w:World} {p:Addr} {rv sv:Value} {l:List Rn} (h:Tbl C.B C.w0 p rv sv l) (hi:Inv C.w0 C.M (L++H) w):Tbl w.heap.size w p rv sv l:=⟨h.c.later hi,h.r.later hi,h.s.later hi⟩
theorem Tbl.agree {B:Nat} {w w':World} {p:Addr} {rv sv:Value} {l:List Rn} (h:Tbl B w p rv sv l) (hk:∀ k,k<B→w'.heap[k]?=w.heap[k]?):Tbl B w' p rv sv l:=⟨h.c.agree hk,h.r.agree hk,h.s.agree hk⟩
theorem Tbl.own {C:Cx Tryz.prog} {H H1 H2 H3 L:List HP} {w:World} {b:Nat} {rv sv:Value} {l:List Rn} (p:Pick (pt b (.cells #[rv,sv] 179 (0,0))) H H1) (q:Pick (OwE encPr 181 10 rv l) H H2) (r:Pick (OwE encSd 96 3 sv (sds l)) H H3) (hi:Inv C.w0 C.M (L++H) w):Tbl w.heap.size w ⟨b,0,none⟩ rv sv l :=
 ⟨RdC.own p hi,RdF.of_ow encPr_ok q hi,RdF.of_ow encSd_ok r hi⟩
theorem isSl_lit {a0:Option Addr} {n c:Nat} (h:n≤9223372036854775807) (h2:0<n→∃ b o,a0=some ⟨b,o,none⟩):IsSl (.slice a0 n c) n:=⟨h,a0,c,rfl,h2⟩
theorem c_newTable (w:World) (v:Value) (l:List Rn) (hR:RdF encRn 4 w.heap.size w v l) (hok:OkRs l) (hl:l.length≤12):Ct Tryz.prog 37 [v].toArray w fun u w'=>∃ Hq,(∃ (b:Nat) (rv sv:Value),u=.pointer (some ⟨b,0,none⟩)∧Hq=[pt b (.cells #[rv,sv] 179 (0,0)),OwE encPr 181 10 rv l,OwE encSd 96 3 sv (sds l)])∧Inv w [] Hq w':=by
 refine Ct.of mixed tyTab Tryz.func37 rfl rfl ?_
 replace hR:RdF encRn 4 (fnCx mixed tyTab Tryz.f37.ntmps w).B (fnCx mixed tyTab Tryz.f37.ntmps w).w0 v l:=hR
 have hle:=hR.sl.le
 refine W.sreg (WO.p rfl rfl (WO.nil (W.sreg (WO.build rfl rfl rfl rfl rfl (WO.boxA rfl rfl (fun b1 hb1=>(WO.p rfl rfl (WO.nil (W.seq (W.sreg (WO.p rfl rfl (WO.len rfl rfl hR.sl rfl (WO.p rfl rfl (WO.nil (W.block (W.chg (owNil (enc:=encSd) (e:=96) (sz:=3)) (W.chg (owNil (enc:=encPr) (e:=181) (sz:=10)) ?_)))))))))))))))))
 refine W.loop3 (fun (i:Nat) (rv:Value) (sv:Value)=>i≤l.length)
  (fun (i:Nat) (rv:Value) (sv:Value)=>[(11,.int .i64 (i:Int)),(10,.int .i64 (l.length:Int)),(9,v),(3,.pointer (some ⟨b1,0,none⟩))])
  (fun (i:Nat) (rv:Value) (sv:Value)=>[pt b1 (.cells #[rv,sv] 179 (0,0)),OwE encPr 181 10 rv (l.take i),OwE encSd 96 3 sv (sds (l.take i))])
  (fun (i:Nat) (rv:Value) (sv:Value)=>l.length-i) 0 (.slice none 0 0) (.slice none 0 0)
  (by omega) ⟨rfl,rfl,rfl,rfl,trivial⟩ (by repeat (first | exact Sub.nil | refine Sub.cons (by repeat first | exact .head | apply Pick.tail) ?_)) ?_
 rintro i rv sv hi0
 refine W.sreg (WO.p rfl rfl (WO.nil (W.seq ?_)))
 refine W.cond_bl rfl (fun c1=>?_) (fun c1=>?_)
 ·refine W.skip (W.seq (W.block (W.sreg (WO.indexAddr rfl rfl rfl hR.sl (by omega) rfl (WO.loadA rfl rfl (RdF.cells4 hR (i:=i) (by omega)) rfl rfl (WO.alloc rfl rfl rfl (fun b2 hb2=>(WO.storeA rfl rfl rfl rfl Pick.head rfl rfl (WO.nil (W.sreg (WO.loadA rfl rfl (Cells.own Pick.head) rfl rfl (WO.callR rfl Tryz.call97 (fun L w hi=>c_newPair w (l.getD i rn0) (hok _ (getD_mem (by omega) rn0))) rfl (WO.alloc rfl rfl rfl (fun b3 hb3=>(WO.storeA rfl rfl rfl rfl Pick.head rfl rfl (WO.nil (W.seq (W.fact (OwE.form (enc:=encPr) (e:=181) (sz:=10) (by repeat first | exact .head | apply Pick.tail)) (fun hf=>?_)))))))))))))))))))
  obtain ⟨fa,fc,rfl⟩:=hf
  refine W.fact (OwE.form (enc:=encSd) (e:=96) (sz:=3) (by repeat first | exact .head | apply Pick.tail)) (fun hf2=>?_)
  obtain ⟨ga,gc,rfl⟩:=hf2
  refine W.drawD 8 [.r 0 [],.r 1 [],.r 2 [],.r 3 [],.b 4 [],.b 5 [],.c 6 [],.c 7 []] [] (A0:=[_]) (H0:=[_,_,_,_]) (.cons (Pick.tail (Pick.tail (Pick.tail .head))) (.cons .head (.cons .head (.cons .head (.cons .head .nil))))) (by kernel_rfl) ?_ ?_
  ·repeat constructor
  refine DT.r rfl rfl rfl (WO.p rfl rfl (WO.nil ⟨rfl,rfl⟩)) (DT.r rfl rfl rfl (WO.p rfl rfl (WO.nil ⟨rfl,rfl⟩)) (DT.r rfl rfl rfl (WO.p rfl rfl (WO.nil ⟨rfl,rfl⟩)) (DT.r rfl rfl rfl (WO.field0 rfl rfl rfl (WO.nil ⟨rfl,rfl⟩)) (DT.b rfl rfl rfl (WO.load rfl rfl (Cell.own (Pick.tail (Pick.tail (Pick.head))) rfl) rfl (WO.nil ⟨rfl,rfl⟩)) (DT.b rfl rfl rfl (WO.loadA rfl rfl (Cells.own Pick.head) rfl rfl (WO.nil ⟨rfl,rfl⟩)) (DT.c [_,_,_,_,_] rfl rfl rfl rfl (WO.buildSl rfl rfl rfl rfl rfl rfl rfl rfl rfl (fun v4=>?_))))))))
  refine WO.nil ⟨_,[_,_],rfl,rfl,(Keep.b (Keep.b (Keep.r (Keep.r (Keep.r (Keep.r Keep.nil)))))),?_⟩
  refine DT.c [_,_,_,_,_,_] rfl rfl rfl rfl ?_
  refine' WO.appendE (enc:=encPr) (m:=1) (ys:=[l.getD i rn0]) encPr_ok rfl rfl rfl rfl rfl (by repeat first | exact .head | apply Pick.tail) (isSl_lit (by omega) (fun _=>⟨_,_,rfl⟩)) (by omega) rfl (OwC.cells .head) (by rw [List.length_take];omega) (by rw [List.length_take];omega) rfl (fun g c=>?_)
  rw [← take_succ_getD (by omega) rn0]
  refine WO.nil ⟨_,[_,_],rfl,rfl,(Keep.c (Keep.b (Keep.b (Keep.r (Keep.r (Keep.r (Keep.r Keep.nil))))))),?_⟩
  refine DT.nil [_,_,_,_,_,_] rfl (WO.p rfl rfl (WO.field0 rfl rfl rfl (WO.store1 rfl rfl rfl (by rfl) (Pick.tail (Pick.tail (Pick.tail (Pick.tail (Pick.head))))) rfl (WO.nil ?_))))
  refine W.drawD 11 [.r 0 [],.r 1 [],.r 2 [],.r 3 [],.b 4 [],.r 5 [],.b 6 [],.r 7 [],.b 8 [],.c 9 [],.c 10 []] [] (A0:=[_]) (H0:=[_,_,_,_,_]) (.cons (Pick.tail (Pick.tail (Pick.tail (Pick.tail (Pick.tail .head))))) (.cons .head (.cons .head (.cons .head (.cons .head (.cons .head .nil)))))) (by kernel_rfl) ?_ ?_
  ·repeat constructor
  refine DT.r rfl rfl rfl (WO.p rfl rfl (WO.nil ⟨rfl,rfl⟩)) (DT.r rfl rfl rfl (WO.p rfl rfl (WO.nil ⟨rfl,rfl⟩)) (DT.r rfl rfl rfl (WO.p rfl rfl (WO.nil ⟨rfl,rfl⟩)) (DT.r rfl rfl rfl (WO.fieldL rfl rfl rfl (WO.nil ⟨rfl,rfl⟩)) (DT.b rfl rfl rfl (WO.load rfl rfl (Cell.own Pick.head rfl) rfl (WO.nil ⟨rfl,rfl⟩)) (DT.r rfl rfl rfl (WO.fieldL rfl rfl rfl (WO.nil ⟨rfl,rfl⟩)) (DT.b rfl rfl rfl (WO.loadA rfl rfl (Cells.ownAt (n:=3) (Pick.tail (Pick.tail (Pick.tail (Pick.head)))) rfl) rfl rfl (WO.nil ⟨rfl,rfl⟩)) (DT.r rfl rfl rfl (WO.fieldL rfl rfl rfl (WO.nil ⟨rfl,rfl⟩)) ?_)))))))
  refine DT.b rfl rfl rfl (WO.loadA rfl rfl (Cells.ownAt (n:=3) (Pick.tail (Pick.tail (Pick.tail (Pick.head)))) rfl) rfl rfl (WO.nil ⟨rfl,rfl⟩)) (DT.c [_,_,_,_,_,_] rfl rfl rfl rfl (WO.buildSl rfl rfl rfl rfl rfl rfl rfl rfl rfl (fun v5=>?_)))
  refine WO.nil ⟨_,[_,_],rfl,rfl,(Keep.b (Keep.r (Keep.b (Keep.r (Keep.b (Keep.r (Keep.r (Keep.r (Keep.r Keep.nil))))))))),?_⟩
  refine DT.c [_,_,_,_,_,_,_] rfl rfl rfl rfl ?_
  refine' WO.appendE (enc:=encSd) (m:=2) (ys:=[loS (l.getD i rn0),hiS (l.getD i rn0)]) encSd_ok rfl rfl rfl rfl rfl (by repeat first | exact .head | apply Pick.tail) (isSl_lit (by omega) (fun _=>⟨_,_,rfl⟩)) (by omega) rfl (OwC.cells .head) (by rw [sds_len,List.length_take];omega) (by rw [sds_len,List.length_take];omega) rfl (fun g c=>?_)
  rw [sds_step (by omega)]
  refine WO.nil ⟨_,[_,_],rfl,rfl,(Keep.c (Keep.b (Keep.r (Keep.b (Keep.r (Keep.b (Keep.r (Keep.r (Keep.r (Keep.r Keep.nil)))))))))),?_⟩
  refine DT.nil [_,_,_,_,_,_,_] rfl (WO.p rfl rfl (WO.fieldL rfl rfl rfl (WO.store1 rfl rfl rfl (by rfl) (Pick.tail (Pick.tail (Pick.head))) rfl (WO.nil (W.region (WO.ar rfl rfl rfl (by unfold in64;omega) rfl (WO.p rfl rfl (WO.nil ?_))))))))
  refine' ⟨i+1,_,_,?hp,?hmu,⟨rfl,rfl,rfl,rfl,trivial⟩,?hS⟩
  case hS=>repeat (first | exact Sub.nil | refine Sub.cons (by repeat first | exact .head | apply Pick.tail) ?_)
  case hp=>omega
  case hmu=>omega
 ·refine W.exit (blk_same ?_)
  obtain rfl:l.length=i:=by omega
  rw [List.take_length]
  refine W.sreg (WO.p rfl rfl (WO.p rfl rfl (WO.nil (W.ret ?_))))
  exact fin.ret (Res.one rfl (RV.tmp rfl)) ⟨b1,rv,sv,rfl,rfl⟩
end Go.Proofs.YtncjabmlkgacdaaGreat.Sp
namespace Go.Proofs.YtncjabmlkgacdaaGreat.Sp
open Go Go.TH
attribute [local irreducible] W WO pt
set_option maxRecDepth 10000
set_option maxHeartbeats 1000000
def seg {β:Type} (lo hi:Nat) (g:Nat→List β):List β:=(List.range (hi-lo)).flatMap fun t=>g (lo+t)
theorem seg_none {β:Type} (lo:Nat) (g:Nat→List β):seg lo lo g=[]:=by unfold seg;simp
theorem seg_succ {β:Type} {lo hi:Nat} (h:lo≤hi) (g:Nat→List β):seg lo (hi+1) g=seg lo hi g++g hi:=by
 unfold seg;rw [show hi+1-lo=(hi-lo)+1 by omega,List.range_succ,List.flatMap_append];simp [show lo+(hi-lo)=hi by omega]
theorem seg_get {β:Type} {lo i t:Nat} {g:Nat→List β} {x:β} (h1:lo≤i) (ht:(g i)[t]?=some x):∀ {hi:Nat},i<hi→(seg lo hi g)[(seg lo i g).length+t]?=some x
 | 0,h=>by omega
 | hi+1,h=>by
  rw [seg_succ (by omega)]
  rcases Nat.lt_or_ge i hi with g1 | g1
  ·have:=seg_get (lo:=lo) h1 ht (hi:=hi) g1
   rw [List.getElem?_append_left (List.getElem?_eq_some_iff.1 this).1];exact this
  ·obtain rfl:i=hi:=by omega
   rw [List.getElem?_append_right (by omega),Nat.add_sub_cancel_left];exact ht
theorem seg_one {β:Type} (lo:Nat) (g:Nat→β):∀ {hi:Nat},lo≤hi→(seg lo hi fun i=>[g i]).length=hi-lo
 | 0,h=>by obtain rfl:lo=0:=(by omega);rw [seg_none];rfl
 | hi+1,h=>by
  rcases Nat.lt_or_ge hi lo with g1 | g1
  ·obtain rfl:lo=hi+1:=(by omega);rw [seg_none];simp
  ·rw [seg_succ g1,List.length_append,seg_one lo g g1];simp;omega
theorem mem_seg {β:Type} {lo hi:Nat} {g:Nat→List β} {x:β}:x∈seg lo hi g↔∃ i,lo≤i∧i<hi∧x∈g i:=by
 unfold seg
 simp only [List.mem_flatMap,List.mem_range]
 constructor
 ·rintro ⟨t,ht,hx⟩;exact ⟨lo+t,by omega,by omega,hx⟩
 ·rintro ⟨i,h1,h2,hx⟩;exact ⟨i-lo,by omega,by rw [show lo+(i-lo)=i by omega];exact hx⟩
def F3 (n a b:Nat):List (List Int):=seg (b+1) n fun c=>[[(a:Int),(b:Int),(c:Int)]]
def F2 (m n a b:Nat):List (List Int):=[(a:Int),(b:Int)]::(if m=3 then F3 n a b else [])
def F1 (m n a:Nat):List (List Int):=[(a:Int)]::seg (a+1) n (F2 m n a)
def grp (m n:Nat):List (List Int):=seg 0 n (F1 m n)
def qa (m n a:Nat):Nat:=(seg 0 a (F1 m n)).length
def qb (m n a b:Nat):Nat:=qa m n a+((seg (a+1) b (F2 m n a)).length+1)
def qc (m n a b c:Nat):Nat:=qb m n a b+((c-(b+1))+1)
theorem ga_get {m n a:Nat} (h:a<n):(grp m n)[qa m n a]?=some [(a:Int)]:=seg_get (lo:=0) (i:=a) (t:=0) (g:=F1 m n) (by omega) rfl h
theorem gb_get {m n a b:Nat} (ha:a<n) (h1:a+1≤b) (h2:b<n):(grp m n)[qb m n a b]?=some [(a:Int),(b:Int)]:=by
 refine seg_get (lo:=0) (i:=a) (g:=F1 m n) (by omega) ?_ ha
 unfold F1
 rw [List.getElem?_cons_succ]
 exact seg_get (lo:=a+1) (i:=b) (t:=0) (g:=F2 m n a) h1 rfl h2
theorem gc_get {n a b c:Nat} (ha:a<n) (h1:a+1≤b) (h2:b<n) (h3:b+1≤c) (h4:c<n):(grp 3 n)[qc 3 n a b c]?=some [(a:Int),(b:Int),(c:Int)]:=by
 have e:qc 3 n a b c=qa 3 n a+((seg (a+1) b (F2 3 n a)).length+((c-(b+1))+1)+1):=by unfold qc qb;omega
 rw [e]
 refine seg_get (lo:=0) (i:=a) (g:=F1 3 n) (by omega) ?_ ha
 unfold F1
 rw [List.getElem?_cons_succ]
 refine seg_get (lo:=a+1) (i:=b) (g:=F2 3 n a) h1 ?_ h2
 unfold F2
 rw [List.getElem?_cons_succ,if_pos rfl]
 have:=seg_get (lo:=b+1) (i:=c) (t:=0) (g:=fun c:Nat=>[[(a:Int),(b:Int),(c:Int)]]) (x:=[(a:Int),(b:Int),(c:Int)]) h3 rfl (hi:=n) h4
 rw [seg_one (b+1) (fun c:Nat=>[(a:Int),(b:Int),(c:Int)]) (by omega)] at this
 exact this
theorem qb_0 (m n a:Nat):qb m n a (a+1)=qa m n a+1:=by unfold qb;rw [seg_none];rfl
theorem qa_succ (m n a:Nat):qa m n (a+1)=qb m n a n:=by unfold qa qb;rw [seg_succ (by omega),List.length_append];rfl
theorem qc_0 (m n a b:Nat):qc m n a b (b+1)=qb m n a b+1:=by unfold qc;omega
theorem qc_succ {m n a b c:Nat} (h:b+1≤c):qc m n a b (c+1)=qc m n a b c+1:=by unfold qc;omega
theorem qb_succ {m n a b c:Nat} (h1:a+1≤b) (hb:b<n) (hm:m=2∨m=3) (hc:(m=2→c=b+1)∧(m=3→c=n)):qb m n a (b+1)=qc m n a b c:=by
 unfold qc qb
 rw [seg_succ (by omega),List.length_append]
 unfold F2
 rw [List.length_cons]
 rcases hm with rfl | rfl
 ·rw [hc.1 rfl,if_neg (by omega)];simp;omega
 ·rw [hc.2 rfl,if_pos rfl];unfold F3;rw [seg_one (b+1) (fun c:Nat=>[(a:Int),(b:Int),(c:Int)]) (by omega)];omega
theorem grp_len (m n:Nat):(grp m n).length=qa m n n:=rfl
theorem c_groups (w:World) (p:Addr) (m:Int):Ct Tryz.prog 98 [.pointer (some p),.int .i64 m].toArray w fun v w'=>∃ Hq,(∃ b1 b2,v=.func (.func 174) #[] #[.pointer (some ⟨b1,0,none⟩),.pointer (some ⟨b2,0,none⟩)] ∧
 Hq=[pt b2 (.cells #[.int .i64 m] 3 (0,0)),pt b1 (.cells #[.pointer (some p)] 100 (0,0))])∧Inv w [] Hq w':=by
 refine Ct.of mixed tyTab Tryz.func98 rfl rfl (W.sreg (WO.box1 rfl (by rfl) rfl (fun b1 hb1=>(WO.box1 rfl (by rfl) rfl (fun b2 hb2=>(WO.p rfl rfl (WO.nil (W.sreg (WO.p rfl rfl (WO.p rfl rfl (WO.nil (W.ret ?_))))))))))))
 exact fin.ret (Res.one rfl (RV.tmp rfl)) ⟨b1,b2,rfl,rfl⟩
theorem c_groups1 (B:Nat) (wr:World) (p:Addr) (rv sv:Value) (rl:List Rn) (hT:Tbl B wr p rv sv rl) (n:Nat) (hn:n=(sds rl).length) (m:Nat) (hm:m=2∨m=3) (hn24:n≤24) (last:Nat) (l:Nat) (Hc:Nat→List HP) (hy:∀ k x v,(grp m n)[k]?=some x→k≤last→YieldB Tryz.prog B wr l #[v] (bl (k<last)) (OwE encI 3 1 v x::Hc k) (Hc (k+1))) (b1 b2:Nat) (w:World) (M':List Nat) (hB:B≤w.heap.size) (hk:∀ k,k<B→w.heap[k]?=wr.heap[k]?) (hM:∀ b∈M',B≤b)
 (hi:Inv w M' ([pt b2 (.cells #[.int .i64 (m:Int)] 3 (0,0)),pt b1 (.cells #[.pointer (some p)] 100 (0,0))]++Hc 0) w) :
 Ct Tryz.prog 174 ([.func (.yield l) #[] #[],.pointer (some ⟨b1,0,none⟩),.pointer (some ⟨b2,0,none⟩)]:List Value).toArray w fun _ w'=>Inv w M' ([pt b2 (.cells #[.int .i64 (m:Int)] 3 (0,0)),pt b1 (.cells #[.pointer (some p)] 100 (0,0))]++Hc (min (grp m n).length (last+1))) w':=by
 refine Iter.of mixed tyTab hB hM Tryz.func174 rfl rfl hi ?_
 have hT2:=hT.agree hk
 have hsv:IsSl sv n:=by rw [hn];exact hT2.s.sl
 refine W.sreg (WO.load rfl rfl (Cell.own (Pick.tail (Pick.head)) rfl) rfl (WO.p rfl rfl (WO.field rfl rfl rfl ?_)))
 refine' WO.load (v:=_) rfl rfl ?hc rfl ?_
 case hc=>((refine RdC.cellAt hT2.c (j:=1) ?_;rfl))
 refine WO.len rfl rfl hsv rfl (WO.p rfl rfl (WO.nil (W.sreg (WO.p rfl rfl (WO.p rfl rfl (WO.nil (W.block ?_)))))))
 rw [show Hc 0=Hc (qa m n 0) by rw [show qa m n 0=0 from rfl]]
 refine W.loop (fun (a:Nat)=>a≤n∧qa m n a≤last)
  (fun (a:Nat)=>[(14,.int .i64 (a:Int)),(13,.int .i64 (n:Int)),(4,.int .i64 (n:Int)),(0,.func (.yield l) #[] #[]),(1,.pointer (some ⟨b1,0,none⟩)),(2,.pointer (some ⟨b2,0,none⟩))])
  (fun (a:Nat)=>[pt b1 (.cells #[.pointer (some p)] 100 (0,0)),pt b2 (.cells #[.int .i64 (m:Int)] 3 (0,0)),sat (Hc (qa m n a))])
  (fun (a:Nat)=>n-a) 0
  (by exact ⟨by omega,by show qa m n 0≤last;exact Nat.zero_le _⟩) ⟨rfl,rfl,rfl,rfl,rfl,rfl,trivial⟩ (by repeat (first | exact Sub.nil | refine Sub.cons (by repeat first | exact .head | apply Pick.tail) ?_)) ?_
 rintro a ⟨ha,hal⟩
 refine W.sreg (WO.p rfl rfl (WO.nil (W.seq ?_)))
 refine W.cond_bl rfl (fun c1=>?_) (fun c1=>?_)
 ·refine W.skip (W.seq (W.block (W.sreg (WO.p rfl rfl (WO.p rfl rfl (WO.nil (W.seq (W.sreg (WO.p rfl rfl (WO.p rfl rfl (WO.buildSl rfl rfl rfl rfl rfl rfl rfl rfl rfl (fun v1=>(WO.yieldB (go:=bl (qa m n a<last)) rfl rfl (by repeat exact .head) (by repeat first | exact .head | apply Pick.tail) (((hy _ _ _ (ga_get (by omega)) (by omega)).one).agree hk) rfl ?_)))))))))))))
  have hget:=(List.getElem?_eq_some_iff.1 (ga_get (by omega):(grp m n)[qa m n a]?=some _)).1
  refine WO.p rfl rfl (WO.nil ?_)
  refine W.cond_nbl rfl (fun c2=>?_) (fun c2=>?_)
  ·refine W.ret (fin.ret (Res.none rfl) ?_)
   rw [show min (grp m n).length (last+1)=qa m n a+1 by omega]
   repeat (first | exact Sub.nil | refine Sub.cons (by repeat first | exact .head | apply Pick.tail) ?_)
  ·refine W.skip (W.sreg (WO.p rfl rfl (WO.ar rfl rfl rfl (by unfold in64;omega) rfl (WO.p rfl rfl (WO.nil (W.block ?_))))))
   rw [show qa m n a+1=qb m n a (a+1) from (qb_0 m n a).symm]
   refine W.loop (fun (b:Nat)=>a+1≤b∧b≤n∧qb m n a b≤last)
    (fun (b:Nat)=>[(14,.int .i64 (a:Int)),(13,.int .i64 (n:Int)),(4,.int .i64 (n:Int)),(5,.int .i64 (a:Int)),(6,.int .i64 (b:Int)),(0,.func (.yield l) #[] #[]),(1,.pointer (some ⟨b1,0,none⟩)),(2,.pointer (some ⟨b2,0,none⟩))])
    (fun (b:Nat)=>[pt b1 (.cells #[.pointer (some p)] 100 (0,0)),pt b2 (.cells #[.int .i64 (m:Int)] 3 (0,0)),sat (Hc (qb m n a b))])
    (fun (b:Nat)=>n-b) (a+1)
    (by exact ⟨by omega,by omega,by rw [qb_0];omega⟩) ⟨rfl,rfl,rfl,rfl,rfl,rfl,rfl,rfl,trivial⟩ (by repeat (first | exact Sub.nil | refine Sub.cons (by repeat first | exact .head | apply Pick.tail) ?_)) ?_
   rintro b ⟨hb1,hb2,hbl⟩
   refine W.seq (W.sreg (WO.p rfl rfl (WO.p rfl rfl (WO.p rfl rfl (WO.p rfl rfl ?_)))))
   refine WO.guard_bl rfl rfl (fun c3=>?_) (fun c3=>?_)
   ·refine WO.go' rfl (WO.load rfl rfl (Cell.own (Pick.tail (Pick.head)) rfl) rfl (WO.pg rfl rfl rfl (WO.p rfl rfl (WO.nil ?_))))
    refine W.cond_bl rfl (fun c4=>?_) (fun c4=>?_)
    ·refine W.skip (W.seq (W.block (W.seq (W.sreg (WO.p rfl rfl (WO.p rfl rfl (WO.p rfl rfl (WO.buildSl rfl rfl rfl rfl rfl rfl rfl rfl rfl (fun v2=>(WO.yieldB (go:=bl (qb m n a b<last)) rfl rfl (by repeat exact .head) (by repeat first | exact .head | apply Pick.tail) (((hy _ _ _ (gb_get (by omega) (by omega) (by omega)) (by omega)).one).agree hk) rfl ?_))))))))))
     have hget:=(List.getElem?_eq_some_iff.1 (gb_get (by omega) (by omega) (by omega):(grp m n)[qb m n a b]?=some _)).1
     refine WO.p rfl rfl (WO.nil ?_)
     refine W.cond_nbl rfl (fun c5=>?_) (fun c5=>?_)
     ·refine W.ret (fin.ret (Res.none rfl) ?_)
      rw [show min (grp m n).length (last+1)=qb m n a b+1 by omega]
      repeat (first | exact Sub.nil | refine Sub.cons (by repeat first | exact .head | apply Pick.tail) ?_)
     ·refine W.skip (W.sreg (WO.p rfl rfl (WO.ar rfl rfl rfl (by unfold in64;omega) rfl (WO.p rfl rfl (WO.nil (W.block ?_))))))
      rw [show qb m n a b+1=qc m n a b (b+1) from (qc_0 m n a b).symm]
      refine W.loop (fun (c:Nat)=>b+1≤c∧c≤n∧(m=2→c=b+1)∧qc m n a b c≤last)
       (fun (c:Nat)=>[(14,.int .i64 (a:Int)),(13,.int .i64 (n:Int)),(4,.int .i64 (n:Int)),(5,.int .i64 (a:Int)),(6,.int .i64 (b:Int)),(7,.int .i64 (c:Int)),(0,.func (.yield l) #[] #[]),(1,.pointer (some ⟨b1,0,none⟩)),(2,.pointer (some ⟨b2,0,none⟩))])
       (fun (c:Nat)=>[pt b1 (.cells #[.pointer (some p)] 100 (0,0)),pt b2 (.cells #[.int .i64 (m:Int)] 3 (0,0)),sat (Hc (qc m n a b c))])
       (fun (c:Nat)=>n-c) (b+1)
       (by exact ⟨by omega,by omega,fun _=>rfl,by rw [qc_0];omega⟩) ⟨rfl,rfl,rfl,rfl,rfl,rfl,rfl,rfl,rfl,trivial⟩ (by repeat (first | exact Sub.nil | refine Sub.cons (by repeat first | exact .head | apply Pick.tail) ?_)) ?_
      rintro c ⟨hc1,hc2,hc3,hcl⟩
      refine W.seq (W.sreg (WO.p rfl rfl (WO.p rfl rfl (WO.p rfl rfl (WO.p rfl rfl ?_)))))
      refine WO.guard_bl rfl rfl (fun c6=>?_) (fun c6=>?_)
      ·refine WO.go' rfl (WO.load rfl rfl (Cell.own (Pick.tail (Pick.head)) rfl) rfl (WO.pg rfl rfl rfl (WO.p rfl rfl (WO.nil ?_))))
       refine W.cond_bl rfl (fun c7=>?_) (fun c7=>?_)
       ·refine W.skip (W.seq (W.block (W.sreg (WO.p rfl rfl (WO.p rfl rfl (WO.p rfl rfl (WO.p rfl rfl (WO.buildSl rfl rfl rfl rfl rfl rfl rfl rfl rfl (fun v3=>?_)))))))))
        obtain rfl:m=3:=by omega
        refine WO.yieldB (go:=bl (qc 3 n a b c<last)) rfl rfl (by repeat exact .head) (by repeat first | exact .head | apply Pick.tail) (((hy _ _ _ (gc_get (by omega) (by omega) (by omega) (by omega) (by omega)) (by omega)).one).agree hk) rfl ?_
        have hget:=(List.getElem?_eq_some_iff.1 (gc_get (by omega) (by omega) (by omega) (by omega) (by omega):(grp 3 n)[qc 3 n a b c]?=some _)).1
        refine WO.p rfl rfl (WO.nil ?_)
        refine W.cond_nbl rfl (fun c8=>?_) (fun c8=>?_)
        ·refine W.ret (fin.ret (Res.none rfl) ?_)
         rw [show min (grp 3 n).length (last+1)=qc 3 n a b c+1 by omega]
         repeat (first | exact Sub.nil | refine Sub.cons (by repeat first | exact .head | apply Pick.tail) ?_)
        ·refine W.skip ?_
         rw [← qc_succ (by omega)]
         have hnx3:qc 3 n a b (c+1)≤last:=by rw [qc_succ (by omega)];omega
         refine W.region (WO.p rfl rfl (WO.ar rfl rfl rfl (by unfold in64;omega) rfl (WO.p rfl rfl (WO.nil ?_))))
         refine' ⟨c+1,?hp,?hmu,⟨rfl,rfl,rfl,rfl,rfl,rfl,rfl,rfl,rfl,trivial⟩,?hS⟩
         case hS=>repeat (first | exact Sub.nil | refine Sub.cons (by repeat first | exact .head | apply Pick.tail) ?_)
         case hp=>exact ⟨by omega,by omega,fun q=>by omega,hnx3⟩
         case hmu=>omega
       ·refine W.exit (blk_same ?_)
        rw [← qb_succ (by omega) (by omega) hm ⟨hc3,fun q=>by omega⟩] at hcl ⊢
        have hnx2:=hcl
        refine W.region (WO.p rfl rfl (WO.ar rfl rfl rfl (by unfold in64;omega) rfl (WO.p rfl rfl (WO.nil ?_))))
        refine' ⟨b+1,?hp,?hmu,⟨rfl,rfl,rfl,rfl,rfl,rfl,rfl,rfl,trivial⟩,?hS⟩
        case hS=>repeat (first | exact Sub.nil | refine Sub.cons (by repeat exact .head) ?_)
        case hp=>exact ⟨by omega,by omega,hnx2⟩
        case hmu=>omega
      ·refine WO.no rfl rfl (WO.no rfl rfl (WO.p rfl rfl (WO.nil (W.cond_f rfl (W.exit (blk_same ?_))))))
       rw [← qb_succ (by omega) (by omega) hm ⟨hc3,fun q=>by omega⟩] at hcl ⊢
       have hnx2:=hcl
       refine W.region (WO.p rfl rfl (WO.ar rfl rfl rfl (by unfold in64;omega) rfl (WO.p rfl rfl (WO.nil ?_))))
       refine' ⟨b+1,?hp,?hmu,⟨rfl,rfl,rfl,rfl,rfl,rfl,rfl,rfl,trivial⟩,?hS⟩
       case hS=>repeat (first | exact Sub.nil | refine Sub.cons (by repeat exact .head) ?_)
       case hp=>exact ⟨by omega,by omega,hnx2⟩
       case hmu=>omega
    ·exfalso;omega
   ·refine WO.no rfl rfl (WO.no rfl rfl (WO.p rfl rfl (WO.nil (W.cond_f rfl (W.exit (blk_same ?_))))))
    obtain rfl:n=b:=by omega
    rw [← qa_succ] at hbl ⊢
    have hnx:=hbl
    refine W.region (WO.ar rfl rfl rfl (by unfold in64;omega) rfl (WO.p rfl rfl (WO.nil ?_)))
    refine' ⟨a+1,?hp,?hmu,⟨rfl,rfl,rfl,rfl,rfl,rfl,trivial⟩,?hS⟩
    case hS=>repeat (first | exact Sub.nil | refine Sub.cons (by repeat exact .head) ?_)
    case hp=>exact ⟨by omega,hnx⟩
    case hmu=>omega
 ·refine W.exit (blk_same ?_)
  obtain rfl:n=a:=by omega
  refine fin.normal (Res.none rfl) ?_
  rw [grp_len,show min (qa m n n) (last+1)=qa m n n by omega]
  repeat (first | exact Sub.nil | refine Sub.cons (by repeat first | exact .head | apply Pick.tail) ?_)
end Go.Proofs.YtncjabmlkgacdaaGreat.Sp
namespace Go.Proofs.YtncjabmlkgacdaaGreat.Sp
open Go Go.TH
attribute [local irreducible] W WO pt
set_option maxRecDepth 10000
set_option maxHeartbeats 1000000
def tkE (g ys:List Int) (i:Nat):MapEntry:={ key:=.int .i64 (g.getD i 0),val:=.int .i64 (ys.getD i 0),born:=i }
def tkL (g ys:List Int) (n:Nat):List MapEntry:=(List.range n).map (tkE g ys)
theorem tkL_push (g ys:List Int) (n:Nat):(tkL g ys n).toArray.push { key:=.int .i64 (g.getD n 0),val:=.int .i64 (ys.getD n 0),born:=n }=(tkL g ys (n+1)).toArray:=by
 unfold tkL;rw [List.range_succ,List.map_append];simp [tkE]
theorem find_none {k:Int}:∀ (es:List MapEntry) (i:Nat),(∀ e∈es,∃ z,e.key=.int .i64 z∧z≠k)→Instr.findNow (.int .i64) (.int .i64 k) es i=some none
 | [],i,_=>rfl
 | e::r,i,h=>by
  obtain ⟨z,hz,hn⟩:=h e (by simp)
  have e2:(k==z)=false:=by simp;omega
  have ih:=find_none r (i+1) (fun e he=>h e (by simp [he]))
  rw [← ih]
  obtain ⟨kk,vv,bb⟩:=e
  simp only at hz
  subst hz
  simp only [Instr.findNow,Instr.sameNow,if_true,e2]
theorem tkL_none {g ys:List Int} (hg:g.Nodup) {n:Nat} (h:n<g.length):Instr.findNow (.int .i64) (.int .i64 (g.getD n 0)) (tkL g ys n).toArray.toList 0=some none:=by
 refine find_none _ _ (fun e he=>?_)
 have he':e∈(List.range n).map (tkE g ys):=he
 obtain ⟨j,hj,rfl⟩:=List.mem_map.1 he'
 have hj':=List.mem_range.1 hj
 refine ⟨_,rfl,fun q=>?_⟩
 have h1:g.getD j 0=g[j]:=by simp [show j<g.length by omega]
 have h2:g.getD n 0=g[n]:=by simp [h]
 rw [h1,h2] at q
 have:=(List.getElem_inj hg).1 q
 omega
def tkS (S:List Sd) (g ys:List Int):Nat→Sd
 | 0=>sd0
 | i+1=>addS (tkS S g ys i) (byS (S.getD (g.getD i 0).toNat sd0) (ys.getD i 0))
theorem tkS_bd {S:List Sd} (hS:∀ s∈S,OkS 20 100000 s) {g ys:List Int} (hg:∀ x∈g,0≤x∧x<S.length) (hy:∀ y∈ys,-1000≤y∧y≤1000) (hl:ys.length=g.length):∀ {i:Nat},i≤g.length→OkS (100000000*i) (100000000*i) (tkS S g ys i)
 | 0,_=>⟨by simp [tkS,sd0],by simp [tkS,sd0],by simp [tkS,sd0]⟩
 | i+1,h=>by
  have h1:=tkS_bd hS hg hy hl (i:=i) (by omega)
  have hx:=hg _ (getD_mem (show i<g.length by omega) 0)
  have h2:=(hS _ (getD_mem (show (g.getD i 0).toNat<S.length by omega) sd0)).by_ (hy _ (getD_mem (show i<ys.length by omega) 0))
  have e:(100000000:Int)*((i+1:Nat):Int)=100000000*i+100000000:=by omega
  rw [e]
  obtain ⟨a1,a2,a3⟩:=h1
  obtain ⟨b1,b2,b3⟩:=h2
  exact ⟨by show _≤_+_∧_+_≤_;omega,by show _≤_+_∧_+_≤_;omega,by show _≤_+_∧_+_≤_;omega⟩
abbrev mdV (m:Value) (s:Sd) (t:Int):Value:=.agg #[m,.int .i64 s.a,.int .i64 s.b,.int .i64 s.c,.int .i64 t]
theorem all_twoS {A:Int} {s o:Sd} (h:OkS A A s) (g:OkS A A o):∀ x∈[s,o],OkS A A x:=fun x hx=>by
 have:x=s∨x=o:=by simpa using hx
 rcases this with rfl | rfl
 ·exact h
 ·exact g
theorem addS_two (s o:Sd):sumS [s,o]=addS s o:=by
 unfold sumS addS sd0;simp
theorem RdF.cellsT {C:Cx Tryz.prog} {H:List HP} {o:Value} {S:List Sd} (h:RdF encSd 3 C.B C.w0 o S) {x:Int} (h0:0≤x) (h1:x<S.length) {z:Int} (hz:z=x):Cells C H (elt o z.toNat 3) [.int .i64 (S.getD x.toNat sd0).a,.int .i64 (S.getD x.toNat sd0).b,.int .i64 (S.getD x.toNat sd0).c]:=by
 subst hz
 exact RdF.cells3 h (by omega)
theorem c_take (w:World) (p:Addr) (rv sv:Value) (rl:List Rn) (hT:Tbl w.heap.size w p rv sv rl) (hok:OkRs rl) (o u:Value) (g ys:List Int) (t:Int) (hG:RdF encI 1 w.heap.size w o g) (hY:RdF encI 1 w.heap.size w u ys) (hg:∀ x∈g,0≤x∧x<(sds rl).length) (hnd:g.Nodup) (hl:ys.length=g.length) (h3:g.length≤3) (hy:∀ y∈ys,-1000≤y∧y≤1000) :
 Ct Tryz.prog 176 [.pointer (some p),o,.int .i64 t,u].toArray w fun v w'=>∃ Hq,(∃ mb:Nat,v=mdV (.map (some mb)) (tkS (sds rl) g ys g.length) t∧Hq=[pt mb (.map (tkL g ys g.length).toArray g.length)])∧Inv w [] Hq w':=by
 refine Ct.ofI mixed tyTab Tryz.func176 rfl rfl ?_
 replace hG:RdF encI 1 (fnCx mixed tyTab Tryz.f176.ntmps w).B (fnCx mixed tyTab Tryz.f176.ntmps w).w0 o g:=hG
 replace hY:RdF encI 1 (fnCx mixed tyTab Tryz.f176.ntmps w).B (fnCx mixed tyTab Tryz.f176.ntmps w).w0 u ys:=hY
 replace hT:Tbl (fnCx mixed tyTab Tryz.f176.ntmps w).B (fnCx mixed tyTab Tryz.f176.ntmps w).w0 p rv sv rl:=hT
 have hS:=sds_ok hok
 refine W.sreg (WO.alloc rfl rfl rfl (fun b1 hb1=>(WO.nil (W.sreg (WO.makeMap rfl (fun mb=>(WO.build rfl rfl rfl rfl rfl (WO.p rfl rfl (WO.build rfl rfl rfl rfl rfl (WO.alloc rfl rfl rfl (fun b2 hb2=>(WO.storeA rfl rfl rfl rfl Pick.head rfl rfl (WO.nil (W.seq (W.sreg (WO.p rfl rfl (WO.len rfl rfl hG.sl rfl (WO.p rfl rfl (WO.nil (W.block ?_))))))))))))))))))))
 refine W.loop (fun (i:Nat)=>i≤g.length)
  (fun (i:Nat)=>[(18,.int .i64 (i:Int)),(17,.int .i64 (g.length:Int)),(16,o),(9,.pointer (some ⟨b2,0,none⟩)),(8,.pointer (some ⟨b1,0,none⟩)),(3,u),(0,.pointer (some p))])
  (fun (i:Nat)=>[pt b1 (.cells #[.map none,.int .i64 0,.int .i64 0,.int .i64 0,.int .i64 0] 98 (0,0)),pt b2 (.cells #[.map (some mb),.int .i64 (tkS (sds rl) g ys i).a,.int .i64 (tkS (sds rl) g ys i).b,.int .i64 (tkS (sds rl) g ys i).c,.int .i64 t] 98 (0,0)),pt mb (.map (tkL g ys i).toArray i)])
  (fun (i:Nat)=>g.length-i) 0
  (by omega) ⟨rfl,rfl,rfl,rfl,rfl,rfl,rfl,trivial⟩ (by repeat (first | exact Sub.nil | refine Sub.cons (by repeat first | exact .head | apply Pick.tail) ?_)) ?_
 rintro i hi0
 refine W.sreg (WO.p rfl rfl (WO.nil (W.seq ?_)))
 refine W.cond_bl rfl (fun c1=>?_) (fun c1=>?_)
 ·refine W.skip (W.seq (W.block (W.sreg (WO.p rfl rfl (WO.indexAddr rfl rfl rfl hG.sl (by omega) rfl ?_)))))
  refine' WO.load (v:=_) rfl rfl ?hc rfl ?_
  case hc=>((refine hG.cell0 (i:=i) (by omega) 0 ?_;rfl))
  refine WO.p rfl rfl (WO.p rfl rfl (WO.nil (W.seq ?_)))
  have hgi:=hg _ (getD_mem (show i<g.length by omega) 0)
  have hyi:=hy _ (getD_mem (show i<ys.length by omega) 0)
  have hsi:=hS _ (getD_mem (show (g.getD i 0).toNat<(sds rl).length by omega) sd0)
  have hbi:=(OkS.by_ hsi hyi).up (A':=1000000000000000) (B':=1000000000000000) (by omega) (by omega)
  have hti:=(tkS_bd hS hg hy hl (i:=i) (by omega)).up (A':=1000000000000000) (B':=1000000000000000) (by omega) (by omega)
  refine W.drawD 7 [.r 0 [],.b 1 [],.r 2 [],.r 3 [],.r 4 [],.r 5 [],.b 6 []] [] (A0:=[_]) (H0:=[_,_]) (.cons (Pick.tail (Pick.tail .head)) (.cons .head (.cons .head .nil))) (by kernel_rfl) ?_ ?_
  ·repeat constructor
  refine DT.r rfl rfl rfl (WO.field0 rfl rfl rfl (WO.nil ⟨rfl,rfl⟩)) (DT.b rfl rfl rfl (WO.load rfl rfl (Cell.own (Pick.tail (Pick.head)) rfl) rfl (WO.nil ⟨rfl,rfl⟩)) (DT.r rfl rfl rfl (WO.p rfl rfl (WO.nil ⟨rfl,rfl⟩)) (DT.r rfl rfl rfl (WO.p rfl rfl (WO.nil ⟨rfl,rfl⟩)) (DT.r rfl rfl rfl (WO.p rfl rfl (WO.nil ⟨rfl,rfl⟩)) (DT.r rfl rfl rfl (WO.indexAddr rfl rfl rfl hY.sl (by omega) rfl (WO.nil ⟨rfl,rfl⟩)) ?_)))))
  refine' DT.b rfl rfl rfl ?hq ?_
  case hq =>
   refine' WO.load (v:=_) rfl rfl ?hc rfl ?_
   case hc=>((refine hY.cell0 (i:=i) (by omega) 0 ?_;rfl))
   exact WO.nil ⟨rfl,rfl⟩
  refine DT.nil [_,_,_] rfl (WO.updateI Tryz.underlying94 Tryz.underlying3 rfl rfl rfl (by repeat exact .head) (tkL_none hnd (by omega)) ?_)
  rw [tkL_push]
  refine WO.nil ?_
  refine W.drawD 14 [.r 0 [],.b 1 [],.r 2 [],.r 3 [],.r 4 [],.b 5 [],.r 6 [],.r 7 [],.b 8 [],.r 9 [],.r 10 [],.r 11 [],.b 12 [],.b 13 []] [] (A0:=[]) (Sub.refl _) (by kernel_rfl) ?_ ?_
  ·repeat constructor
  refine DT.r rfl rfl rfl (WO.fieldL rfl rfl rfl (WO.nil ⟨rfl,rfl⟩)) (DT.b rfl rfl rfl (WO.loadA rfl rfl (Cells.ownAt (n:=3) (Pick.tail (Pick.tail (Pick.head))) rfl) rfl rfl (WO.nil ⟨rfl,rfl⟩)) (DT.r rfl rfl rfl (WO.p rfl rfl (WO.nil ⟨rfl,rfl⟩)) (DT.r rfl rfl rfl (WO.p rfl rfl (WO.nil ⟨rfl,rfl⟩)) (DT.r rfl rfl rfl (WO.field rfl rfl rfl (WO.nil ⟨rfl,rfl⟩)) ?_))))
  refine' DT.b rfl rfl rfl ?hq ?_
  case hq =>
   refine' WO.load (v:=_) rfl rfl ?hc rfl ?_
   case hc=>((refine RdC.cellAt hT.c (j:=1) ?_;rfl))
   exact WO.nil ⟨rfl,rfl⟩
  refine DT.r rfl rfl rfl (WO.p rfl rfl (WO.nil ⟨rfl,rfl⟩)) ?_
  refine' DT.r rfl rfl rfl ?hq ?_
  case hq =>
   refine' WO.indexAddrZ (n:=_) rfl rfl rfl ?hs ?h00 ?h1 rfl ?_
   case hs=>exact hT.s.sl
   case h00=>omega
   case h1=>(omega)
   exact WO.nil ⟨rfl,rfl⟩
  refine DT.b rfl rfl rfl (WO.loadA rfl rfl (RdF.cellsT hT.s hgi.1 hgi.2 rfl) rfl rfl (WO.nil ⟨rfl,rfl⟩)) (DT.r rfl rfl rfl (WO.p rfl rfl (WO.nil ⟨rfl,rfl⟩)) (DT.r rfl rfl rfl (WO.p rfl rfl (WO.nil ⟨rfl,rfl⟩)) (DT.r rfl rfl rfl (WO.indexAddr rfl rfl rfl hY.sl (by omega) rfl (WO.nil ⟨rfl,rfl⟩)) ?_)))
  refine' DT.b rfl rfl rfl ?hq ?_
  case hq =>
   refine' WO.load (v:=_) rfl rfl ?hc rfl ?_
   case hc=>((refine hY.cell0 (i:=i) (by omega) 0 ?_;rfl))
   exact WO.nil ⟨rfl,rfl⟩
  refine DT.b rfl rfl rfl (WO.callR rfl Tryz.call154 (fun L w hi=>c_by w ((sds rl).getD (g.getD i 0).toNat sd0) (ys.getD i 0) (hsi.up (by omega) (by omega)) (by omega)) rfl (WO.nil ⟨rfl,rfl⟩)) (DT.nil [_,_,_] rfl (WO.buildSl rfl rfl rfl rfl rfl rfl rfl rfl rfl (fun v3=>(WO.callR (r:=sdV (tkS (sds rl) g ys (i+1))) rfl Tryz.call153 (fun L w hi=>by have h:=c_sum w _ [tkS (sds rl) g ys i,byS ((sds rl).getD (g.getD i 0).toNat sd0) (ys.getD i 0)] (RdF.of_ow (e:=96) encSd_ok (by repeat exact .head) hi) (by simp) (all_twoS hti hbi);rw [addS_two] at h;exact h) rfl ?_))))
  refine WO.fieldL rfl rfl rfl (WO.storeP rfl rfl rfl rfl (Pick.tail (Pick.tail (Pick.tail (Pick.head)))) (Nat.le_of_ble_eq_true rfl) rfl (WO.nil (W.region (WO.ar rfl rfl rfl (by unfold in64;omega) rfl (WO.p rfl rfl (WO.nil ?_))))))
  refine' ⟨i+1,?hp,?hmu,⟨rfl,rfl,rfl,rfl,rfl,rfl,rfl,trivial⟩,?hS⟩
  case hS=>repeat (first | exact Sub.nil | refine Sub.cons (by repeat first | exact .head | apply Pick.tail) ?_)
  case hp=>omega
  case hmu=>omega
 ·refine W.exit (blk_same ?_)
  obtain rfl:g.length=i:=by omega
  refine W.sreg (WO.loadA rfl rfl (Cells.own (Pick.tail (Pick.head))) rfl rfl (WO.storeA rfl rfl rfl rfl Pick.head rfl rfl (WO.nil (W.ret ?_))))
  refine fin.ret (Res.one rfl (RV.cell rfl rfl rfl (Cells.own (by repeat exact .head)))) ⟨mb,rfl,fun h hs=>Sub.sat (by repeat (first | exact Sub.nil | refine Sub.cons (by repeat first | exact .head | apply Pick.tail) ?_)) hs⟩
end Go.Proofs.YtncjabmlkgacdaaGreat.Sp
namespace Go.Proofs.YtncjabmlkgacdaaGreat.Sp
open Go Go.TH
attribute [local irreducible] W WO pt
set_option maxRecDepth 10000
set_option maxHeartbeats 1000000
section
variable {P:Program} {C:Cx P} {E:Env} {H:List HP}
variable {ops:Array Oper} {K:KP} {rest:List Oper} {d:Nat} {ty:TypeId} {pos:String} {af:Array Edge} {x y z:Operand} {T:TypeId}
theorem WO.max3 {a b c:Int} {ts:Array TypeId} (hx:ev E x=some (.int .i64 a)) (hy:ev E y=some (.int .i64 b)) (hz:ev E z=some (.int .i64 c)) (hN:Nat.blt d C.N=true)
 (h:WO C ops rest K ((d,.int .i64 (max (max a b) c))::E) H):WO C ops (⟨some d,.call ⟨.builtin .max,#[x,y,z],ts⟩,ty,pos,af,none⟩::rest) K E H :=
 WO.pure _ (by simp) (fun L c w hf _=>by
  simp [execOp,resolve,hf.eval hx,hf.eval hy,hf.eval hz,invoke,builtin,run_max_int3]
  split <;> split <;> omega) hN h
theorem WO.min3 {a b c:Int} {ts:Array TypeId} (hx:ev E x=some (.int .i64 a)) (hy:ev E y=some (.int .i64 b)) (hz:ev E z=some (.int .i64 c)) (hN:Nat.blt d C.N=true)
 (h:WO C ops rest K ((d,.int .i64 (min (min a b) c))::E) H):WO C ops (⟨some d,.call ⟨.builtin .min,#[x,y,z],ts⟩,ty,pos,af,none⟩::rest) K E H :=
 WO.pure _ (by simp) (fun L c w hf _=>by
  simp [execOp,resolve,hf.eval hx,hf.eval hy,hf.eval hz,invoke,builtin,run_min_int3]
  split <;> split <;> omega) hN h
end
theorem eq124 (a b c d e f:Int):EqT Tryz.prog .eql 96 (.agg #[.int .i64 a,.int .i64 b,.int .i64 c]) (.agg #[.int .i64 d,.int .i64 e,.int .i64 f]) (.bool (bl (a=d∧b=e∧c=f))):=by
 intro x y w
 obtain ⟨i,hi⟩:∃ i,Tryz.prog.info? 2=some i:=⟨_,rfl⟩
 have hc:Tryz.prog.cellsOf 2=1:=rfl
 have h:(Op.equalIn 10000 96 (.agg #[.int .i64 a,.int .i64 b,.int .i64 c]) (.agg #[.int .i64 d,.int .i64 e,.int .i64 f])).run Tryz.prog w=.ok (bl (a=d∧b=e∧c=f)) w:=by
  rw [show (10000:Nat)=9999+1 from rfl,run_equalIn_array _ 9999 (t:=96) (e:=2) (n:=3) _ _ rfl hi,hc]
  simp [Op.eqItems,go_sem,List.range,List.range.loop,Tryz.underlying2]
  by_cases h1:a=d <;> by_cases h2:b=e <;> by_cases h3:c=f <;> simp [h1,h2,h3,bl_eq]
 simp [go_sem,Tryz.eqGuardType96,Tryz.underlying96,h]
theorem eq124z (a b:Int):EqT Tryz.prog .eql 96 (.agg #[.int .i64 a,.int .i64 b,.int .i64 0]) (.agg #[.int .i64 0,.int .i64 0,.int .i64 0]) (.bool (bl (a=0∧b=0))):=by
 have h:=eq124 a b 0 0 0 0
 rwa [show bl (a=0∧b=0∧(0:Int)=0)=bl (a=0∧b=0) by rw [bl_eq,bl_eq,decide_eq_decide];simp] at h
abbrev atS (S:List Sd) (g:List Int) (i:Nat):Sd:=S.getD (g.getD i 0).toNat sd0
def fit2 (a b:Sd) (x y:Int):Prop:=crs a b=0∧(addS (byS a x) (byS b y)).a=0∧(addS (byS a x) (byS b y)).b=0
instance (a b:Sd) (x y:Int):Decidable (fit2 a b x y):=by unfold fit2;infer_instance
def zr2 (a b:Sd):Option (List Int):=if fit2 a b (siz b) (siz a) then some [siz b,siz a] else none
def zr3 (a b c:Sd):Option (List Int) :=
 let x:=crs b c
 let y:=crs c a
 let z:=crs a b
 if max (max x y) z<0 then (if 0<min (min (-x) (-y)) (-z) then some [-x,-y,-z] else none)
 else (if 0<min (min x y) z then some [x,y,z] else none)
def zrY (S:List Sd) (g:List Int):Option (List Int) :=
 if g.length=2 then zr2 (atS S g 0) (atS S g 1) else if g.length=3 then zr3 (atS S g 0) (atS S g 1) (atS S g 2) else none
theorem zrY_len {S:List Sd} {g ys:List Int} (h:zrY S g=some ys):ys.length=g.length:=by
 unfold zrY at h
 split at h
 ·rename_i h2
  unfold zr2 at h
  split at h
  ·cases h;exact h2.symm
  ·cases h
 ·split at h
  ·rename_i h3
   unfold zr3 at h
   dsimp only at h
   split at h
   ·split at h
    ·cases h;exact h3.symm
    ·cases h
   ·split at h
    ·cases h;exact h3.symm
    ·cases h
  ·cases h
def zrP (g:List Int) (o:Option (List Int)) (mb:Nat):HP:=fun h=>∀ ys,o=some ys→pt mb (.map (tkL g ys g.length).toArray g.length) h
theorem zrP_some {g ys:List Int} {mb:Nat} {H H':List HP} (p:Pick (pt mb (.map (tkL g ys g.length).toArray g.length)) H H'):∀ h,sat H h→sat (zrP g (some ys) mb::H') h:=fun h hs=>by
 obtain ⟨h1,h2,s,hp,hr⟩:=p.sat hs
 exact ⟨h1,h2,s,fun ys' e=>by cases e;exact hp,hr⟩
theorem zrP_none {g:List Int} {mb:Nat} {H:List HP}:∀ h,sat H h→sat (zrP g none mb::H) h:=fun h hs=>⟨fun _=>none,h,split_none h,fun ys e=>(by cases e),hs⟩
def zrS (S:List Sd) (g:List Int) (o:Option (List Int)):Sd:=match o with
 | some ys=>tkS S g ys g.length
 | none=>sd0
def zrT (o:Option (List Int)):Int:=if o.isSome=true then 1 else 0
abbrev zrV (S:List Sd) (g:List Int) (o:Option (List Int)) (mb:Nat):Value:=mdV (.map (o.map fun _=>mb)) (zrS S g o) (zrT o)
structure Grp (n:Nat) (g:List Int):Prop where
 len:1≤g.length∧g.length≤3
 nd:g.Nodup
 rng:∀ x∈g,0≤x∧x<n
theorem grp_ok {m n:Nat} (hm:m=2∨m=3) {g:List Int} (h:g∈grp m n):Grp n g∧g.length≤m:=by
 obtain ⟨a,_,ha,h⟩:=mem_seg.1 h
 unfold F1 at h
 rcases List.mem_cons.1 h with rfl | h
 ·exact ⟨⟨by simp,by simp,fun x hx=>by simp at hx;omega⟩,by simp;omega⟩
 ·obtain ⟨b,hb1,hb2,h⟩:=mem_seg.1 h
  unfold F2 at h
  rcases List.mem_cons.1 h with rfl | h
  ·exact ⟨⟨by simp,by simp;omega,fun x hx=>by simp at hx;omega⟩,by simp;omega⟩
  ·split at h
   ·obtain ⟨c,hc1,hc2,h⟩:=mem_seg.1 h
    have e:g=[(a:Int),(b:Int),(c:Int)]:=by simpa using h
    subst e
    exact ⟨⟨by simp,by simp;omega,fun x hx=>by simp at hx;omega⟩,by simp;omega⟩
   ·simp at h
section
variable {S:List Sd} {g:List Int}
theorem zrY_2 (h:g.length=2) (f:fit2 (atS S g 0) (atS S g 1) (siz (atS S g 1)) (siz (atS S g 0))):zrY S g=some [siz (atS S g 1),siz (atS S g 0)]:=by unfold zrY zr2;rw [if_pos h,if_pos f]
theorem zrY_2n (h:g.length=2) (f:¬ fit2 (atS S g 0) (atS S g 1) (siz (atS S g 1)) (siz (atS S g 0))):zrY S g=none:=by unfold zrY zr2;rw [if_pos h,if_neg f]
theorem zrY_3p (h:g.length=3) (h1:¬ max (max (crs (atS S g 1) (atS S g 2)) (crs (atS S g 2) (atS S g 0))) (crs (atS S g 0) (atS S g 1))<0) (h2:0<min (min (crs (atS S g 1) (atS S g 2)) (crs (atS S g 2) (atS S g 0))) (crs (atS S g 0) (atS S g 1))):zrY S g=some [crs (atS S g 1) (atS S g 2),crs (atS S g 2) (atS S g 0),crs (atS S g 0) (atS S g 1)]:=by
 unfold zrY zr3;dsimp only;rw [if_neg (by omega),if_pos h,if_neg h1,if_pos h2]
theorem zrY_3pn (h:g.length=3) (h1:¬ max (max (crs (atS S g 1) (atS S g 2)) (crs (atS S g 2) (atS S g 0))) (crs (atS S g 0) (atS S g 1))<0) (h2:¬ 0<min (min (crs (atS S g 1) (atS S g 2)) (crs (atS S g 2) (atS S g 0))) (crs (atS S g 0) (atS S g 1))):zrY S g=none:=by
 unfold zrY zr3;dsimp only;rw [if_neg (by omega),if_pos h,if_neg h1,if_neg h2]
theorem zrY_3n (h:g.length=3) (h1:max (max (crs (atS S g 1) (atS S g 2)) (crs (atS S g 2) (atS S g 0))) (crs (atS S g 0) (atS S g 1))<0) (h2:0<min (min (-(crs (atS S g 1) (atS S g 2))) (-(crs (atS S g 2) (atS S g 0)))) (-(crs (atS S g 0) (atS S g 1)))):zrY S g=some [-(crs (atS S g 1) (atS S g 2)),-(crs (atS S g 2) (atS S g 0)),-(crs (atS S g 0) (atS S g 1))]:=by
 unfold zrY zr3;dsimp only;rw [if_neg (by omega),if_pos h,if_pos h1,if_pos h2]
theorem zrY_1 (h:¬ g.length=2) (h3:¬ g.length=3):zrY S g=none:=by unfold zrY;rw [if_neg h,if_neg h3]
end
theorem y2_bd {x y A:Int} (hx : -A≤x∧x≤A) (hy : -A≤y∧y≤A):∀ z∈[x,y],-A≤z∧z≤A:=fun z hz=>by
 have:z=x∨z=y:=by simpa using hz
 rcases this with rfl | rfl <;> assumption
theorem y3_bd {x y u A:Int} (hx : -A≤x∧x≤A) (hy : -A≤y∧y≤A) (hu : -A≤u∧u≤A):∀ z∈[x,y,u],-A≤z∧z≤A:=fun z hz=>by
 have:z=x∨z=y∨z=u:=by simpa using hz
 rcases this with rfl | rfl | rfl <;> assumption
theorem c_zero (w:World) (p:Addr) (rv sv:Value) (rl:List Rn) (hT:Tbl w.heap.size w p rv sv rl) (hok:OkRs rl) (o:Value) (g:List Int) (hG:RdF encI 1 w.heap.size w o g) (hg:Grp (sds rl).length g) :
 Ct Tryz.prog 99 [.pointer (some p),o].toArray w fun v w'=>∃ Hq,(∃ mb:Nat,v=zrV (sds rl) g (zrY (sds rl) g) mb∧Hq=[zrP g (zrY (sds rl) g) mb])∧Inv w [] Hq w':=by
 refine Ct.ofI mixed tyTab Tryz.func99 rfl rfl ?_
 replace hG:RdF encI 1 (fnCx mixed tyTab Tryz.f99.ntmps w).B (fnCx mixed tyTab Tryz.f99.ntmps w).w0 o g:=hG
 replace hT:Tbl (fnCx mixed tyTab Tryz.f99.ntmps w).B (fnCx mixed tyTab Tryz.f99.ntmps w).w0 p rv sv rl:=hT
 have hS:=sds_ok hok
 have hgn:=hg.len
 have hat:∀ i,i<g.length→OkS 20 100000 (atS (sds rl) g i):=fun i hi=>hS _ (getD_mem (show (g.getD i 0).toNat<(sds rl).length by have:=hg.rng _ (getD_mem hi 0);omega) sd0)
 have hri:∀ i,i<g.length→0≤g.getD i 0∧g.getD i 0<(sds rl).length:=fun i hi=>hg.rng _ (getD_mem hi 0)
 refine W.sreg (WO.alloc rfl rfl rfl (fun b1 hb1=>(WO.nil (W.seq (W.sreg (WO.p rfl rfl (WO.len rfl rfl hG.sl rfl (WO.nil (W.block (W.sreg (WO.p rfl rfl (WO.p rfl rfl (WO.nil ?_)))))))))))))
 refine W.cond_bl rfl (fun c1=>?_) (fun c1=>?_)
 ·refine W.seq ?_
  have h0:=hri 0 (by omega)
  have h1:=hri 1 (by omega)
  have s0:=hat 0 (by omega)
  have s1:=hat 1 (by omega)
  have z0:=siz_bd s0
  have z1:=siz_bd s1
  have u0:=s0.up (A':=20) (B':=1000000) (by omega) (by omega)
  have u1:=s1.up (A':=20) (B':=1000000) (by omega) (by omega)
  have v0:=(OkS.by_ s0 (n:=siz (atS (sds rl) g 1)) (N:=40) (by omega)).up (A':=1000000000000000) (B':=1000000000000000) (by omega) (by omega)
  have v1:=(OkS.by_ s1 (n:=siz (atS (sds rl) g 0)) (N:=40) (by omega)).up (A':=1000000000000000) (B':=1000000000000000) (by omega) (by omega)
  refine W.drawD 21 [.r 0 [],.r 1 [],.r 2 [],.b 3 [],.r 4 [],.r 5 [],.b 6 [],.r 7 [],.b 8 [],.r 9 [],.r 10 [],.r 11 [],.b 12 [],.r 13 [],.r 14 [],.b 15 [],.r 16 [],.b 17 [],.a 18 5 (.cells #[.int .i64 0,.int .i64 0,.int .i64 0] 96 (0,0)),.a 19 6 (.cells #[.int .i64 0,.int .i64 0,.int .i64 0] 96 (0,0)),.s 20 []] [] (A0:=[]) (Sub.refl _) (by kernel_rfl) ?_ ?_
  ·exact (ALok.r (ALok.r (ALok.r (ALok.b (ALok.r (ALok.r (ALok.b (ALok.r (ALok.b (ALok.r (ALok.r (ALok.r (ALok.b (ALok.r (ALok.r (ALok.b (ALok.r (ALok.b (ALok.cons rfl rfl rfl rfl rfl (ALok.cons rfl rfl rfl rfl rfl (ALok.s ALok.nil)))))))))))))))))))))
  refine DT.r rfl rfl rfl (WO.p rfl rfl (WO.nil ⟨rfl,rfl⟩)) (DT.r rfl rfl rfl (WO.p rfl rfl (WO.nil ⟨rfl,rfl⟩)) (DT.r rfl rfl rfl (WO.field rfl rfl rfl (WO.nil ⟨rfl,rfl⟩)) ?_))
  refine' DT.b rfl rfl rfl ?hq ?_
  case hq =>
   refine' WO.load (v:=_) rfl rfl ?hc rfl ?_
   case hc=>((refine RdC.cellAt hT.c (j:=1) ?_;rfl))
   exact WO.nil ⟨rfl,rfl⟩
  refine DT.r rfl rfl rfl (WO.p rfl rfl (WO.nil ⟨rfl,rfl⟩)) (DT.r rfl rfl rfl (WO.indexAddr (i:=0) rfl rfl rfl hG.sl (by omega) rfl (WO.nil ⟨rfl,rfl⟩)) ?_)
  refine' DT.b rfl rfl rfl ?hq ?_
  case hq =>
   refine' WO.load (v:=_) rfl rfl ?hc rfl ?_
   case hc=>((refine hG.cell0 (i:=0) (by omega) 0 ?_;rfl))
   exact WO.nil ⟨rfl,rfl⟩
  refine' DT.r rfl rfl rfl ?hq ?_
  case hq =>
   refine' WO.indexAddrZ (n:=_) rfl rfl rfl ?hs ?h00 ?h1 rfl ?_
   case hs=>exact hT.s.sl
   case h00=>omega
   case h1=>(omega)
   exact WO.nil ⟨rfl,rfl⟩
  refine DT.b rfl rfl rfl (WO.loadA rfl rfl (RdF.cellsT hT.s h0.1 h0.2 rfl) rfl rfl (WO.nil ⟨rfl,rfl⟩)) (DT.r rfl rfl rfl (WO.p rfl rfl (WO.nil ⟨rfl,rfl⟩)) (DT.r rfl rfl rfl (WO.p rfl rfl (WO.nil ⟨rfl,rfl⟩)) (DT.r rfl rfl rfl (WO.field rfl rfl rfl (WO.nil ⟨rfl,rfl⟩)) ?_)))
  refine' DT.b rfl rfl rfl ?hq ?_
  case hq =>
   refine' WO.load (v:=_) rfl rfl ?hc rfl ?_
   case hc=>((refine RdC.cellAt hT.c (j:=1) ?_;rfl))
   exact WO.nil ⟨rfl,rfl⟩
  refine DT.r rfl rfl rfl (WO.p rfl rfl (WO.nil ⟨rfl,rfl⟩)) (DT.r rfl rfl rfl (WO.indexAddr (i:=1) rfl rfl rfl hG.sl (by omega) rfl (WO.nil ⟨rfl,rfl⟩)) ?_)
  refine' DT.b rfl rfl rfl ?hq ?_
  case hq =>
   refine' WO.load (v:=_) rfl rfl ?hc rfl ?_
   case hc=>((refine hG.cell0 (i:=1) (by omega) 0 ?_;rfl))
   exact WO.nil ⟨rfl,rfl⟩
  refine' DT.r rfl rfl rfl ?hq ?_
  case hq =>
   refine' WO.indexAddrZ (n:=_) rfl rfl rfl ?hs ?h00 ?h1 rfl ?_
   case hs=>exact hT.s.sl
   case h00=>omega
   case h1=>(omega)
   exact WO.nil ⟨rfl,rfl⟩
  refine DT.b rfl rfl rfl (WO.loadA rfl rfl (RdF.cellsT hT.s h1.1 h1.2 rfl) rfl rfl (WO.nil ⟨rfl,rfl⟩)) (DT.a (fun b2=>(DT.a (fun b3=>(DT.s [_,_,_] rfl rfl rfl (WO.storeA rfl rfl rfl rfl (Pick.tail (Pick.head)) rfl rfl ?_))))))
  refine WO.nil ⟨[_,_],rfl,rfl,(Keep.a (Keep.a (Keep.b (Keep.r (Keep.b (Keep.r (Keep.r (Keep.b (Keep.r (Keep.r (Keep.r (Keep.b (Keep.r (Keep.b (Keep.r (Keep.r (Keep.b (Keep.r (Keep.r (Keep.r Keep.nil)))))))))))))))))))),?_⟩
  refine DT.nil [_,_,_] rfl (WO.storeA rfl rfl rfl rfl (Pick.tail (Pick.head)) rfl rfl (WO.nil (W.seq ?_)))
  refine W.drawD 3 [.b 0 [],.b 1 [],.b 2 []] [] (A0:=[]) (Sub.refl _) (by kernel_rfl) ?_ ?_
  ·repeat constructor
  refine DT.b rfl rfl rfl (WO.loadA rfl rfl (Cells.own Pick.head) rfl rfl (WO.nil ⟨rfl,rfl⟩)) (DT.b rfl rfl rfl (WO.callR rfl Tryz.call175 (fun L w hi=>c_size w (atS (sds rl) g 1) u1) rfl (WO.nil ⟨rfl,rfl⟩)) (DT.b rfl rfl rfl (WO.loadA rfl rfl (Cells.own (Pick.tail (Pick.head))) rfl rfl (WO.nil ⟨rfl,rfl⟩)) (DT.nil [_,_,_] rfl (WO.callR rfl Tryz.call175 (fun L w hi=>c_size w (atS (sds rl) g 0) u0) rfl (WO.p rfl rfl (WO.p rfl rfl (WO.nil (W.seq ?_))))))))
  refine W.drawD 15 [.b 0 [],.b 1 [],.b 2 [],.r 3 [],.r 4 [],.b 5 [],.r 6 [],.b 7 [],.b 8 [],.r 9 [],.b 10 [],.r 14 [],.c 11 [],.f 12 [],.b 13 []] [] (A0:=[]) (Sub.refl _) (by kernel_rfl) ?_ ?_
  ·repeat constructor
  refine DT.b rfl rfl rfl (WO.loadA rfl rfl (Cells.own (Pick.tail (Pick.head))) rfl rfl (WO.nil ⟨rfl,rfl⟩)) (DT.b rfl rfl rfl (WO.loadA rfl rfl (Cells.own Pick.head) rfl rfl (WO.nil ⟨rfl,rfl⟩)) (DT.b rfl rfl rfl (WO.callR rfl Tryz.call168 (fun L w hi=>c_cross w (atS (sds rl) g 0) (atS (sds rl) g 1) u0 u1) rfl (WO.nil ⟨rfl,rfl⟩)) (DT.r rfl rfl rfl (WO.p rfl rfl (WO.nil ⟨rfl,rfl⟩)) ?_)))
  refine DT.rB rfl rfl rfl (WO.p rfl rfl (WO.nil ⟨rfl,rfl⟩)) (fun c2=>?_) (fun c2=>?_)
  ·refine DT.b rfl rfl rfl (WO.go' rfl (WO.loadA rfl rfl (Cells.own (Pick.tail (Pick.head))) rfl rfl (WO.nil ⟨rfl,rfl⟩))) (DT.r rfl rfl rfl (WO.pg rfl rfl rfl (WO.nil ⟨rfl,rfl⟩)) (DT.b rfl rfl rfl (WO.go' rfl (WO.callR rfl Tryz.call154 (fun L w hi=>c_by w (atS (sds rl) g 0) (siz (atS (sds rl) g 1)) (s0.up (by omega) (by omega)) (by omega)) rfl (WO.nil ⟨rfl,rfl⟩))) (DT.b rfl rfl rfl (WO.go' rfl (WO.loadA rfl rfl (Cells.own Pick.head) rfl rfl (WO.nil ⟨rfl,rfl⟩))) (DT.r rfl rfl rfl (WO.pg rfl rfl rfl (WO.nil ⟨rfl,rfl⟩)) ?_))))
   refine DT.b rfl rfl rfl (WO.go' rfl (WO.callR rfl Tryz.call154 (fun L w hi=>c_by w (atS (sds rl) g 1) (siz (atS (sds rl) g 0)) (s1.up (by omega) (by omega)) (by omega)) rfl (WO.nil ⟨rfl,rfl⟩))) (DT.r rfl rfl rfl (WO.go' rfl (WO.build rfl rfl rfl rfl rfl (WO.nil ⟨rfl,rfl⟩))) (DT.c [_,_,_] rfl rfl rfl rfl (WO.go' rfl (WO.buildSl rfl rfl rfl rfl rfl rfl rfl rfl rfl (fun v4=>?_)))))
   refine WO.nil ⟨_,[_],rfl,rfl,(Keep.r (Keep.b (Keep.r (Keep.b (Keep.b (Keep.r (Keep.b (Keep.r (Keep.r (Keep.b (Keep.b (Keep.b Keep.nil)))))))))))),?_⟩
   refine DT.f [_,_,_,_] rfl rfl rfl rfl (WO.go' rfl (WO.callR (r:=sdV (addS (byS (atS (sds rl) g 0) (siz (atS (sds rl) g 1))) (byS (atS (sds rl) g 1) (siz (atS (sds rl) g 0))))) rfl Tryz.call153 (fun L w hi=>by have h:=c_sum w _ [byS (atS (sds rl) g 0) (siz (atS (sds rl) g 1)),byS (atS (sds rl) g 1) (siz (atS (sds rl) g 0))] (RdF.of_ow (e:=96) encSd_ok (by repeat exact .head) hi) (by simp) (all_twoS v0 v1);rw [addS_two] at h;exact h) rfl (WO.nil ⟨rfl,rfl⟩))) (DT.b rfl rfl rfl (WO.go' rfl (WO.callR rfl Tryz.call100 (fun L w hi=>c_flat w _) rfl (WO.nil ⟨rfl,rfl⟩))) (DT.nil [_,_,_,_] rfl (WO.go' rfl ?_)))
   refine WO.eqT rfl rfl (eq124z (addS (byS (atS (sds rl) g 0) (siz (atS (sds rl) g 1))) (byS (atS (sds rl) g 1) (siz (atS (sds rl) g 0)))).a (addS (byS (atS (sds rl) g 0) (siz (atS (sds rl) g 1))) (byS (atS (sds rl) g 1) (siz (atS (sds rl) g 0)))).b) rfl (WO.p rfl rfl (WO.nil ?_))
   refine W.cond_bl rfl (fun c3=>?_) (fun c3=>?_)
   ·refine W.sreg (WO.p rfl rfl (WO.p rfl rfl (WO.p rfl rfl (WO.p rfl rfl (WO.buildSl rfl rfl rfl rfl rfl rfl rfl rfl rfl (fun v5=>?_))))))
    refine WO.call (Post:=fun v Hq=>∃ mb:Nat,v=mdV (.map (some mb)) (tkS (sds rl) g [siz (atS (sds rl) g 1),siz (atS (sds rl) g 0)] g.length) 1∧Hq=[pt mb (.map (tkL g [siz (atS (sds rl) g 1),siz (atS (sds rl) g 0)] g.length).toArray g.length)]) rfl Tryz.call176 (fun L w hi=>c_take w p rv sv rl (hT.later hi) hok o _ g _ 1 (hG.later hi) (RdF.of_ow (e:=2) (xs:=[siz (atS (sds rl) g 1),siz (atS (sds rl) g 0)]) encI_ok (by repeat exact .head) hi) hg.rng hg.nd (by show 2=_;omega) hg.len.2 (y2_bd (by omega) (by omega))) rfl ?_
    rintro _ _ ⟨mb,rfl,rfl⟩
    refine WO.storeA rfl rfl rfl rfl (Pick.tail (Pick.tail (Pick.tail (Pick.tail (Pick.tail (Pick.head)))))) rfl rfl (WO.nil (W.ret ?_))
    (have e:=zrY_2 (S:=sds rl) (g:=g) (by omega) ⟨by assumption,by assumption⟩;exact fin.ret (Res.one rfl (RV.cell rfl rfl rfl (Cells.own (by repeat exact .head)))) ⟨mb,by rw [e];rfl,by rw [e];exact fun h hs=>Sub.sat (.cons .head .nil) (zrP_some (by repeat first | exact .head | apply Pick.tail) h hs)⟩)
   ·refine W.skip (W.sreg (WO.build rfl rfl rfl rfl rfl (WO.storeA rfl rfl rfl rfl (Pick.tail (Pick.tail (Pick.tail (Pick.head)))) rfl rfl (WO.nil (W.ret ?_)))))
    (have e:=zrY_2n (S:=sds rl) (g:=g) (by omega) (fun q=>by exact absurd q.2 (by assumption));exact fin.ret (Res.one rfl (RV.cell rfl rfl rfl (Cells.own (by repeat exact .head)))) ⟨0,by rw [e];rfl,by rw [e];exact fun h hs=>Sub.sat (.cons .head .nil) (zrP_none h hs)⟩)
  ·refine DT.b rfl rfl rfl (WO.no rfl rfl (WO.nil ⟨rfl,rfl⟩)) (DT.r rfl rfl rfl (WO.no rfl rfl (WO.nil ⟨rfl,rfl⟩)) (DT.b rfl rfl rfl (WO.no rfl rfl (WO.nil ⟨rfl,rfl⟩)) (DT.b rfl rfl rfl (WO.no rfl rfl (WO.nil ⟨rfl,rfl⟩)) (DT.r rfl rfl rfl (WO.no rfl rfl (WO.nil ⟨rfl,rfl⟩)) (DT.b rfl rfl rfl (WO.no rfl rfl (WO.nil ⟨rfl,rfl⟩)) (DT.r rfl rfl rfl (WO.no rfl rfl (WO.nil ⟨rfl,rfl⟩)) (DT.c [_,_,_] rfl rfl rfl rfl (WO.no rfl rfl ?_))))))))
   refine WO.nil ⟨_,[],rfl,rfl,(Keep.r (Keep.b (Keep.r (Keep.b (Keep.b (Keep.r (Keep.b (Keep.r (Keep.r (Keep.b (Keep.b (Keep.b Keep.nil)))))))))))),?_⟩
   refine DT.f [_,_,_] rfl rfl rfl rfl (WO.no rfl rfl (WO.nil ⟨rfl,rfl⟩)) (DT.b rfl rfl rfl (WO.no rfl rfl (WO.nil ⟨rfl,rfl⟩)) (DT.nil [_,_,_] rfl (WO.no rfl rfl (WO.p rfl rfl (WO.nil (W.cond_f rfl (W.skip (W.sreg (WO.build rfl rfl rfl rfl rfl (WO.storeA rfl rfl rfl rfl (Pick.tail (Pick.tail (Pick.head))) rfl rfl (WO.nil (W.ret ?_))))))))))))
   (have e:=zrY_2n (S:=sds rl) (g:=g) (by omega) (fun q=>by exact absurd q.1 (by assumption));exact fin.ret (Res.one rfl (RV.cell rfl rfl rfl (Cells.own (by repeat exact .head)))) ⟨0,by rw [e];rfl,by rw [e];exact fun h hs=>Sub.sat (.cons .head .nil) (zrP_none h hs)⟩)
 ·refine W.sreg (WO.p rfl rfl (WO.p rfl rfl (WO.nil ?_)))
  refine W.cond_bl rfl (fun c4=>?_) (fun c4=>?_)
  ·refine W.seq ?_
   have h0:=hri 0 (by omega)
   have h1:=hri 1 (by omega)
   have h2:=hri 2 (by omega)
   have s0:=hat 0 (by omega)
   have s1:=hat 1 (by omega)
   have s2:=hat 2 (by omega)
   have u0:=s0.up (A':=20) (B':=1000000) (by omega) (by omega)
   have u1:=s1.up (A':=20) (B':=1000000) (by omega) (by omega)
   have u2:=s2.up (A':=20) (B':=1000000) (by omega) (by omega)
   have d0:=(crs_bd s1 s2).2.2
   have d1:=(crs_bd s2 s0).2.2
   have d2:=(crs_bd s0 s1).2.2
   refine W.drawD 32 [.r 0 [],.r 1 [],.r 2 [],.b 3 [],.r 4 [],.r 5 [],.b 6 [],.r 7 [],.b 8 [],.r 9 [],.r 10 [],.r 11 [],.b 12 [],.r 13 [],.r 14 [],.b 15 [],.r 16 [],.b 17 [],.r 18 [],.r 19 [],.r 20 [],.b 21 [],.r 22 [],.r 23 [],.b 24 [],.r 25 [],.b 26 [],.a 27 9 (.cells #[.int .i64 0,.int .i64 0,.int .i64 0] 96 (0,0)),.a 28 10 (.cells #[.int .i64 0,.int .i64 0,.int .i64 0] 96 (0,0)),.a 29 11 (.cells #[.int .i64 0,.int .i64 0,.int .i64 0] 96 (0,0)),.s 30 [],.s 31 []] [] (A0:=[]) (Sub.refl _) (by kernel_rfl) ?_ ?_
   ·exact (ALok.r (ALok.r (ALok.r (ALok.b (ALok.r (ALok.r (ALok.b (ALok.r (ALok.b (ALok.r (ALok.r (ALok.r (ALok.b (ALok.r (ALok.r (ALok.b (ALok.r (ALok.b (ALok.r (ALok.r (ALok.r (ALok.b (ALok.r (ALok.r (ALok.b (ALok.r (ALok.b (ALok.cons rfl rfl rfl rfl rfl (ALok.cons rfl rfl rfl rfl rfl (ALok.cons rfl rfl rfl rfl rfl (ALok.s (ALok.s ALok.nil))))))))))))))))))))))))))))))))
   refine DT.r rfl rfl rfl (WO.p rfl rfl (WO.nil ⟨rfl,rfl⟩)) (DT.r rfl rfl rfl (WO.p rfl rfl (WO.nil ⟨rfl,rfl⟩)) (DT.r rfl rfl rfl (WO.field rfl rfl rfl (WO.nil ⟨rfl,rfl⟩)) ?_))
   refine' DT.b rfl rfl rfl ?hq ?_
   case hq =>
    refine' WO.load (v:=_) rfl rfl ?hc rfl ?_
    case hc=>((refine RdC.cellAt hT.c (j:=1) ?_;rfl))
    exact WO.nil ⟨rfl,rfl⟩
   refine DT.r rfl rfl rfl (WO.p rfl rfl (WO.nil ⟨rfl,rfl⟩)) (DT.r rfl rfl rfl (WO.indexAddr (i:=0) rfl rfl rfl hG.sl (by omega) rfl (WO.nil ⟨rfl,rfl⟩)) ?_)
   refine' DT.b rfl rfl rfl ?hq ?_
   case hq =>
    refine' WO.load (v:=_) rfl rfl ?hc rfl ?_
    case hc=>((refine hG.cell0 (i:=0) (by omega) 0 ?_;rfl))
    exact WO.nil ⟨rfl,rfl⟩
   refine' DT.r rfl rfl rfl ?hq ?_
   case hq =>
    refine' WO.indexAddrZ (n:=_) rfl rfl rfl ?hs ?h00 ?h1 rfl ?_
    case hs=>exact hT.s.sl
    case h00=>omega
    case h1=>(omega)
    exact WO.nil ⟨rfl,rfl⟩
   refine DT.b rfl rfl rfl (WO.loadA rfl rfl (RdF.cellsT hT.s h0.1 h0.2 rfl) rfl rfl (WO.nil ⟨rfl,rfl⟩)) (DT.r rfl rfl rfl (WO.p rfl rfl (WO.nil ⟨rfl,rfl⟩)) (DT.r rfl rfl rfl (WO.p rfl rfl (WO.nil ⟨rfl,rfl⟩)) (DT.r rfl rfl rfl (WO.field rfl rfl rfl (WO.nil ⟨rfl,rfl⟩)) ?_)))
   refine' DT.b rfl rfl rfl ?hq ?_
   case hq =>
    refine' WO.load (v:=_) rfl rfl ?hc rfl ?_
    case hc=>((refine RdC.cellAt hT.c (j:=1) ?_;rfl))
    exact WO.nil ⟨rfl,rfl⟩
   refine DT.r rfl rfl rfl (WO.p rfl rfl (WO.nil ⟨rfl,rfl⟩)) (DT.r rfl rfl rfl (WO.indexAddr (i:=1) rfl rfl rfl hG.sl (by omega) rfl (WO.nil ⟨rfl,rfl⟩)) ?_)
   refine' DT.b rfl rfl rfl ?hq ?_
   case hq =>
    refine' WO.load (v:=_) rfl rfl ?hc rfl ?_
    case hc=>((refine hG.cell0 (i:=1) (by omega) 0 ?_;rfl))
    exact WO.nil ⟨rfl,rfl⟩
   refine' DT.r rfl rfl rfl ?hq ?_
   case hq =>
    refine' WO.indexAddrZ (n:=_) rfl rfl rfl ?hs ?h00 ?h1 rfl ?_
    case hs=>exact hT.s.sl
    case h00=>omega
    case h1=>(omega)
    exact WO.nil ⟨rfl,rfl⟩
   refine DT.b rfl rfl rfl (WO.loadA rfl rfl (RdF.cellsT hT.s h1.1 h1.2 rfl) rfl rfl (WO.nil ⟨rfl,rfl⟩)) (DT.r rfl rfl rfl (WO.p rfl rfl (WO.nil ⟨rfl,rfl⟩)) (DT.r rfl rfl rfl (WO.p rfl rfl (WO.nil ⟨rfl,rfl⟩)) (DT.r rfl rfl rfl (WO.field rfl rfl rfl (WO.nil ⟨rfl,rfl⟩)) ?_)))
   refine' DT.b rfl rfl rfl ?hq ?_
   case hq =>
    refine' WO.load (v:=_) rfl rfl ?hc rfl ?_
    case hc=>((refine RdC.cellAt hT.c (j:=1) ?_;rfl))
    exact WO.nil ⟨rfl,rfl⟩
   refine DT.r rfl rfl rfl (WO.p rfl rfl (WO.nil ⟨rfl,rfl⟩)) (DT.r rfl rfl rfl (WO.indexAddr (i:=2) rfl rfl rfl hG.sl (by omega) rfl (WO.nil ⟨rfl,rfl⟩)) ?_)
   refine' DT.b rfl rfl rfl ?hq ?_
   case hq =>
    refine' WO.load (v:=_) rfl rfl ?hc rfl ?_
    case hc=>((refine hG.cell0 (i:=2) (by omega) 0 ?_;rfl))
    exact WO.nil ⟨rfl,rfl⟩
   refine' DT.r rfl rfl rfl ?hq ?_
   case hq =>
    refine' WO.indexAddrZ (n:=_) rfl rfl rfl ?hs ?h00 ?h1 rfl ?_
    case hs=>exact hT.s.sl
    case h00=>omega
    case h1=>(omega)
    exact WO.nil ⟨rfl,rfl⟩
   refine DT.b rfl rfl rfl (WO.loadA rfl rfl (RdF.cellsT hT.s h2.1 h2.2 rfl) rfl rfl (WO.nil ⟨rfl,rfl⟩)) (DT.a (fun b6=>(DT.a (fun b7=>(DT.a (fun b8=>(DT.s [_,_,_,_] rfl rfl rfl (WO.storeA rfl rfl rfl rfl (Pick.tail (Pick.tail (Pick.head))) rfl rfl ?_))))))))
   refine WO.nil ⟨[_,_,_],rfl,rfl,(Keep.a (Keep.a (Keep.a (Keep.b (Keep.r (Keep.b (Keep.r (Keep.r (Keep.b (Keep.r (Keep.r (Keep.r (Keep.b (Keep.r (Keep.b (Keep.r (Keep.r (Keep.b (Keep.r (Keep.r (Keep.r (Keep.b (Keep.r (Keep.b (Keep.r (Keep.r (Keep.b (Keep.r (Keep.r (Keep.r Keep.nil)))))))))))))))))))))))))))))),?_⟩
   refine DT.s [_,_,_,_] rfl rfl rfl (WO.storeA rfl rfl rfl rfl (Pick.tail (Pick.tail (Pick.head))) rfl rfl ?_)
   refine WO.nil ⟨[_,_,_],rfl,rfl,(Keep.s (Keep.a (Keep.a (Keep.a (Keep.b (Keep.r (Keep.b (Keep.r (Keep.r (Keep.b (Keep.r (Keep.r (Keep.r (Keep.b (Keep.r (Keep.b (Keep.r (Keep.r (Keep.b (Keep.r (Keep.r (Keep.r (Keep.b (Keep.r (Keep.b (Keep.r (Keep.r (Keep.b (Keep.r (Keep.r (Keep.r Keep.nil))))))))))))))))))))))))))))))),?_⟩
   refine DT.nil [_,_,_,_] rfl (WO.storeA rfl rfl rfl rfl (Pick.tail (Pick.tail (Pick.head))) rfl rfl (WO.nil (W.seq ?_)))
   refine W.drawD 8 [.b 0 [],.b 1 [],.b 2 [],.b 3 [],.b 4 [],.b 5 [],.b 6 [],.b 7 []] [] (A0:=[]) (Sub.refl _) (by kernel_rfl) ?_ ?_
   ·repeat constructor
   refine DT.b rfl rfl rfl (WO.loadA rfl rfl (Cells.own (Pick.tail (Pick.head))) rfl rfl (WO.nil ⟨rfl,rfl⟩)) (DT.b rfl rfl rfl (WO.loadA rfl rfl (Cells.own Pick.head) rfl rfl (WO.nil ⟨rfl,rfl⟩)) (DT.b rfl rfl rfl (WO.callR rfl Tryz.call168 (fun L w hi=>c_cross w (atS (sds rl) g 1) (atS (sds rl) g 2) u1 u2) rfl (WO.nil ⟨rfl,rfl⟩)) (DT.b rfl rfl rfl (WO.loadA rfl rfl (Cells.own Pick.head) rfl rfl (WO.nil ⟨rfl,rfl⟩)) (DT.b rfl rfl rfl (WO.loadA rfl rfl (Cells.own (Pick.tail (Pick.tail (Pick.head)))) rfl rfl (WO.nil ⟨rfl,rfl⟩)) (DT.b rfl rfl rfl (WO.callR rfl Tryz.call168 (fun L w hi=>c_cross w (atS (sds rl) g 2) (atS (sds rl) g 0) u2 u0) rfl (WO.nil ⟨rfl,rfl⟩)) ?_)))))
   refine DT.b rfl rfl rfl (WO.loadA rfl rfl (Cells.own (Pick.tail (Pick.tail (Pick.head)))) rfl rfl (WO.nil ⟨rfl,rfl⟩)) (DT.b rfl rfl rfl (WO.loadA rfl rfl (Cells.own (Pick.tail (Pick.head))) rfl rfl (WO.nil ⟨rfl,rfl⟩)) (DT.nil [_,_,_,_] rfl (WO.callR rfl Tryz.call168 (fun L w hi=>c_cross w (atS (sds rl) g 0) (atS (sds rl) g 1) u0 u1) rfl (WO.p rfl rfl (WO.p rfl rfl (WO.p rfl rfl (WO.nil (W.seq (W.sreg (WO.p rfl rfl (WO.p rfl rfl (WO.p rfl rfl (WO.max3 rfl rfl rfl rfl (WO.p rfl rfl (WO.nil ?_)))))))))))))))
   refine W.cond_bl rfl (fun c5=>?_) (fun c5=>?_)
   ·have hneg:=trivial
    refine W.region (WO.p rfl rfl (WO.neg rfl (by unfold in64;omega) rfl (WO.p rfl rfl (WO.neg rfl (by unfold in64;omega) rfl (WO.p rfl rfl (WO.neg rfl (by unfold in64;omega) rfl (WO.p rfl rfl (WO.p rfl rfl (WO.p rfl rfl (WO.nil (W.sreg (WO.p rfl rfl (WO.p rfl rfl (WO.p rfl rfl (WO.min3 rfl rfl rfl rfl (WO.p rfl rfl (WO.nil ?_)))))))))))))))))
    refine W.cond_bl rfl (fun c6=>?_) (fun c6=>?_)
    ·refine W.sreg (WO.p rfl rfl (WO.p rfl rfl (WO.p rfl rfl (WO.p rfl rfl (WO.p rfl rfl (WO.buildSl rfl rfl rfl rfl rfl rfl rfl rfl rfl (fun v9=>?_)))))))
     (have q:=hneg;refine WO.call (Post:=fun v Hq=>∃ mb:Nat,v=mdV (.map (some mb)) (tkS (sds rl) g [-crs (atS (sds rl) g 1) (atS (sds rl) g 2),-crs (atS (sds rl) g 2) (atS (sds rl) g 0),-crs (atS (sds rl) g 0) (atS (sds rl) g 1)] g.length) 1∧Hq=[pt mb (.map (tkL g [-crs (atS (sds rl) g 1) (atS (sds rl) g 2),-crs (atS (sds rl) g 2) (atS (sds rl) g 0),-crs (atS (sds rl) g 0) (atS (sds rl) g 1)] g.length).toArray g.length)]) rfl Tryz.call176 (fun L w hi=>c_take w p rv sv rl (hT.later hi) hok o _ g _ 1 (hG.later hi) (RdF.of_ow (e:=2) (xs:=[-crs (atS (sds rl) g 1) (atS (sds rl) g 2),-crs (atS (sds rl) g 2) (atS (sds rl) g 0),-crs (atS (sds rl) g 0) (atS (sds rl) g 1)]) encI_ok (by repeat exact .head) hi) hg.rng hg.nd (by show 3=_;omega) hg.len.2 (y3_bd (by omega) (by omega) (by omega))) rfl ?_)
     rintro _ _ ⟨mb,rfl,rfl⟩
     refine WO.storeA rfl rfl rfl rfl (Pick.tail (Pick.tail (Pick.tail (Pick.tail (Pick.tail (Pick.head)))))) rfl rfl (WO.nil (W.ret ?_))
     (have q:=hneg;have e:=zrY_3n (S:=sds rl) (g:=g) (by omega) (by assumption) (by assumption);exact fin.ret (Res.one rfl (RV.cell rfl rfl rfl (Cells.own (by repeat exact .head)))) ⟨mb,by rw [e];rfl,by rw [e];exact fun h hs=>Sub.sat (.cons .head .nil) (zrP_some (by repeat first | exact .head | apply Pick.tail) h hs)⟩)
    ·exfalso;omega
   ·refine W.skip (W.sreg (WO.p rfl rfl (WO.p rfl rfl (WO.p rfl rfl (WO.min3 rfl rfl rfl rfl (WO.p rfl rfl (WO.nil ?_)))))))
    refine W.cond_bl rfl (fun c7=>?_) (fun c7=>?_)
    ·refine W.sreg (WO.p rfl rfl (WO.p rfl rfl (WO.p rfl rfl (WO.p rfl rfl (WO.p rfl rfl (WO.buildSl rfl rfl rfl rfl rfl rfl rfl rfl rfl (fun v10=>?_)))))))
     (refine WO.call (Post:=fun v Hq=>∃ mb:Nat,v=mdV (.map (some mb)) (tkS (sds rl) g [crs (atS (sds rl) g 1) (atS (sds rl) g 2),crs (atS (sds rl) g 2) (atS (sds rl) g 0),crs (atS (sds rl) g 0) (atS (sds rl) g 1)] g.length) 1∧Hq=[pt mb (.map (tkL g [crs (atS (sds rl) g 1) (atS (sds rl) g 2),crs (atS (sds rl) g 2) (atS (sds rl) g 0),crs (atS (sds rl) g 0) (atS (sds rl) g 1)] g.length).toArray g.length)]) rfl Tryz.call176 (fun L w hi=>c_take w p rv sv rl (hT.later hi) hok o _ g _ 1 (hG.later hi) (RdF.of_ow (e:=2) (xs:=[crs (atS (sds rl) g 1) (atS (sds rl) g 2),crs (atS (sds rl) g 2) (atS (sds rl) g 0),crs (atS (sds rl) g 0) (atS (sds rl) g 1)]) encI_ok (by repeat exact .head) hi) hg.rng hg.nd (by show 3=_;omega) hg.len.2 (y3_bd (by omega) (by omega) (by omega))) rfl ?_)
     rintro _ _ ⟨mb,rfl,rfl⟩
     refine WO.storeA rfl rfl rfl rfl (Pick.tail (Pick.tail (Pick.tail (Pick.tail (Pick.tail (Pick.head)))))) rfl rfl (WO.nil (W.ret ?_))
     (have e:=zrY_3p (S:=sds rl) (g:=g) (by omega) (by assumption) (by assumption);exact fin.ret (Res.one rfl (RV.cell rfl rfl rfl (Cells.own (by repeat exact .head)))) ⟨mb,by rw [e];rfl,by rw [e];exact fun h hs=>Sub.sat (.cons .head .nil) (zrP_some (by repeat first | exact .head | apply Pick.tail) h hs)⟩)
    ·refine W.skip (W.sreg (WO.build rfl rfl rfl rfl rfl (WO.storeA rfl rfl rfl rfl (Pick.tail (Pick.tail (Pick.tail (Pick.head)))) rfl rfl (WO.nil (W.ret ?_)))))
     (have e:=zrY_3pn (S:=sds rl) (g:=g) (by omega) (by assumption) (by assumption);exact fin.ret (Res.one rfl (RV.cell rfl rfl rfl (Cells.own (by repeat exact .head)))) ⟨0,by rw [e];rfl,by rw [e];exact fun h hs=>Sub.sat (.cons .head .nil) (zrP_none h hs)⟩)
  ·refine W.skip (W.sreg (WO.build rfl rfl rfl rfl rfl (WO.storeA rfl rfl rfl rfl Pick.head rfl rfl (WO.nil (W.ret ?_)))))
   (have e:=zrY_1 (S:=sds rl) (g:=g) (by omega) (by omega);exact fin.ret (Res.one rfl (RV.cell rfl rfl rfl (Cells.own (by repeat exact .head)))) ⟨0,by rw [e];rfl,by rw [e];exact fun h hs=>Sub.sat (.cons .head .nil) (zrP_none h hs)⟩)
end Go.Proofs.YtncjabmlkgacdaaGreat.Sp
namespace Go.Proofs.YtncjabmlkgacdaaGreat.Sp
open Go Go.TH
attribute [local irreducible] W WO pt
set_option maxRecDepth 10000
set_option maxHeartbeats 1000000
theorem fi_ne {α:Type} {p:α→Bool} {xs:List α} {k:Nat} {x:α} (hx:xs[k]?=some x) (hle:k≤xs.findIdx p) (hn:¬ p x=true):k<xs.findIdx p:=by
 rcases Nat.lt_or_ge k (xs.findIdx p) with h | h
 ·exact h
 ·obtain rfl:k=xs.findIdx p:=by omega
  obtain ⟨hl,e⟩:=List.getElem?_eq_some_iff.1 hx
  have:=List.findIdx_getElem (w:=hl)
  rw [e] at this
  exact absurd this hn
theorem fi_eq {α:Type} {p:α→Bool} {xs:List α} {k:Nat} {x:α} (hx:xs[k]?=some x) (hle:k≤xs.findIdx p) (hp:p x=true):k=xs.findIdx p:=by
 rcases Nat.lt_or_ge k (xs.findIdx p) with h | h
 ·have:=List.not_of_lt_findIdx h
  obtain ⟨hl,e⟩:=List.getElem?_eq_some_iff.1 hx
  rw [e] at this
  rw [this] at hp
  cases hp
 ·omega
def dbt (S:List Sd) (g:List Int):Option (List Int):=match zrY S g with
 | some ys=>if (tkS S g ys g.length).a=0∧(tkS S g ys g.length).b=0∧0<(tkS S g ys g.length).c then some ys else none
 | none=>none
theorem dbt_some {S:List Sd} {g:List Int}:(dbt S g).isSome=true↔zrT (zrY S g)=1∧((zrS S g (zrY S g)).a=0∧(zrS S g (zrY S g)).b=0)∧0<(zrS S g (zrY S g)).c:=by
 unfold dbt zrT zrS
 cases zrY S g with
 | none=>simp
 | some ys =>
  dsimp only
  split
  ·rename_i h;simp [h]
  ·rename_i h;simp;omega
theorem dbt_zrY {S:List Sd} {g ys:List Int} (h:dbt S g=some ys):zrY S g=some ys:=by
 unfold dbt at h
 cases hz:zrY S g with
 | none=>rw [hz] at h;cases h
 | some zs =>
  rw [hz] at h
  dsimp only at h
  split at h
  ·exact h
  ·cases h
theorem dbt_def {S:List Sd} {g:List Int} (h:(dbt S g).isSome=true):∃ ys,dbt S g=some ys∧zrY S g=some ys:=by
 obtain ⟨ys,e⟩:=Option.isSome_iff_exists.1 h
 exact ⟨ys,e,dbt_zrY e⟩
abbrev grS (S:List Sd):List (List Int):=grp 3 S.length
def hitD (S:List Sd):Nat:=(grS S).findIdx fun g=>(dbt S g).isSome
abbrev hitG (S:List Sd):List Int:=(grS S).getD (hitD S) []
def Dbt (S:List Sd):Prop:=hitD S<(grS S).length
instance (S:List Sd):Decidable (Dbt S):=by unfold Dbt;infer_instance
theorem Dbt.iff {S:List Sd}:Dbt S↔∃ g∈grS S,(dbt S g).isSome=true:=by
 unfold Dbt hitD
 rw [List.findIdx_lt_length]
theorem Dbt.hit {S:List Sd} (h:Dbt S):hitG S∈grS S∧(dbt S (hitG S)).isSome=true:=by
 have e:hitG S=(grS S)[hitD S]:=by rw [hitG,List.getD_eq_getElem?_getD,List.getElem?_eq_getElem h];rfl
 rw [e]
 exact ⟨List.getElem_mem _,List.findIdx_getElem (w:=h)⟩
def dbS (S:List Sd):Sd:=if Dbt S then zrS S (hitG S) (zrY S (hitG S)) else sd0
def dbT (S:List Sd):Int:=if Dbt S then 1 else 0
def dbQ (S:List Sd) (mb:Nat):Option Nat:=if Dbt S then some mb else none
def dbP (S:List Sd) (mb:Nat):HP:=fun h=>Dbt S→∃ ys,dbt S (hitG S)=some ys∧pt mb (.map (tkL (hitG S) ys (hitG S).length).toArray (hitG S).length) h
def DbR (S:List Sd) (b3 b4:Nat):Option (List Int)→HP
 | none=>sat [pt b3 (.cells #[.map none,.int .i64 0,.int .i64 0,.int .i64 0,.int .i64 0] 98 (0,0)),pt b4 (.cells #[.bool false] 4 (0,0))]
 | some g=>fun h=>∃ (mb:Nat),sat [pt b3 (.cells #[.map (some mb),.int .i64 (zrS S g (zrY S g)).a,.int .i64 (zrS S g (zrY S g)).b,.int .i64 (zrS S g (zrY S g)).c,.int .i64 1] 98 (0,0)),pt b4 (.cells #[.bool true] 4 (0,0)),zrP g (zrY S g) mb] h
section
variable {S:List Sd} {b3 b4:Nat} {g:List Int} {H H' H2:List HP}
theorem dbR_none (p:Pick (pt b3 (.cells #[.map none,.int .i64 0,.int .i64 0,.int .i64 0,.int .i64 0] 98 (0,0))) H H') (q:Pick (pt b4 (.cells #[.bool false] 4 (0,0))) H' H2):∀ h,sat H h→sat (DbR S b3 b4 none::H2) h:=fun h hs =>
 sat_one (Hs:=[_,_]) h (Sub.sat (.cons p (.cons q (Sub.refl _))) hs)
theorem dbR_open (p:Pick (DbR S b3 b4 none) H H'):∀ h,sat H h→sat (pt b3 (.cells #[.map none,.int .i64 0,.int .i64 0,.int .i64 0,.int .i64 0] 98 (0,0))::pt b4 (.cells #[.bool false] 4 (0,0))::H') h:=fun h hs =>
 sat_many (Hs:=[_,_]) h (p.sat hs)
theorem dbR_some (p:Pick (DbR S b3 b4 (some g)) H H'):∀ h,sat H h→∃ mb:Nat,True∧sat (pt b3 (.cells #[.map (some mb),.int .i64 (zrS S g (zrY S g)).a,.int .i64 (zrS S g (zrY S g)).b,.int .i64 (zrS S g (zrY S g)).c,.int .i64 1] 98 (0,0))::pt b4 (.cells #[.bool true] 4 (0,0))::zrP g (zrY S g) mb::H') h:=fun h hs=>by
 obtain ⟨h1,h2,s,⟨v,hp⟩,hr⟩:=p.sat hs
 exact ⟨v,trivial,sat_join (H1:=[_,_,_]) s hp hr⟩
theorem dbR_pack {mb:Nat} {q:Option Nat} {t:Int} {s:Sd} {Hr:List HP} (hq:q=some mb) (hs0:s=zrS S g (zrY S g)) (ht:t=1) (sb:Sub H (pt b3 (.cells #[.map q,.int .i64 s.a,.int .i64 s.b,.int .i64 s.c,.int .i64 t] 98 (0,0))::pt b4 (.cells #[.bool true] 4 (0,0))::zrP g (zrY S g) mb::Hr)):∀ h,sat H h→sat (DbR S b3 b4 (some g)::Hr) h:=fun h hs=>by
 subst hq ht hs0
 obtain ⟨h1,h2,s2,hp,hr⟩:=sat_app (H1:=[_,_,_]) (sb.sat hs)
 exact ⟨h1,h2,s2,⟨mb,hp⟩,hr⟩
theorem dbP_no {mb:Nat} (h:¬ Dbt S):∀ h,sat H h→sat (dbP S mb::H) h:=fun _ hs=>⟨fun _=>none,_,split_none _,fun q=>absurd q h,hs⟩
theorem dbP_yes {mb:Nat} (h:Dbt S) (p:Pick (zrP (hitG S) (zrY S (hitG S)) mb) H H'):∀ h,sat H h→sat (dbP S mb::H') h:=fun hh hs=>by
 obtain ⟨h1,h2,s,hp,hr⟩:=p.sat hs
 obtain ⟨ys,e,ez⟩:=dbt_def h.hit.2
 exact ⟨h1,h2,s,fun _=>⟨ys,e,hp ys ez⟩,hr⟩
end
theorem c_doubt (w:World) (p:Addr) (rv sv:Value) (rl:List Rn) (hT:Tbl w.heap.size w p rv sv rl) (hok:OkRs rl) (hl:rl.length≤12) :
 Ct Tryz.prog 38 [.pointer (some p)].toArray w fun v w'=>∃ Hq,(∃ mb:Nat,v=.tuple #[mdV (.map (dbQ (sds rl) mb)) (dbS (sds rl)) (dbT (sds rl)),.bool (bl (Dbt (sds rl)))]∧Hq=[dbP (sds rl) mb])∧Inv w [] Hq w':=by
 refine Ct.ofI mixed tyTab Tryz.func38 rfl rfl ?_
 replace hT:Tbl (fnCx mixed tyTab Tryz.f38.ntmps w).B (fnCx mixed tyTab Tryz.f38.ntmps w).w0 p rv sv rl:=hT
 have hsl:=sds_len rl
 refine W.sreg (WO.box1 rfl (by rfl) rfl (fun b1 hb1=>(WO.alloc rfl rfl rfl (fun b2 hb2=>(WO.p rfl rfl (WO.nil (W.scope (W.sreg (WO.alloc rfl rfl rfl (fun b3 hb3=>(WO.nil (W.sreg (WO.alloc rfl rfl rfl (fun b4 hb4=>(WO.store1 rfl rfl rfl (by rfl) Pick.head rfl (WO.nil (W.seq (W.label (W.seq (W.sreg (WO.load rfl rfl (Cell.own (Pick.tail (Pick.tail (Pick.tail (Pick.head)))) rfl) rfl ?_)))))))))))))))))))))
 refine WO.call (Post:=fun v Hq=>∃ b1 b2,v=.func (.func 174) #[] #[.pointer (some ⟨b1,0,none⟩),.pointer (some ⟨b2,0,none⟩)]∧Hq=[pt b2 (.cells #[.int .i64 3] 3 (0,0)),pt b1 (.cells #[.pointer (some p)] 100 (0,0))]) rfl Tryz.call98 (fun L w hi=>c_groups w p 3) rfl ?_
 rintro _ _ ⟨b5,b6,rfl,rfl⟩
 refine WO.nil (W.block (W.chg (dbR_none (S:=sds rl) (b3:=b3) (b4:=b4) (by repeat first | exact .head | apply Pick.tail) (by repeat first | exact .head | apply Pick.tail)) ?_))
 refine W.rangeFuncB (Jmp.exit 0) [pt b6 (.cells #[.int .i64 ((3:Nat):Int)] 3 (0,0)),pt b5 (.cells #[.pointer (some p)] 100 (0,0))] (fun t=>[DbR (sds rl) b3 b4 (if t≤hitD (sds rl) then none else some (hitG (sds rl))),pt b1 (.cells #[.pointer (some p)] 100 (0,0)),pt b2 (.cells #[.map none,.int .i64 0,.int .i64 0,.int .i64 0,.int .i64 0] 98 (0,0))]) (grS (sds rl)) (fun g1 v1=>OwE encI 3 1 v1 g1) (hitD (sds rl)) rfl rfl rfl Tryz.call174 (by repeat (first | exact Sub.nil | refine Sub.cons (by repeat first | exact .head | apply Pick.tail) ?_)) ?_ ?_ ?_ ?_
 ·intro ll Hc hy w1 M1 hB1 hk1 hM1 hi1
  exact c_groups1 _ _ p rv sv rl hT (sds rl).length rfl 3 (by omega) (by omega) _ ll Hc hy b5 b6 w1 M1 hB1 hk1 hM1 hi1
 ·intro ll w1 M1 hB1 hM1 hk1 t g1 v1 hx hle1
  have hgr:=(grp_ok (by omega) (List.mem_of_getElem? hx)).1
  replace hT:=hT.agree hk1
  rw [if_pos hle1]
  refine W.region (WO.p rfl rfl (WO.nil (W.block (W.sreg (WO.load rfl rfl (Cell.own (Pick.tail (Pick.tail (Pick.head))) rfl) rfl (WO.p rfl rfl (WO.call (Post:=fun v Hq=>∃ mb:Nat,v=zrV (sds rl) g1 (zrY (sds rl) g1) mb∧Hq=[zrP g1 (zrY (sds rl) g1) mb]) rfl Tryz.call99 (fun L w hi=>c_zero w p rv sv rl (hT.later hi) hok v1 g1 (RdF.of_ow (e:=3) encI_ok (by repeat exact .head) hi) hgr) rfl ?_)))))))
  rintro _ _ ⟨mb,rfl,rfl⟩
  refine WO.alloc rfl rfl rfl (fun b5 hb5=>(WO.storeA rfl rfl rfl rfl Pick.head rfl rfl (WO.nil (W.sreg (WO.fieldL rfl rfl rfl (WO.load rfl rfl (Cell.own Pick.head rfl) rfl (WO.p rfl rfl (WO.p rfl rfl ?_))))))))
  refine WO.guard_bl rfl rfl (fun c1=>?_) (fun c1=>?_)
  ·refine WO.go' rfl (WO.fieldL rfl rfl rfl (WO.go' rfl (WO.loadA rfl rfl (Cells.ownAt (n:=3) Pick.head rfl) rfl rfl (WO.go' rfl (WO.callR rfl Tryz.call100 (fun L w hi=>c_flat w (zrS (sds rl) g1 (zrY (sds rl) g1))) rfl (WO.go' rfl (WO.build rfl rfl rfl rfl rfl (WO.go' rfl (WO.eqT rfl rfl (eq124z (zrS (sds rl) g1 (zrY (sds rl) g1)).a (zrS (sds rl) g1 (zrY (sds rl) g1)).b) rfl (WO.p rfl rfl (WO.p rfl rfl ?_)))))))))))
   refine WO.guard_bl rfl rfl (fun c2=>?_) (fun c2=>?_)
   ·refine WO.go' rfl (WO.fieldL rfl rfl rfl (WO.go' rfl (WO.indexArrL (o':=3) rfl rfl rfl (by decide) rfl rfl (WO.go' rfl (WO.load rfl rfl (Cell.own Pick.head rfl) rfl (WO.pg rfl rfl rfl (WO.p rfl rfl (WO.nil ?_))))))))
    refine W.cond_bl rfl (fun c3=>?_) (fun c3=>?_)
    ·refine W.chg (dbR_open (S:=sds rl) (b3:=b3) (b4:=b4) (by repeat first | exact .head | apply Pick.tail)) (W.sreg (WO.loadA rfl rfl (Cells.own (Pick.tail (Pick.tail (Pick.head)))) rfl rfl (WO.storeA rfl rfl rfl rfl Pick.head rfl rfl (WO.store1 rfl rfl rfl (by rfl) (Pick.tail (Pick.head)) rfl (WO.nil (W.exit (blk_other rfl ?_)))))))
     have hds:=dbt_some.2 ⟨by assumption,by assumption,by assumption⟩
     have htt:=fi_eq (p:=fun g=>(dbt (sds rl) g).isSome) hx hle1 hds
     obtain ⟨ys,_,hzy⟩:=dbt_def hds
     refine endR.stop (bl_f.2 (by have:t=hitD (sds rl):=htt;omega)) rfl ?_
     rw [if_neg (show ¬ t+1≤hitD (sds rl) by have:t=hitD (sds rl):=htt;omega),show hitG (sds rl)=g1 by unfold hitG;rw [← (show t=hitD (sds rl) from htt),List.getD_eq_getElem?_getD,hx];rfl]
     exact dbR_pack (mb:=mb) (q:=(zrY (sds rl) g1).map fun _=>mb) (s:=zrS (sds rl) g1 (zrY (sds rl) g1)) (t:=zrT (zrY (sds rl) g1)) (by rw [hzy];rfl) rfl (by rw [hzy];rfl) (by repeat (first | exact Sub.nil | refine Sub.cons (by repeat first | exact .head | apply Pick.tail) ?_))
    ·refine W.skip ?_
     have hlt:=fi_ne (p:=fun g=>(dbt (sds rl) g).isSome) hx hle1 (fun q=>by have:=dbt_some.1 q;omega)
     refine endR.go (bl_t.2 hlt) ?_
     rw [if_pos (show t+1≤hitD (sds rl) from hlt)]
     exact fun h hs=>Sub.sat (by repeat (first | exact Sub.nil | refine Sub.cons (by repeat first | exact .head | apply Pick.tail) ?_)) hs
   ·refine WO.no rfl rfl (WO.no rfl rfl (WO.no rfl rfl (WO.no rfl rfl (WO.p rfl rfl (WO.nil (W.cond_f rfl (W.skip ?_)))))))
    have hlt:=fi_ne (p:=fun g=>(dbt (sds rl) g).isSome) hx hle1 (fun q=>by have:=dbt_some.1 q;omega)
    refine endR.go (bl_t.2 hlt) ?_
    rw [if_pos (show t+1≤hitD (sds rl) from hlt)]
    exact fun h hs=>Sub.sat (by repeat (first | exact Sub.nil | refine Sub.cons (by repeat first | exact .head | apply Pick.tail) ?_)) hs
  ·refine WO.no rfl rfl (WO.no rfl rfl (WO.no rfl rfl (WO.no rfl rfl (WO.no rfl rfl (WO.p rfl rfl (WO.p rfl rfl (WO.no rfl rfl (WO.no rfl rfl (WO.no rfl rfl (WO.no rfl rfl (WO.p rfl rfl (WO.nil (W.cond_f rfl (W.skip ?_))))))))))))))
   have hlt:=fi_ne (p:=fun g=>(dbt (sds rl) g).isSome) hx hle1 (fun q=>by have:=dbt_some.1 q;omega)
   refine endR.go (bl_t.2 hlt) ?_
   rw [if_pos (show t+1≤hitD (sds rl) from hlt)]
   exact fun h hs=>Sub.sat (by repeat (first | exact Sub.nil | refine Sub.cons (by repeat first | exact .head | apply Pick.tail) ?_)) hs
 ·intro hAll
  rw [if_pos hAll]
  refine W.chg (dbR_open (S:=sds rl) (b3:=b3) (b4:=b4) (by repeat first | exact .head | apply Pick.tail)) ?_
  have hnd:¬ Dbt (sds rl):=by unfold Dbt;omega
  refine W.chg (dbP_no (mb:=0) hnd) (W.seq ?_)
  refine W.drawD 3 [.b 0 [],.b 1 [],.s 2 []] [] (A0:=[_]) (H0:=[_,_,_,_,_,_]) (.cons (Pick.tail (Pick.tail (Pick.tail (Pick.tail (Pick.tail (Pick.tail .head)))))) (.cons .head (.cons .head (.cons .head (.cons .head (.cons .head (.cons .head .nil))))))) (by kernel_rfl) ?_ ?_
  ·exact (ALok.b (ALok.b (ALok.s ALok.nil)))
  refine DT.b rfl rfl rfl (WO.loadA rfl rfl (Cells.own (Pick.tail (Pick.head))) rfl rfl (WO.nil ⟨rfl,rfl⟩)) (DT.b rfl rfl rfl (WO.load rfl rfl (Cell.own (Pick.tail (Pick.tail (Pick.head))) rfl) rfl (WO.nil ⟨rfl,rfl⟩)) (DT.s [_,_,_,_,_,_,_] rfl rfl rfl (WO.storeA rfl rfl rfl rfl Pick.head rfl rfl ?_)))
  refine WO.nil ⟨[_],rfl,rfl,(Keep.b (Keep.b Keep.nil)),?_⟩
  refine DT.nil [_,_,_,_,_,_,_] rfl (WO.p rfl rfl (WO.nil (W.ret (fin.ret (Res.two rfl (RV.cell rfl rfl rfl (Cells.own (by repeat exact .head))) (RV.tmp rfl)) ?_))))
  first | exact ⟨0,by rw [show dbQ (sds rl) 0=none from if_neg hnd,show dbS (sds rl)=sd0 from if_neg hnd,show dbT (sds rl)=0 from if_neg hnd,bl_f.2 hnd] <;> rfl,fun h hs=>Sub.sat (by repeat (first | exact Sub.nil | refine Sub.cons (by repeat first | exact .head | apply Pick.tail) ?_)) hs⟩ | exact ⟨mb,by rw [show dbQ (sds rl) mb=some mb from if_pos hyd,show dbS (sds rl)=_ from if_pos hyd,show dbT (sds rl)=1 from if_pos hyd,bl_t.2 hyd] <;> rfl,fun h hs=>Sub.sat (by repeat (first | exact Sub.nil | refine Sub.cons (by repeat first | exact .head | apply Pick.tail) ?_)) hs⟩
 ·intro hStop
  rw [if_neg (show ¬ hitD (sds rl)+1≤hitD (sds rl) by omega)]
  have hyd:Dbt (sds rl):=hStop
  refine W.chgE (dbR_some (S:=sds rl) (b3:=b3) (b4:=b4) (by repeat first | exact .head | apply Pick.tail)) ?_
  rintro mb -
  refine W.chg (dbP_yes (mb:=mb) hyd (by repeat first | exact .head | apply Pick.tail)) (W.exit (blk_same (W.seq ?_)))
  refine W.drawD 3 [.b 0 [],.b 1 [],.s 2 []] [] (A0:=[_]) (H0:=[_,_,_,_,_,_]) (.cons (Pick.tail (Pick.tail (Pick.tail (Pick.tail (Pick.tail (Pick.tail .head)))))) (.cons .head (.cons .head (.cons .head (.cons .head (.cons .head (.cons .head .nil))))))) (by kernel_rfl) ?_ ?_
  ·exact (ALok.b (ALok.b (ALok.s ALok.nil)))
  refine DT.b rfl rfl rfl (WO.loadA rfl rfl (Cells.own (Pick.tail (Pick.head))) rfl rfl (WO.nil ⟨rfl,rfl⟩)) (DT.b rfl rfl rfl (WO.load rfl rfl (Cell.own (Pick.tail (Pick.tail (Pick.head))) rfl) rfl (WO.nil ⟨rfl,rfl⟩)) (DT.s [_,_,_,_,_,_,_] rfl rfl rfl (WO.storeA rfl rfl rfl rfl Pick.head rfl rfl ?_)))
  refine WO.nil ⟨[_],rfl,rfl,(Keep.b (Keep.b Keep.nil)),?_⟩
  refine DT.nil [_,_,_,_,_,_,_] rfl (WO.p rfl rfl (WO.nil (W.ret (fin.ret (Res.two rfl (RV.cell rfl rfl rfl (Cells.own (by repeat exact .head))) (RV.tmp rfl)) ?_))))
  first | exact ⟨0,by rw [show dbQ (sds rl) 0=none from if_neg hnd,show dbS (sds rl)=sd0 from if_neg hnd,show dbT (sds rl)=0 from if_neg hnd,bl_f.2 hnd] <;> rfl,fun h hs=>Sub.sat (by repeat (first | exact Sub.nil | refine Sub.cons (by repeat first | exact .head | apply Pick.tail) ?_)) hs⟩ | exact ⟨mb,by rw [show dbQ (sds rl) mb=some mb from if_pos hyd,show dbS (sds rl)=_ from if_pos hyd,show dbT (sds rl)=1 from if_pos hyd,bl_t.2 hyd] <;> rfl,fun h hs=>Sub.sat (by repeat (first | exact Sub.nil | refine Sub.cons (by repeat first | exact .head | apply Pick.tail) ?_)) hs⟩
end Go.Proofs.YtncjabmlkgacdaaGreat.Sp
namespace Go.Proofs.YtncjabmlkgacdaaGreat.Sp
open Go Go.TH
attribute [local irreducible] W WO pt
set_option maxRecDepth 10000
set_option maxHeartbeats 1000000
abbrev Md:=Nat × Sd × Int
def encMd (x:Md):List Value:=[.map (some x.1),.int .i64 x.2.1.a,.int .i64 x.2.1.b,.int .i64 x.2.1.c,.int .i64 x.2.2]
theorem encMd_ok:EncOk encMd 5:=⟨fun _=>rfl,fun x u hu=>by simp [encMd] at hu;rcases hu with rfl | rfl | rfl | rfl | rfl <;> rfl,by omega⟩
def md0:Md:=(0,sd0,0)
abbrev Mds.at (xs:List Md) (i:Nat):Md:=xs.getD i md0
structure OkM (x:Sd × Int):Prop where
 c : -400000000≤x.1.c∧x.1.c≤400000000
 t:0<x.2∧x.2≤1000
def gtM (x y:Sd × Int):Prop:=y.1.c*x.2<x.1.c*y.2
instance (x y:Sd × Int):Decidable (gtM x y):=by unfold gtM;infer_instance
theorem red_lt {n d m e:Int} (hd:0<d) (he:0<e):(red n d).1*(red m e).2<(red m e).1*(red n d).2↔n*e<m*d:=by
 obtain ⟨g,hg,h1,h2,_⟩:=red_parts n hd
 obtain ⟨k,hk,h3,h4,_⟩:=red_parts m he
 generalize red n d=u at *
 generalize red m e=v at *
 have e1:n*e=u.1*v.2*(g*k):=by rw [h1,h4];grind
 have e2:m*d=v.1*u.2*(g*k):=by rw [h3,h2];grind
 have hp:=Int.mul_pos hg hk
 rw [e1,e2]
 constructor
 ·exact fun h=>Int.mul_lt_mul_of_pos_right h hp
 ·intro h
  rcases Int.lt_or_le (u.1*v.2) (v.1*u.2) with q | q
  ·exact q
  ·have:=Int.mul_le_mul_of_nonneg_right q (Int.le_of_lt hp);omega
theorem red_in {n d:Int} (hn : -400000000≤n∧n≤400000000) (hd:0<d∧d≤1000):(-400000000≤(red n d).1∧(red n d).1≤400000000)∧0<(red n d).2∧(red n d).2≤1000:=by
 obtain ⟨g,hg,h1,h2,h3,h4,h5⟩:=red_parts n hd.1
 unfold ab at h5
 omega
theorem c_bound (w:World) (x:Md) (h:OkM x.2):Ret Tryz.prog 52 [mdV (.map (some x.1)) x.2.1 x.2.2].toArray w (raV (red x.2.1.c x.2.2)):=by
 refine Ret.of mixed tyTab Tryz.func52 rfl rfl ?_
 obtain ⟨h1,h2⟩:=h
 refine W.sreg (WO.boxA rfl rfl (fun b1 hb1=>(WO.alloc rfl rfl rfl (fun b2 hb2=>(WO.nil (W.sreg (WO.fieldL rfl rfl rfl (WO.indexArrL (o':=3) rfl rfl rfl (by decide) rfl rfl (WO.load rfl rfl (Cell.own (Pick.tail (Pick.head)) rfl) rfl (WO.fieldL rfl rfl rfl (WO.load rfl rfl (Cell.own (Pick.tail (Pick.head)) rfl) rfl (WO.callR rfl Tryz.call92 (fun L w hi=>c_ratio w x.2.1.c x.2.2 (by omega) (by omega)) rfl (WO.storeA rfl rfl rfl rfl Pick.head rfl rfl (WO.nil (W.ret ?_)))))))))))))))
 exact fin.ret (Res.one rfl (RV.cell rfl rfl rfl (Cells.own Pick.head))) rfl
theorem c_boundQ (w:World) (q:Option Nat) (s:Sd) (t:Int) (h:OkM (s,t)):Ret Tryz.prog 52 [mdV (.map q) s t].toArray w (raV (red s.c t)):=by
 refine Ret.of mixed tyTab Tryz.func52 rfl rfl ?_
 obtain ⟨h1,h2⟩:=h
 dsimp only at h1 h2
 refine W.sreg (WO.boxA rfl rfl (fun b1 hb1=>(WO.alloc rfl rfl rfl (fun b2 hb2=>(WO.nil (W.sreg (WO.fieldL rfl rfl rfl (WO.indexArrL (o':=3) rfl rfl rfl (by decide) rfl rfl (WO.load rfl rfl (Cell.own (Pick.tail (Pick.head)) rfl) rfl (WO.fieldL rfl rfl rfl (WO.load rfl rfl (Cell.own (Pick.tail (Pick.head)) rfl) rfl (WO.callR rfl Tryz.call92 (fun L w hi=>c_ratio w s.c t (by omega) (by omega)) rfl (WO.storeA rfl rfl rfl rfl Pick.head rfl rfl (WO.nil (W.ret ?_)))))))))))))))
 exact fin.ret (Res.one rfl (RV.cell rfl rfl rfl (Cells.own Pick.head))) rfl
theorem c_before (w:World) (x y:Md) (hx:OkM x.2) (hy:OkM y.2):Ret Tryz.prog 183 [mdV (.map (some x.1)) x.2.1 x.2.2,mdV (.map (some y.1)) y.2.1 y.2.2].toArray w (.bool (bl (gtM x.2 y.2))):=by
 refine Ret.of mixed tyTab Tryz.func183 rfl rfl ?_
 have rx:=red_in hx.c hx.t
 have ry:=red_in hy.c hy.t
 have m1:=mul_bd (A:=400000000) (B:=1000) ry.1 (show -1000≤(red x.2.1.c x.2.2).2∧(red x.2.1.c x.2.2).2≤1000 by omega)
 have m2:=mul_bd (A:=400000000) (B:=1000) rx.1 (show -1000≤(red y.2.1.c y.2.2).2∧(red y.2.1.c y.2.2).2≤1000 by omega)
 refine W.sreg (WO.boxA rfl rfl (fun b1 hb1=>(WO.boxA rfl rfl (fun b2 hb2=>(WO.p rfl rfl (WO.nil (W.seq ?_)))))))
 refine W.drawD 3 [.b 0 [],.b 1 [],.b 2 []] [] (A0:=[]) (Sub.refl _) (by kernel_rfl) ?_ ?_
 ·repeat constructor
 refine DT.b rfl rfl rfl (WO.loadA rfl rfl (Cells.own Pick.head) rfl rfl (WO.nil ⟨rfl,rfl⟩)) (DT.b rfl rfl rfl (WO.callR rfl Tryz.call52 (fun L w hi=>c_bound w y hy) rfl (WO.nil ⟨rfl,rfl⟩)) (DT.b rfl rfl rfl (WO.loadA rfl rfl (Cells.own (Pick.tail (Pick.head))) rfl rfl (WO.nil ⟨rfl,rfl⟩)) (DT.nil [_,_] rfl (WO.callR rfl Tryz.call52 (fun L w hi=>c_bound w x hx) rfl ?_))))
 refine WO.callR (r:=.bool (bl (gtM x.2 y.2))) rfl Tryz.call159 (fun L w hi=>by have h:=c_less w (red y.2.1.c y.2.2).1 (red y.2.1.c y.2.2).2 (red x.2.1.c x.2.2).1 (red x.2.1.c x.2.2).2 (by unfold in64;omega) (by unfold in64;omega);rw [show bl ((red y.2.1.c y.2.2).1*(red x.2.1.c x.2.2).2<(red x.2.1.c x.2.2).1*(red y.2.1.c y.2.2).2)=bl (gtM x.2 y.2) by rw [bl_eq,bl_eq,decide_eq_decide];exact red_lt hy.t.1 hx.t.1] at h;exact h) rfl (WO.p rfl rfl (WO.nil (W.ret ?_)))
 exact fin.ret (Res.one rfl (RV.tmp rfl)) rfl
theorem RdF.cellsM {C:Cx Tryz.prog} {H:List HP} {o:Value} {xs:List Md} (h:RdF encMd 5 C.B C.w0 o xs) {i:Nat} (h1:i<xs.length):Cells C H (elt o i 5) [.map (some (Mds.at xs i).1),.int .i64 (Mds.at xs i).2.1.a,.int .i64 (Mds.at xs i).2.1.b,.int .i64 (Mds.at xs i).2.1.c,.int .i64 (Mds.at xs i).2.2]:=RdF.cells h h1 _
theorem tail_at {xs:List Md} {i:Nat} {n:Nat} (h:n=xs.length):Mds.at ((xs.drop 1).take (n-1)) i=Mds.at xs (i+1)∨xs.length≤i+1:=by
 subst h
 rcases Nat.lt_or_ge (i+1) xs.length with g | g
 ·refine .inl ?_
  simp only [Mds.at,List.getD_eq_getElem?_getD]
  rw [List.getElem?_take_of_lt (by omega),List.getElem?_drop,Nat.add_comm]
 ·exact .inr g
structure FirstM (xs:List Md) (n:Nat) (x:Md):Prop where
 mem:x∈xs
 max:∀ j,j<n→j<xs.length→¬ gtM (Mds.at xs j).2 x.2
theorem gtM_trans {x y z:Sd × Int} (hx:OkM x) (hy:OkM y) (hz:OkM z) (h1:gtM x y) (h2:¬ gtM z y):¬ gtM z x:=fun h3=>by
 unfold gtM at h1 h2 h3
 have k1:=Int.mul_lt_mul_of_pos_right h1 hz.t.1
 have k2:=Int.mul_le_mul_of_nonneg_right (Int.not_lt.1 h2) (Int.le_of_lt hx.t.1)
 have k3:=Int.mul_lt_mul_of_pos_right h3 hy.t.1
 have e1:x.1.c*y.2*z.2=x.1.c*z.2*y.2:=by grind
 have e2:y.1.c*z.2*x.2=y.1.c*x.2*z.2:=by grind
 have e3:z.1.c*x.2*y.2=z.1.c*y.2*x.2:=by grind
 omega
theorem first_no {xs:List Md} {i:Nat} {x:Md} (h:FirstM xs (i+1) x) (hn:¬ gtM (Mds.at xs (i+1)).2 x.2):FirstM xs (i+1+1) x :=
 ⟨h.mem,fun j hj hl=>by
  rcases Nat.lt_or_ge j (i+1) with g | g
  ·exact h.max j g hl
  ·obtain rfl:j=i+1:=by omega
   exact hn⟩
theorem first_yes {xs:List Md} {i:Nat} {x:Md} (h:FirstM xs (i+1) x) (hk:∀ x∈xs,OkM x.2) (hi:i+1<xs.length) (hn:gtM (Mds.at xs (i+1)).2 x.2):FirstM xs (i+1+1) (Mds.at xs (i+1)) :=
 ⟨getD_mem hi _,fun j hj hl=>by
  rcases Nat.lt_or_ge j (i+1) with g | g
  ·exact gtM_trans (hk _ (getD_mem hi _)) (hk _ h.mem) (hk _ (getD_mem hl md0)) hn (h.max j g hl)
  ·obtain rfl:j=i+1:=by omega
   unfold gtM;omega⟩
theorem c_first (w:World) (a:Option Addr) (c:Nat) (xs:List Md) (hR:RdF encMd 5 w.heap.size w (.slice a xs.length c) xs) (hcap:xs.length≤c) (h0:0<xs.length) (hk:∀ x∈xs,OkM x.2) :
 RetE Tryz.prog 182 [.slice a xs.length c,.func (.func 183) #[] #[]].toArray w (fun r=>∃ x,FirstM xs xs.length x∧r=.agg (encMd x).toArray):=by
 refine RetE.of mixed tyTab Tryz.func182 rfl rfl ?_
 replace hR:RdF encMd 5 (fnCx mixed tyTab Tryz.f182.ntmps w).B (fnCx mixed tyTab Tryz.f182.ntmps w).w0 (.slice a xs.length c) xs:=hR
 have hle:=hR.sl.le
 have hT:=hR.sub (lo:=1) (hi:=xs.length) (mx:=c) (by omega) hcap (Nat.le_refl _)
 generalize hsv:(Value.slice (if c=1 then a else ofs a (1*5)) (xs.length-1) (c-1))=sv at hT
 have hTl:((xs.drop 1).take (xs.length-1)).length=xs.length-1:=by rw [List.length_take,List.length_drop];omega
 have hTs:IsSl sv (xs.length-1):=hTl▸hT.sl
 refine W.sreg (WO.alloc rfl rfl rfl (fun b1 hb1=>(WO.nil (W.sreg (WO.p rfl rfl (WO.indexAddr (i:=0) rfl rfl rfl hR.sl (by omega) rfl (WO.loadA rfl rfl (RdF.cellsM hR (i:=0) h0) rfl rfl (WO.alloc rfl rfl rfl (fun b2 hb2=>(WO.storeA rfl rfl rfl rfl Pick.head rfl rfl (WO.nil (W.seq (W.sreg (WO.p rfl rfl (WO.slSl (lo:=1) (hi:=xs.length) (mx:=c) rfl rfl (bnd.at (n:=1) rfl) bnd.no bnd.no (fun h => (by cases h)) (by omega) hcap (Nat.le_refl _) rfl ?_)))))))))))))))
 rw [hsv]
 refine WO.len rfl rfl hTs rfl (WO.p rfl rfl (WO.nil (W.block ?_)))
 refine W.loop2 (fun (i:Nat) (x:Md)=>i≤xs.length-1∧FirstM xs (i+1) x)
  (fun (i:Nat) (x:Md)=>[(14,.int .i64 (i:Int)),(13,.int .i64 ((xs.length-1:Nat):Int)),(12,sv),(5,.pointer (some ⟨b2,0,none⟩)),(4,.pointer (some ⟨b1,0,none⟩)),(1,.func (.func 183) #[] #[])])
  (fun (i:Nat) (x:Md)=>[pt b2 (.cells #[.map (some x.1),.int .i64 x.2.1.a,.int .i64 x.2.1.b,.int .i64 x.2.1.c,.int .i64 x.2.2] 98 (0,0)),pt b1 (.cells #[.map none,.int .i64 0,.int .i64 0,.int .i64 0,.int .i64 0] 98 (0,0))])
  (fun (i:Nat) (x:Md)=>xs.length-1-i) 0 (Mds.at xs 0)
  (by exact ⟨by omega,getD_mem h0 _,fun j hj _=>by obtain rfl:j=0:=(by omega);unfold gtM;omega⟩) ⟨rfl,rfl,rfl,rfl,rfl,rfl,trivial⟩ (by repeat (first | exact Sub.nil | refine Sub.cons (by repeat exact .head) ?_)) ?_
 rintro i x ⟨hi0,hF⟩
 refine W.sreg (WO.p rfl rfl (WO.nil (W.seq ?_)))
 refine W.cond_bl rfl (fun c1=>?_) (fun c1=>?_)
 ·refine W.skip (W.seq (W.block ?_))
  have ht:=(tail_at (xs:=xs) (i:=i) rfl).resolve_right (by omega)
  refine W.sreg (WO.indexAddr rfl rfl rfl hTs (by omega) rfl (WO.loadA rfl rfl (RdF.cellsM hT (i:=i) (by omega)) rfl rfl (WO.alloc rfl rfl rfl (fun b3 hb3=>(WO.storeA rfl rfl rfl rfl Pick.head rfl rfl (WO.nil (W.sreg (WO.p rfl rfl (WO.loadA rfl rfl (Cells.own Pick.head) rfl rfl (WO.loadA rfl rfl (Cells.own (Pick.tail (Pick.head))) rfl rfl (WO.callCR (first:=[]) (captured:=[]) rfl rfl Tryz.call183 (fun L w hi'=>by rw [ht];exact c_before w (Mds.at xs (i+1)) x (hk _ (getD_mem (by omega) _)) (hk _ hF.mem)) rfl (WO.nil ?_))))))))))))
  refine W.cond_bl rfl (fun c2=>?_) (fun c2=>?_)
  ·refine W.region (WO.loadA rfl rfl (Cells.own Pick.head) rfl rfl (WO.storeA rfl rfl rfl rfl (Pick.tail (Pick.head)) rfl rfl (WO.nil (W.region (WO.ar rfl rfl rfl (by unfold in64;omega) rfl (WO.p rfl rfl (WO.nil ?_)))))))
   refine' ⟨i+1,_,?hp,?hmu,⟨rfl,rfl,rfl,rfl,rfl,rfl,trivial⟩,?hS⟩
   case hS=>repeat (first | exact Sub.nil | refine Sub.cons (by repeat first | exact .head | apply Pick.tail) ?_)
   case hp=>exact ⟨by omega,by rw [ht];exact first_yes hF hk (by omega) (by assumption)⟩
   case hmu=>omega
  ·refine W.skip (W.region (WO.ar rfl rfl rfl (by unfold in64;omega) rfl (WO.p rfl rfl (WO.nil ?_))))
   refine' ⟨i+1,_,?hp,?hmu,⟨rfl,rfl,rfl,rfl,rfl,rfl,trivial⟩,?hS⟩
   case hS=>repeat (first | exact Sub.nil | refine Sub.cons (by repeat first | exact .head | apply Pick.tail) ?_)
   case hp=>exact ⟨by omega,first_no hF (by assumption)⟩
   case hmu=>omega
 ·refine W.exit (blk_same (W.sreg (WO.loadA rfl rfl (Cells.own Pick.head) rfl rfl (WO.storeA rfl rfl rfl rfl (Pick.tail (Pick.head)) rfl rfl (WO.nil (W.ret ?_))))))
  obtain rfl:i=xs.length-1:=by omega
  refine fin.ret (Res.one rfl (RV.cell rfl rfl rfl (Cells.own (by repeat exact .head)))) ⟨x,?_,rfl⟩
  rw [show xs.length-1+1=xs.length by omega] at hF;exact hF
end Go.Proofs.YtncjabmlkgacdaaGreat.Sp
namespace Go.Proofs.YtncjabmlkgacdaaGreat.Sp
open Go Go.TH
attribute [local irreducible] W WO pt
set_option maxRecDepth 10000
set_option maxHeartbeats 1000000
def mst1 (a:Sd) (p q:Int):Option (List Int × Int):=if fit2 a ⟨p,q,0⟩ (siz ⟨p,q,0⟩) (-(siz a)) then some ([siz ⟨p,q,0⟩],siz a) else none
def mst2 (a b:Sd) (p q:Int):Option (List Int × Int) :=
 if crs a b<0 then (if 0 < -(crs a b)∧0 ≤ -(crs ⟨p,q,0⟩ b)∧0 ≤ -(crs a ⟨p,q,0⟩) then some ([-(crs ⟨p,q,0⟩ b),-(crs a ⟨p,q,0⟩)],-(crs a b)) else none)
 else (if 0<crs a b∧0≤crs ⟨p,q,0⟩ b∧0≤crs a ⟨p,q,0⟩ then some ([crs ⟨p,q,0⟩ b,crs a ⟨p,q,0⟩],crs a b) else none)
def mstG (S:List Sd) (p q:Int) (g:List Int):Option (List Int × Int):=if g.length=1 then mst1 (atS S g 0) p q else mst2 (atS S g 0) (atS S g 1) p q
def mstL (S:List Sd) (p q:Int) (g:List Int):List (Sd × Int):=match mstG S p q g with
 | some x=>[(tkS S g x.1 g.length,x.2)]
 | none=>[]
abbrev g2S (S:List Sd):List (List Int):=grp 2 S.length
def msts (S:List Sd) (p q:Int) (k:Nat):List (Sd × Int):=((g2S S).take k).flatMap (mstL S p q)
abbrev mstA (S:List Sd) (p q:Int):List (Sd × Int):=(g2S S).flatMap (mstL S p q)
theorem msts_succ {S:List Sd} {p q:Int} {k:Nat} {g:List Int} (h:(g2S S)[k]?=some g):msts S p q (k+1)=msts S p q k++mstL S p q g:=by
 unfold msts;rw [List.take_add_one,h,List.flatMap_append];simp
theorem msts_end (S:List Sd) (p q:Int):msts S p q (g2S S).length=mstA S p q:=by unfold msts;rw [List.take_length]
theorem mstL_len (S:List Sd) (p q:Int) (g:List Int):(mstL S p q g).length≤1:=by unfold mstL;split <;> simp
theorem msts_len (S:List Sd) (p q:Int):∀ k,(msts S p q k).length≤k
 | 0=>by simp [msts]
 | k+1=>by
  have ih:=msts_len S p q k
  cases h:(g2S S)[k]? with
  | none =>
   have hl:=List.getElem?_eq_none_iff.1 h
   have e:msts S p q (k+1)=msts S p q k:=by unfold msts;rw [List.take_of_length_le hl,List.take_of_length_le (by omega)]
   rw [e];omega
  | some g =>
   rw [msts_succ h,List.length_append]
   have:=mstL_len S p q g
   omega
theorem seg_le {β:Type} {lo:Nat} {g:Nat→List β} {B:Nat} (h:∀ i,(g i).length≤B):∀ {hi:Nat},(seg lo hi g).length≤hi*B
 | 0=>by unfold seg;simp
 | hi+1=>by
  rcases Nat.lt_or_ge hi lo with c | c
  ·unfold seg;rw [show hi+1-lo=0 by omega];simp
  ·rw [seg_succ c,List.length_append,Nat.succ_mul]
   have:=seg_le (lo:=lo) h (hi:=hi)
   have:=h hi
   omega
theorem g2_len {S:List Sd} (h:S.length≤24):(g2S S).length≤1000:=by
 have h2:∀ a,(F1 2 S.length a).length≤25:=fun a=>by
  unfold F1
  rw [List.length_cons]
  have:=seg_le (lo:=a+1) (g:=F2 2 S.length a) (B:=1) (fun b=>by unfold F2;simp) (hi:=S.length)
  omega
 have:=seg_le (lo:=0) h2 (hi:=S.length)
 have e:(g2S S).length=(seg 0 S.length (F1 2 S.length)).length:=rfl
 rw [e]
 have:S.length*25≤600:=by omega
 omega
theorem want_ok {p q:Int} (hp:OkN p) (hq:OkN q):OkS 20 1000000 ⟨p,q,0⟩:=⟨hp,hq,by dsimp only;omega,by dsimp only;omega⟩
theorem mst_ok {S:List Sd} (hS:∀ s∈S,OkS 20 100000 s) {p q:Int} (hp:OkN p) (hq:OkN q) {g:List Int} (hg:Grp S.length g) (h2:g.length≤2) {x:List Int × Int} (h:mstG S p q g=some x):x.1.length=g.length∧(∀ y∈x.1,-1000≤y∧y≤1000)∧(-1000≤x.2∧x.2≤1000):=by
 have hgn:=hg.len
 have hat:∀ i,i<g.length→OkS 20 1000000 (atS S g i):=fun i hi=>(hS _ (getD_mem (show (g.getD i 0).toNat<S.length by have:=hg.rng _ (getD_mem hi 0);omega) sd0)).up (by omega) (by omega)
 have hw:=want_ok hp hq
 have zw:=siz_bd hw
 have s0:=hat 0 (by omega)
 have z0:=siz_bd s0
 unfold mstG at h
 split at h
 ·rename_i h1
  unfold mst1 at h
  split at h
  ·cases h
   exact ⟨h1.symm,fun y hy=>by simp at hy;subst hy;omega,by dsimp only;omega⟩
  ·cases h
 ·rename_i h1
  have s1:=hat 1 (by omega)
  have c1:=(crs_bd s0 s1).2.2
  have c2:=(crs_bd hw s1).2.2
  have c3:=(crs_bd s0 hw).2.2
  unfold mst2 at h
  split at h
  ·split at h
   ·cases h
    exact ⟨by show 2=_;omega,y2_bd (by omega) (by omega),by dsimp only;omega⟩
   ·cases h
  ·split at h
   ·cases h
    exact ⟨by show 2=_;omega,y2_bd (by omega) (by omega),by dsimp only;omega⟩
   ·cases h
theorem siz_pos {s:Sd} (h:s.a≠0∨s.b≠0):0<siz s:=by unfold siz ab;omega
theorem mst_pos {S:List Sd} (hn:∀ s∈S,s.a≠0∨s.b≠0) {p q:Int} {g:List Int} (hg:Grp S.length g) {x:List Int × Int} (h:mstG S p q g=some x):0<x.2:=by
 have hgn:=hg.len
 unfold mstG at h
 split at h
 ·unfold mst1 at h
  split at h
  ·cases h
   exact siz_pos (hn _ (getD_mem (show (g.getD 0 0).toNat<S.length by have:=hg.rng _ (getD_mem (show 0<g.length by omega) 0);omega) sd0))
  ·cases h
 ·unfold mst2 at h
  split at h
  ·split at h
   ·rename_i c;cases h;exact c.1
   ·cases h
  ·split at h
   ·rename_i c;cases h;exact c.1
   ·cases h
theorem mstL_ok {S:List Sd} (hS:∀ s∈S,OkS 20 100000 s) (hn:∀ s∈S,s.a≠0∨s.b≠0) {p q:Int} (hp:OkN p) (hq:OkN q) {g:List Int} (hg:Grp S.length g) (h2:g.length≤2):∀ y∈mstL S p q g,OkM y:=fun y hy=>by
 unfold mstL at hy
 cases h:mstG S p q g with
 | none=>rw [h] at hy;simp at hy
 | some x =>
  rw [h] at hy
  obtain rfl:y=(tkS S g x.1 g.length,x.2):=by simpa using hy
  obtain ⟨a1,a2,a3⟩:=mst_ok hS hp hq hg h2 h
  have a4:=mst_pos hn hg h
  have a5:=(tkS_bd hS hg.rng a2 a1 (i:=g.length) (Nat.le_refl _)).c
  exact ⟨by dsimp only;omega,by dsimp only;omega⟩
theorem mstA_ok {S:List Sd} (hS:∀ s∈S,OkS 20 100000 s) (hn:∀ s∈S,s.a≠0∨s.b≠0) {p q:Int} (hp:OkN p) (hq:OkN q):∀ y∈mstA S p q,OkM y:=fun y hy=>by
 obtain ⟨g,hg,h⟩:=List.mem_flatMap.1 hy
 have:=grp_ok (m:=2) (by omega) hg
 exact mstL_ok hS hn hp hq this.1 this.2 y h
theorem sds_nz {l:List Rn} (h:OkRs l):∀ s∈sds l,s.a≠0∨s.b≠0:=fun s hs=>by
 obtain ⟨r,hr,hm⟩:=List.mem_flatMap.1 hs
 have h3:=(h r hr).2.2.1
 have:s=loS r∨s=hiS r:=by simpa using hm
 rcases this with rfl | rfl
 ·exact h3
 ·show -r.p≠0 ∨ -r.q≠0;omega
def AllP (b:Nat) (cs:List (Sd × Int)):HP:=fun h=>∃ (v:Value) (xs:List Md),xs.map (·.2)=cs∧sat [pt b (.cells #[v] 297 (0,0)),OwE encMd 98 5 v xs] h
def AllV (b:Nat) (v:Value) (cs:List (Sd × Int)):HP:=fun h=>∃ (xs:List Md),xs.map (·.2)=cs∧sat [pt b (.cells #[v] 297 (0,0)),OwE encMd 98 5 v xs] h
theorem all_open1 {b:Nat} {cs:List (Sd × Int)} {H H':List HP} (p:Pick (AllP b cs) H H'):∀ h,sat H h→∃ v:Value,True∧sat (AllV b v cs::H') h:=fun h hs=>by
 obtain ⟨h1,h2,s,⟨gv,xs,e,hp⟩,hr⟩:=p.sat hs
 exact ⟨gv,trivial,h1,h2,s,⟨xs,e,hp⟩,hr⟩
theorem all_open2 {b:Nat} {v:Value} {cs:List (Sd × Int)} {H:List HP}:∀ h,sat (AllV b v cs::H) h→∃ xs:List Md,xs.map (·.2)=cs∧sat (pt b (.cells #[v] 297 (0,0))::OwE encMd 98 5 v xs::H) h:=fun h hs=>by
 obtain ⟨h1,h2,s,⟨xs,e,hp⟩,hr⟩:=hs
 exact ⟨xs,e,sat_join (H1:=[_,_]) s hp hr⟩
theorem all_pack {b:Nat} {gv:Value} {xs:List Md} {cs:List (Sd × Int)} {H Hr:List HP} (s:Sub H (pt b (.cells #[gv] 297 (0,0))::OwE encMd 98 5 gv xs::Hr)) (e:xs.map (·.2)=cs):∀ h,sat H h→sat (AllP b cs::Hr) h:=fun h hs=>by
 obtain ⟨h1,h2,s2,hp,hr⟩:=sat_app (H1:=[_,_]) (s.sat hs)
 exact ⟨h1,h2,s2,⟨gv,xs,e,hp⟩,hr⟩
theorem all_nil {b:Nat} {H H':List HP} (p:Pick (pt b (.cells #[.slice none 0 0] 297 (0,0))) H H'):∀ h,sat H h→sat (AllP b []::H') h:=fun h hs =>
 all_pack (xs:=[]) (.cons (.tail .head) (.cons .head (Sub.refl _))) rfl h (owNil (enc:=encMd) (e:=98) (sz:=5) h (p.sat hs))
theorem OwE.formCap {α:Type} {P:Program} {C:Cx P} {H H':List HP} {enc:α→List Value} {e sz:Nat} {v:Value} {xs:List α} (p:Pick (OwE enc e sz v xs) H H'):∀ (L:List HP) w,Inv C.w0 C.M (L++H) w→∃ a c,v=.slice a xs.length c∧xs.length≤c:=fun L w hi=>by
 obtain ⟨_,hcase⟩:=OwC.open (hi.pickL p)
 rcases hcase with ⟨h1,h2,_⟩ | ⟨g,cap,cur,rfl,q1,_⟩
 ·exact ⟨none,0,by rw [h1,h2],by omega⟩
 ·exact ⟨_,_,rfl,q1⟩
def Bnd (S:List Sd) (p q:Int):Prop:=(p=0∧q=0)∨mstA S p q≠[]
instance (S:List Sd) (p q:Int):Decidable (Bnd S p q):=by unfold Bnd;infer_instance
structure MostI (S:List Sd) (p q:Int) (x:Sd × Int):Prop where
 mem:(p=0∧q=0∧x=(sd0,1))∨(¬ (p=0∧q=0)∧x∈mstA S p q)
 max:∀ y∈mstA S p q,¬ (p=0∧q=0)→¬ gtM y x
theorem MostI.ok {l:List Rn} (h:OkRs l) {p q:Int} (hp:OkN p) (hq:OkN q) {x:Sd × Int} (hm:MostI (sds l) p q x):OkM x:=by
 rcases hm.mem with ⟨_,_,rfl⟩ | ⟨_,g⟩
 ·exact ⟨by simp [sd0],by simp⟩
 ·exact mstA_ok (sds_ok h) (sds_nz h) hp hq x g
theorem firstM_most {S:List Sd} {p q:Int} (h0:¬ (p=0∧q=0)) {xs:List Md} {x:Md} (e:xs.map (·.2)=mstA S p q) (h:FirstM xs xs.length x):MostI S p q x.2:=by
 refine ⟨.inr ⟨h0,e▸List.mem_map_of_mem h.mem⟩,fun y hy _=>?_⟩
 rw [← e] at hy
 obtain ⟨z,hz,rfl⟩:=List.mem_map.1 hy
 obtain ⟨j,hj,rfl⟩:=List.getElem_of_mem hz
 have:=h.max j hj hj
 have e2:Mds.at xs j=xs[j]:=by simp [Mds.at,hj]
 rwa [e2] at this
end Go.Proofs.YtncjabmlkgacdaaGreat.Sp
namespace Go.Proofs.YtncjabmlkgacdaaGreat.Sp
open Go Go.TH
def fitS (s:Sd) (t:Tru):Prop:=s.c*t.d≤s.a*t.a+s.b*t.b
theorem fitL_iff {l:List Rn} {t:Tru}:fitL l t↔∀ s∈sds l,fitS s t:=by
 constructor
 ·intro h s hs
  obtain ⟨r,hr,hm⟩:=List.mem_flatMap.1 hs
  have h1:=h r hr
  unfold fitR at h1
  have:s=loS r∨s=hiS r:=by simpa using hm
  rcases this with rfl | rfl
  ·exact h1.1
  ·show -r.hi*t.d ≤ -r.p*t.a + -r.q*t.b
   rw [Int.neg_mul,Int.neg_mul,Int.neg_mul];omega
 ·intro h r hr
  have h1:fitS (loS r) t:=h _ (List.mem_flatMap.2 ⟨r,hr,by simp⟩)
  have h2:fitS (hiS r) t:=h _ (List.mem_flatMap.2 ⟨r,hr,by simp⟩)
  have h3 : -r.hi*t.d ≤ -r.p*t.a + -r.q*t.b:=h2
  rw [Int.neg_mul,Int.neg_mul,Int.neg_mul] at h3
  exact ⟨h1,by omega⟩
theorem fitS.by_ {s:Sd} {t:Tru} {y:Int} (h:fitS s t) (hy:0≤y):fitS (byS s y) t:=by
 unfold fitS at h
 have h1:=Int.mul_le_mul_of_nonneg_right h hy
 show s.c*y*t.d≤s.a*y*t.a+s.b*y*t.b
 have e1:s.c*y*t.d=s.c*t.d*y:=by grind
 have e2:s.a*y*t.a+s.b*y*t.b=(s.a*t.a+s.b*t.b)*y:=by grind
 omega
theorem fitS.add {s o:Sd} {t:Tru} (h:fitS s t) (g:fitS o t):fitS (addS s o) t:=by
 unfold fitS at h g
 show (s.c+o.c)*t.d≤(s.a+o.a)*t.a+(s.b+o.b)*t.b
 rw [Int.add_mul,Int.add_mul,Int.add_mul];omega
theorem tkS_fit {S:List Sd} {t:Tru} (h:∀ s∈S,fitS s t) {g ys:List Int} (hg:∀ x∈g,0≤x∧x<S.length) (hy:∀ y∈ys,0≤y) (hl:ys.length=g.length):∀ {i:Nat},i≤g.length→fitS (tkS S g ys i) t
 | 0,_=>by unfold fitS;simp [tkS,sd0]
 | i+1,hi=>by
  have hx:=hg _ (getD_mem (show i<g.length by omega) 0)
  exact (tkS_fit h hg hy hl (i:=i) (by omega)).add ((h _ (getD_mem (show (g.getD i 0).toNat<S.length by omega) sd0)).by_ (hy _ (getD_mem (by omega) 0)))
theorem ab_nn' (n:Int):0≤ab n:=by unfold ab;omega
theorem siz_nn (s:Sd):0≤siz s:=by unfold siz;have:=ab_nn' s.a;have:=ab_nn' s.b;omega
theorem zrY_nn {S:List Sd} {g ys:List Int} (h:zrY S g=some ys):∀ y∈ys,0≤y:=by
 unfold zrY at h
 split at h
 ·unfold zr2 at h
  split at h
  ·cases h
   intro y hy
   have:=siz_nn (atS S g 0);have:=siz_nn (atS S g 1)
   simp only [List.mem_cons,List.not_mem_nil,or_false] at hy
   rcases hy with rfl | rfl <;> omega
  ·cases h
 ·split at h
  ·unfold zr3 at h
   dsimp only at h
   split at h
   ·split at h
    ·cases h;intro y hy;simp only [List.mem_cons,List.not_mem_nil,or_false] at hy;rcases hy with rfl | rfl | rfl <;> omega
    ·cases h
   ·split at h
    ·cases h;intro y hy;simp only [List.mem_cons,List.not_mem_nil,or_false] at hy;rcases hy with rfl | rfl | rfl <;> omega
    ·cases h
  ·cases h
theorem Dbt.no {S:List Sd} (h:Dbt S) {t:Tru} (ht:0<t.d):¬ ∀ s∈S,fitS s t:=fun hf=>by
 obtain ⟨hg,hs⟩:=h.hit
 obtain ⟨ys,e,ez⟩:=dbt_def hs
 have hgr:=(grp_ok (m:=3) (by omega) hg).1
 have hfit:=tkS_fit hf hgr.rng (zrY_nn ez) (zrY_len ez) (i:=(hitG S).length) (Nat.le_refl _)
 obtain ⟨_,⟨h1,h2⟩,h3⟩:=dbt_some.1 hs
 rw [ez] at h1 h2 h3
 have h1':(tkS S (hitG S) ys (hitG S).length).a=0:=h1
 have h2':(tkS S (hitG S) ys (hitG S).length).b=0:=h2
 have h3':0<(tkS S (hitG S) ys (hitG S).length).c:=h3
 unfold fitS at hfit
 rw [h1',h2',Int.zero_mul,Int.zero_mul] at hfit
 have:=Int.mul_pos h3' ht
 omega
theorem grp_two {m n i j:Nat} (h1:i<j) (h2:j<n):[(i:Int),(j:Int)]∈grp m n :=
 mem_seg.2 ⟨i,by omega,by omega,by unfold F1;exact List.mem_cons_of_mem _ (mem_seg.2 ⟨j,by omega,h2,by unfold F2;exact List.mem_cons_self⟩)⟩
theorem grp_one {m n i:Nat} (h1:i<n):[(i:Int)]∈grp m n :=
 mem_seg.2 ⟨i,by omega,h1,by unfold F1;exact List.mem_cons_self⟩
theorem grp_three {n i j k:Nat} (h1:i<j) (h2:j<k) (h3:k<n):[(i:Int),(j:Int),(k:Int)]∈grp 3 n :=
 mem_seg.2 ⟨i,by omega,by omega,by
  unfold F1
  exact List.mem_cons_of_mem _ (mem_seg.2 ⟨j,by omega,by omega,by
   unfold F2
   refine List.mem_cons_of_mem _ ?_
   rw [if_pos rfl]
   exact mem_seg.2 ⟨k,by omega,h3,by simp⟩⟩)⟩
theorem ex_at {S:List Sd} {s:Sd} (h:s∈S):∃ i:Nat,i<S.length∧S.getD i sd0=s:=by
 obtain ⟨i,hi,e⟩:=List.getElem_of_mem h
 exact ⟨i,hi,by simp [hi,e]⟩
abbrev wS (p q:Int):Sd:=⟨p,q,0⟩
section
variable {S:List Sd} {p q:Int}
theorem cand_pair {a b:Sd} (ha:a∈S) (hb:b∈S) (hd:0<crs a b) (hx:0≤crs (wS p q) b) (hy:0≤crs a (wS p q)):∃ y∈mstA S p q,y.1.c=crs (wS p q) b*a.c+crs a (wS p q)*b.c∧y.2=crs a b:=by
 obtain ⟨i,hi,rfl⟩:=ex_at ha
 obtain ⟨j,hj,rfl⟩:=ex_at hb
 have hij:i≠j:=fun e=>by subst e;unfold crs at hd;have:=Int.mul_comm (S.getD i sd0).a (S.getD i sd0).b;omega
 rcases Nat.lt_or_gt_of_ne hij with h | h
 ·refine ⟨(tkS S [(i:Int),(j:Int)] [crs (wS p q) (S.getD j sd0),crs (S.getD i sd0) (wS p q)] 2,crs (S.getD i sd0) (S.getD j sd0)),List.mem_flatMap.2 ⟨_,grp_two h hj,?_⟩,?_⟩
  ·have e:mstG S p q [(i:Int),(j:Int)]=some ([crs (wS p q) (S.getD j sd0),crs (S.getD i sd0) (wS p q)],crs (S.getD i sd0) (S.getD j sd0)):=by
    unfold mstG
    rw [if_neg (by simp)]
    show mst2 (S.getD i sd0) (S.getD j sd0) p q=_
    unfold mst2
    rw [if_neg (by omega),if_pos ⟨hd,hx,hy⟩]
   unfold mstL;rw [e];simp
  ·refine ⟨?_,rfl⟩
   show 0+(S.getD i sd0).c*_+(S.getD j sd0).c*_=_
   rw [Int.zero_add,Int.mul_comm,Int.mul_comm (S.getD j sd0).c];rfl
 ·have n1:crs (S.getD j sd0) (S.getD i sd0) = -crs (S.getD i sd0) (S.getD j sd0):=by unfold crs;grind
  have n2:crs (wS p q) (S.getD i sd0) = -crs (S.getD i sd0) (wS p q):=by unfold crs;grind
  have n3:crs (S.getD j sd0) (wS p q) = -crs (wS p q) (S.getD j sd0):=by unfold crs;grind
  refine ⟨(tkS S [(j:Int),(i:Int)] [crs (S.getD i sd0) (wS p q),crs (wS p q) (S.getD j sd0)] 2,crs (S.getD i sd0) (S.getD j sd0)),List.mem_flatMap.2 ⟨_,grp_two h hi,?_⟩,?_⟩
  ·have e:mstG S p q [(j:Int),(i:Int)]=some ([crs (S.getD i sd0) (wS p q),crs (wS p q) (S.getD j sd0)],crs (S.getD i sd0) (S.getD j sd0)):=by
    unfold mstG
    rw [if_neg (by simp)]
    show mst2 (S.getD j sd0) (S.getD i sd0) p q=_
    unfold mst2
    have n2':crs ⟨p,q,0⟩ (S.getD i sd0) = -crs (S.getD i sd0) (wS p q):=n2
    have n3':crs (S.getD j sd0) ⟨p,q,0⟩ = -crs (wS p q) (S.getD j sd0):=n3
    rw [n1,n2',n3',if_pos (by omega),if_pos (by omega),Int.neg_neg,Int.neg_neg,Int.neg_neg]
   unfold mstL;rw [e];simp
  ·refine ⟨?_,rfl⟩
   show 0+(S.getD j sd0).c*_+(S.getD i sd0).c*_=_
   rw [Int.zero_add,Int.add_comm,Int.mul_comm,Int.mul_comm (S.getD j sd0).c];rfl
theorem cand_one {s:Sd} (hs:s∈S) (h:fit2 s (wS p q) (siz (wS p q)) (-(siz s))):∃ y∈mstA S p q,y.1.c=s.c*siz (wS p q)∧y.2=siz s:=by
 obtain ⟨i,hi,rfl⟩:=ex_at hs
 refine ⟨(tkS S [(i:Int)] [siz (wS p q)] 1,siz (S.getD i sd0)),List.mem_flatMap.2 ⟨_,grp_one hi,?_⟩,?_⟩
 ·have e:mstG S p q [(i:Int)]=some ([siz (wS p q)],siz (S.getD i sd0)):=by
   unfold mstG
   rw [if_pos (by simp)]
   show mst1 (S.getD i sd0) p q=_
   unfold mst1
   rw [if_pos h]
  unfold mstL;rw [e];simp
 ·refine ⟨?_,rfl⟩
  show 0+(S.getD i sd0).c*siz (wS p q)=_
  rw [Int.zero_add]
theorem mst_inv {y:Sd × Int} (h:y∈mstA S p q):(∃ s∈S,fit2 s (wS p q) (siz (wS p q)) (-(siz s))∧y.1.c=s.c*siz (wS p q)∧y.2=siz s∧y.1.a=p*y.2∧y.1.b=q*y.2) ∨
 (∃ a∈S,∃ b∈S,0<crs a b∧0≤crs (wS p q) b∧0≤crs a (wS p q)∧y.1.c=crs (wS p q) b*a.c+crs a (wS p q)*b.c∧y.2=crs a b∧y.1.a=p*y.2∧y.1.b=q*y.2):=by
 obtain ⟨g,hg,hy⟩:=List.mem_flatMap.1 h
 obtain ⟨hgr,h2⟩:=grp_ok (m:=2) (by omega) hg
 have hgn:=hgr.len
 have hat:∀ i,i<g.length→atS S g i∈S:=fun i hi=>getD_mem (show (g.getD i 0).toNat<S.length by have:=hgr.rng _ (getD_mem hi 0);omega) sd0
 unfold mstL at hy
 cases hm:mstG S p q g with
 | none=>rw [hm] at hy;simp at hy
 | some x =>
  rw [hm] at hy
  obtain rfl:y=(tkS S g x.1 g.length,x.2):=by simpa using hy
  unfold mstG at hm
  split at hm
  ·rename_i h1
   unfold mst1 at hm
   split at hm
   ·rename_i hf
    cases hm
    refine .inl ⟨_,hat 0 (by omega),hf,?_,rfl,?_,?_⟩
    ·rw [h1];show 0+(atS S g 0).c*_=_;rw [Int.zero_add];rfl
    ·rw [h1];show 0+(atS S g 0).a*siz (wS p q)=p*siz (atS S g 0)
     have k:(atS S g 0).a*siz (wS p q)+p * -(siz (atS S g 0))=0:=hf.2.1
     rw [Int.mul_neg] at k;omega
    ·rw [h1];show 0+(atS S g 0).b*siz (wS p q)=q*siz (atS S g 0)
     have k:(atS S g 0).b*siz (wS p q)+q * -(siz (atS S g 0))=0:=hf.2.2
     rw [Int.mul_neg] at k;omega
   ·cases hm
  ·rename_i h1
   have h2:g.length=2:=by omega
   have a0:=hat 0 (by omega)
   have a1:=hat 1 (by omega)
   have hc:∀ x y:Int,tkS S g [x,y] g.length=addS (addS sd0 (byS (atS S g 0) x)) (byS (atS S g 1) y):=fun x y=>by rw [h2];rfl
   unfold mst2 at hm
   split at hm
   ·split at hm
    ·rename_i c1 c2
     cases hm
     have n1:crs (atS S g 1) (atS S g 0) = -crs (atS S g 0) (atS S g 1):=by unfold crs;grind
     have n2:crs (wS p q) (atS S g 0) = -crs (atS S g 0) (wS p q):=by unfold crs;grind
     have n3:crs (atS S g 1) (wS p q) = -crs (wS p q) (atS S g 1):=by unfold crs;grind
     refine .inr ⟨_,a1,_,a0,by omega,by rw [n2];exact c2.2.2,by rw [n3];exact c2.2.1,?_,n1.symm,?_,?_⟩
     ·rw [n2,n3,hc]
      show 0+(atS S g 0).c * -(crs (wS p q) (atS S g 1))+(atS S g 1).c * -(crs (atS S g 0) (wS p q))=_
      grind
     ·rw [hc]
      show 0+(atS S g 0).a * -(crs (wS p q) (atS S g 1))+(atS S g 1).a * -(crs (atS S g 0) (wS p q))=p * -(crs (atS S g 0) (atS S g 1))
      unfold crs;grind
     ·rw [hc]
      show 0+(atS S g 0).b * -(crs (wS p q) (atS S g 1))+(atS S g 1).b * -(crs (atS S g 0) (wS p q))=q * -(crs (atS S g 0) (atS S g 1))
      unfold crs;grind
    ·cases hm
   ·split at hm
    ·rename_i c1 c2
     cases hm
     refine .inr ⟨_,a0,_,a1,c2.1,c2.2.1,c2.2.2,?_,rfl,?_,?_⟩
     ·rw [hc]
      show 0+(atS S g 0).c*(crs (wS p q) (atS S g 1))+(atS S g 1).c*(crs (atS S g 0) (wS p q))=_
      grind
     ·rw [hc]
      show 0+(atS S g 0).a*(crs (wS p q) (atS S g 1))+(atS S g 1).a*(crs (atS S g 0) (wS p q))=p*(crs (atS S g 0) (atS S g 1))
      unfold crs;grind
     ·rw [hc]
      show 0+(atS S g 0).b*(crs (wS p q) (atS S g 1))+(atS S g 1).b*(crs (atS S g 0) (wS p q))=q*(crs (atS S g 0) (atS S g 1))
      unfold crs;grind
    ·cases hm
theorem mst_weak {y:Sd × Int} (h:y∈mstA S p q) {t:Tru} (hf:∀ s∈S,fitS s t):y.1.c*t.d≤(p*t.a+q*t.b)*y.2:=by
 have key:fitS ⟨p*y.2,q*y.2,y.1.c⟩ t:=by
  rcases mst_inv h with ⟨s,hs,_,h1,h2,h3,h4⟩ | ⟨a,ha,b,hb,_,h1,h2,h3,h4,h5,h6⟩
  ·have:=(hf s hs).by_ (siz_nn (wS p q))
   unfold byS at this
   have e:s.a*siz (wS p q)=p*siz s∧s.b*siz (wS p q)=q*siz s:=by
    rename_i k
    have k1:s.a*siz (wS p q)+p * -(siz s)=0:=k.2.1
    have k2:s.b*siz (wS p q)+q * -(siz s)=0:=k.2.2
    rw [Int.mul_neg] at k1 k2
    constructor <;> omega
   rw [e.1,e.2,← h1,← h2] at this
   exact this
  ·have:=((hf a ha).by_ h1).add ((hf b hb).by_ h2)
   unfold byS addS at this
   dsimp only at this
   have e1:a.a*crs (wS p q) b+b.a*crs a (wS p q)=p*y.2:=by rw [h4];unfold crs;grind
   have e2:a.b*crs (wS p q) b+b.b*crs a (wS p q)=q*y.2:=by rw [h4];unfold crs;grind
   have e3:a.c*crs (wS p q) b+b.c*crs a (wS p q)=y.1.c:=by rw [h3];grind
   rw [e1,e2,e3] at this
   exact this
 unfold fitS at key
 dsimp only at key
 have e:(p*t.a+q*t.b)*y.2=p*y.2*t.a+q*y.2*t.b:=by grind
 omega
end
section
variable {S:List Sd}
theorem dbt_of {g ys:List Int} (hg:g∈grS S) (hz:zrY S g=some ys) (ha:(tkS S g ys g.length).a=0) (hb:(tkS S g ys g.length).b=0) (hc:0<(tkS S g ys g.length).c):Dbt S :=
 Dbt.iff.2 ⟨g,hg,by unfold dbt;rw [hz];dsimp only;rw [if_pos ⟨ha,hb,hc⟩];rfl⟩
theorem dbt_pair {a b:Sd} (ha:a∈S) (hb:b∈S) (hn:a.a≠0∨a.b≠0) (hf:fit2 a b (siz b) (siz a)) (hc:0<a.c*siz b+b.c*siz a):Dbt S:=by
 obtain ⟨i,hi,rfl⟩:=ex_at ha
 obtain ⟨j,hj,rfl⟩:=ex_at hb
 have hpos:=siz_pos hn
 obtain ⟨f1,f2,f3⟩:=hf
 have f2':(S.getD i sd0).a*siz (S.getD j sd0)+(S.getD j sd0).a*siz (S.getD i sd0)=0:=f2
 have f3':(S.getD i sd0).b*siz (S.getD j sd0)+(S.getD j sd0).b*siz (S.getD i sd0)=0:=f3
 have hij:i≠j:=fun e=>by
  subst e
  rcases hn with h | h
  ·have:=Int.mul_ne_zero h (show siz (S.getD i sd0)≠0 by omega);omega
  ·have:=Int.mul_ne_zero h (show siz (S.getD i sd0)≠0 by omega);omega
 rcases Nat.lt_or_gt_of_ne hij with h | h
 ·refine dbt_of (grp_two (m:=3) h hj) (ys:=[siz (S.getD j sd0),siz (S.getD i sd0)]) ?_ ?_ ?_ ?_
  ·show zr2 (S.getD i sd0) (S.getD j sd0)=_
   unfold zr2;rw [if_pos ⟨f1,f2,f3⟩]
  ·show 0+_+_=_;rw [Int.zero_add];exact f2'
  ·show 0+_+_=_;rw [Int.zero_add];exact f3'
  ·show 0<0+_+_;rw [Int.zero_add];exact hc
 ·refine dbt_of (grp_two (m:=3) h hi) (ys:=[siz (S.getD i sd0),siz (S.getD j sd0)]) ?_ ?_ ?_ ?_
  ·show zr2 (S.getD j sd0) (S.getD i sd0)=_
   unfold zr2
   rw [if_pos ⟨by unfold crs at f1 ⊢;grind,by show (S.getD j sd0).a*siz (S.getD i sd0)+(S.getD i sd0).a*siz (S.getD j sd0)=0;omega,by show (S.getD j sd0).b*siz (S.getD i sd0)+(S.getD i sd0).b*siz (S.getD j sd0)=0;omega⟩]
  ·show 0+(S.getD j sd0).a*siz (S.getD i sd0)+(S.getD i sd0).a*siz (S.getD j sd0)=_;omega
  ·show 0+(S.getD j sd0).b*siz (S.getD i sd0)+(S.getD i sd0).b*siz (S.getD j sd0)=_;omega
  ·show 0<0+(S.getD j sd0).c*siz (S.getD i sd0)+(S.getD i sd0).c*siz (S.getD j sd0);omega
theorem zr3_pos {a b c:Sd} (h1:0<crs b c) (h2:0<crs c a) (h3:0<crs a b):zr3 a b c=some [crs b c,crs c a,crs a b]:=by
 unfold zr3;dsimp only;rw [if_neg (by omega),if_pos (by omega)]
theorem crs_anti (a b:Sd):crs b a = -crs a b:=by unfold crs;grind
theorem zr3_neg {a b c:Sd} (h1:0<crs b c) (h2:0<crs c a) (h3:0<crs a b):zr3 b a c=some [crs c a,crs b c,crs a b]:=by
 unfold zr3;dsimp only
 rw [crs_anti c a,crs_anti b c,crs_anti a b,if_pos (by omega),if_pos (by omega),Int.neg_neg,Int.neg_neg,Int.neg_neg]
theorem dbt_ord {a b c:Sd} {i j k:Nat} (h1:i<j) (h2:j<k) (h3:k<S.length) (ea:S.getD i sd0=a) (eb:S.getD j sd0=b) (ec:S.getD k sd0=c) {x y z:Int} (hz:zr3 a b c=some [x,y,z]) (ha:x*a.a+y*b.a+z*c.a=0) (hb:x*a.b+y*b.b+z*c.b=0) (hc:0<x*a.c+y*b.c+z*c.c):Dbt S:=by
 subst ea eb ec
 refine dbt_of (grp_three h1 h2 h3) (ys:=[x,y,z]) hz ?_ ?_ ?_
 ·show 0+(S.getD i sd0).a*x+(S.getD j sd0).a*y+(S.getD k sd0).a*z=0
  rw [Int.zero_add,Int.mul_comm,Int.mul_comm (S.getD j sd0).a,Int.mul_comm (S.getD k sd0).a];exact ha
 ·show 0+(S.getD i sd0).b*x+(S.getD j sd0).b*y+(S.getD k sd0).b*z=0
  rw [Int.zero_add,Int.mul_comm,Int.mul_comm (S.getD j sd0).b,Int.mul_comm (S.getD k sd0).b];exact hb
 ·show 0<0+(S.getD i sd0).c*x+(S.getD j sd0).c*y+(S.getD k sd0).c*z
  rw [Int.zero_add,Int.mul_comm,Int.mul_comm (S.getD j sd0).c,Int.mul_comm (S.getD k sd0).c];exact hc
theorem dbt_three {a b c:Sd} (ha:a∈S) (hb:b∈S) (hc:c∈S) (h1:0<crs b c) (h2:0<crs c a) (h3:0<crs a b) (hs:0<crs b c*a.c+crs c a*b.c+crs a b*c.c):Dbt S:=by
 have ea:crs b c*a.a+crs c a*b.a+crs a b*c.a=0:=by unfold crs;grind
 have eb:crs b c*a.b+crs c a*b.b+crs a b*c.b=0:=by unfold crs;grind
 obtain ⟨i,hi,ei⟩:=ex_at ha
 obtain ⟨j,hj,ej⟩:=ex_at hb
 obtain ⟨k,hk,ek⟩:=ex_at hc
 have z0:∀ s:Sd,crs s s=0:=fun s=>by unfold crs;grind
 have nij:i≠j:=fun e=>by subst e;rw [ei] at ej;subst ej;rw [z0] at h3;omega
 have njk:j≠k:=fun e=>by subst e;rw [ej] at ek;subst ek;rw [z0] at h1;omega
 have nik:i≠k:=fun e=>by subst e;rw [ei] at ek;subst ek;rw [z0] at h2;omega
 rcases Nat.lt_or_gt_of_ne nij with g1 | g1 <;> rcases Nat.lt_or_gt_of_ne njk with g2 | g2 <;> rcases Nat.lt_or_gt_of_ne nik with g3 | g3
 ·exact dbt_ord g1 g2 hk ei ej ek (zr3_pos h1 h2 h3) ea eb hs
 ·omega
 ·exact dbt_ord g3 g2 hj ei ek ej (zr3_neg (a:=c) (b:=a) (c:=b) h3 h1 h2) (by omega) (by omega) (by omega)
 ·exact dbt_ord g3 g1 hj ek ei ej (zr3_pos (a:=c) (b:=a) (c:=b) h3 h1 h2) (by omega) (by omega) (by omega)
 ·exact dbt_ord g1 g3 hk ej ei ek (zr3_neg (a:=a) (b:=b) (c:=c) h1 h2 h3) (by omega) (by omega) (by omega)
 ·exact dbt_ord g2 g3 hi ej ek ei (zr3_pos (a:=b) (b:=c) (c:=a) h2 h3 h1) (by omega) (by omega) (by omega)
 ·omega
 ·exact dbt_ord g2 g1 hi ek ej ei (zr3_neg (a:=b) (b:=c) (c:=a) h2 h3 h1) (by omega) (by omega) (by omega)
end
end Go.Proofs.YtncjabmlkgacdaaGreat.Sp
namespace Go.Proofs.YtncjabmlkgacdaaGreat.Sp
open Go Go.TH
instance (s:Sd) (t:Tru):Decidable (fitS s t):=by unfold fitS;infer_instance
theorem ab_mul {x d:Int} (hd:0≤d):ab (x*d)=ab x*d:=by
 unfold ab
 rcases Int.le_total 0 x with h | h
 ·have:=Int.mul_nonneg h hd
  rw [show max x (-x)=x by omega];omega
 ·have:=Int.mul_nonneg (show 0 ≤ -x by omega) hd
  rw [Int.neg_mul] at this
  rw [show max x (-x) = -x by omega,Int.neg_mul];omega
theorem ab_neg (x:Int):ab (-x)=ab x:=by unfold ab;omega
theorem siz_same {a k:Sd} {d e:Int} (hd:0≤d) (he:0≤e) (h1:k.a*d=a.a*e) (h2:k.b*d=a.b*e):siz k*d=siz a*e:=by
 unfold siz
 rw [Int.add_mul,Int.add_mul,← ab_mul hd,← ab_mul hd,← ab_mul he,← ab_mul he,h1,h2]
theorem siz_opp {a k:Sd} {d e:Int} (hd:0≤d) (he:0≤e) (h1:k.a*d = -(a.a*e)) (h2:k.b*d = -(a.b*e)):siz k*d=siz a*e:=by
 unfold siz
 rw [Int.add_mul,Int.add_mul,← ab_mul hd,← ab_mul hd,← ab_mul he,← ab_mul he,h1,h2,ab_neg,ab_neg]
theorem mul_cancel0 {x d:Int} (hd:0<d) (h:x*d=0):x=0:=by
 rcases Int.mul_eq_zero.1 h with h | h <;> omega
theorem opp_dbt {S:List Sd} {a k:Sd} {d e:Int} (ha:a∈S) (hk:k∈S) (hn:a.a≠0∨a.b≠0) (hd:0<d) (he:0<e) (h1:k.a*d = -(a.a*e)) (h2:k.b*d = -(a.b*e)) (hc:0<a.c*e+k.c*d):Dbt S:=by
 have hs:=siz_opp (by omega) (by omega) h1 h2
 have hp:=siz_pos hn
 refine dbt_pair ha hk hn ⟨mul_cancel0 hd ?_,mul_cancel0 hd ?_,mul_cancel0 hd ?_⟩ ?_
 ·unfold crs
  have e1:(a.a*k.b-a.b*k.a)*d=a.a*(k.b*d)-a.b*(k.a*d):=by grind
  rw [e1,h1,h2];grind
 ·show (a.a*siz k+k.a*siz a)*d=0
  have e1:(a.a*siz k+k.a*siz a)*d=a.a*(siz k*d)+(k.a*d)*siz a:=by grind
  rw [e1,h1,hs];grind
 ·show (a.b*siz k+k.b*siz a)*d=0
  have e1:(a.b*siz k+k.b*siz a)*d=a.b*(siz k*d)+(k.b*d)*siz a:=by grind
  rw [e1,h2,hs];grind
 ·have e1:(a.c*siz k+k.c*siz a)*d=(a.c*e+k.c*d)*siz a:=by
   have:(a.c*siz k+k.c*siz a)*d=a.c*(siz k*d)+k.c*siz a*d:=by grind
   rw [this,hs];grind
  have h3:=Int.mul_pos hc hp
  rcases Int.lt_or_le 0 (a.c*siz k+k.c*siz a) with g | g
  ·exact g
  ·have:=Int.mul_nonneg (show 0 ≤ -(a.c*siz k+k.c*siz a) by omega) (Int.le_of_lt hd)
   rw [Int.neg_mul] at this;omega
def cnr (a b:Sd):Tru:=⟨a.c*b.b-b.c*a.b,a.a*b.c-b.a*a.c,crs a b⟩
theorem cnr_val (a b k:Sd):k.a*(cnr a b).a+k.b*(cnr a b).b=crs k b*a.c+crs a k*b.c:=by unfold cnr crs;grind
theorem lin_a (a b k:Sd):k.a*crs a b=crs k b*a.a+crs a k*b.a:=by unfold crs;grind
theorem lin_b (a b k:Sd):k.b*crs a b=crs k b*a.b+crs a k*b.b:=by unfold crs;grind
theorem not_fit {s:Sd} {t:Tru} (h:¬ fitS s t):s.a*t.a+s.b*t.b<s.c*t.d:=by unfold fitS at h;omega
section
variable {S:List Sd} {p q:Int}
theorem out_dbt (hN:¬ Dbt S) (hn:∀ s∈S,s.a≠0∨s.b≠0) {a b k:Sd} (ha:a∈S) (hb:b∈S) (hk:k∈S) (hd:0<crs a b) (hv:crs k b*a.c+crs a k*b.c<k.c*crs a b):0<crs k b∨0<crs a k:=by
 rcases Int.lt_or_le 0 (crs k b) with h1 | h1
 ·exact .inl h1
 rcases Int.lt_or_le 0 (crs a k) with h2 | h2
 ·exact .inr h2
 refine absurd ?_ hN
 have la:=lin_a a b k
 have lb:=lin_b a b k
 rcases Int.lt_or_le (crs k b) 0 with g1 | g1
 ·rcases Int.lt_or_le (crs a k) 0 with g2 | g2
  ·have m1:=crs_anti k b
   have m2:=crs_anti a k
   refine dbt_three ha hb hk (by rw [m1];omega) (by rw [m2];omega) hd ?_
   rw [m1,m2,Int.neg_mul,Int.neg_mul,Int.mul_comm (crs a b)];omega
  ·have z:crs a k=0:=by omega
   rw [z] at la lb hv
   exact opp_dbt ha hk (hn a ha) hd (show 0 < -crs k b by omega) (by rw [la];grind) (by rw [lb];grind) (by rw [Int.mul_neg,Int.mul_comm a.c];omega)
 ·have z:crs k b=0:=by omega
  rw [z] at la lb hv
  rcases Int.lt_or_le (crs a k) 0 with g2 | g2
  ·exact opp_dbt hb hk (hn b hb) hd (show 0 < -crs a k by omega) (by rw [la];grind) (by rw [lb];grind) (by rw [Int.mul_neg,Int.mul_comm b.c];omega)
  ·have z2:crs a k=0:=by omega
   rw [z2] at la lb
   rcases hn k hk with c | c
   ·exact absurd (mul_cancel0 hd (by omega)) c
   ·exact absurd (mul_cancel0 hd (by omega)) c
theorem cnr_fit (hN:¬ Dbt S) (hn:∀ s∈S,s.a≠0∨s.b≠0) {a b:Sd} (ha:a∈S) (hb:b∈S) (hd:0<crs a b) (hx:0<crs (wS p q) b) (hy:0<crs a (wS p q)) (hmax:∀ y∈mstA S p q,y.1.c*crs a b≤(crs (wS p q) b*a.c+crs a (wS p q)*b.c)*y.2):∀ k∈S,fitS k (cnr a b):=fun k hk=>by
 refine Decidable.byContradiction fun hf=>?_
 have hv:=not_fit hf
 rw [cnr_val] at hv
 have hv':crs k b*a.c+crs a k*b.c<k.c*crs a b:=hv
 have ho:=out_dbt hN hn ha hb hk hd hv'
 have w1:crs k (wS p q)*crs a b=crs k b*crs a (wS p q)-crs a k*crs (wS p q) b:=by unfold crs;grind
 have w2:crs (wS p q) k*crs a b=crs a k*crs (wS p q) b-crs k b*crs a (wS p q):=by unfold crs;grind
 have pos_of:∀ x:Int,0≤x*crs a b→0≤x:=fun x h=>by
  rcases Int.lt_or_le x 0 with c | c
  ·have:=Int.mul_pos (show 0 < -x by omega) hd
   rw [Int.neg_mul] at this;omega
  ·exact c
 have cA:0<crs k b→0≤crs k (wS p q)→False:=fun h1 h2=>by
  obtain ⟨y,hy1,e1,e2⟩:=cand_pair (p:=p) (q:=q) hk hb h1 (Int.le_of_lt hx) h2
  have hm:=hmax y hy1
  rw [e1,e2] at hm
  have g:=Int.mul_lt_mul_of_pos_right hv' hx
  have e3:(crs (wS p q) b*k.c+crs k (wS p q)*b.c)*crs a b=crs (wS p q) b*k.c*crs a b+(crs k (wS p q)*crs a b)*b.c:=by grind
  rw [e3,w1] at hm
  grind
 have cB:0<crs a k→0≤crs (wS p q) k→False:=fun h1 h2=>by
  obtain ⟨y,hy1,e1,e2⟩:=cand_pair (p:=p) (q:=q) ha hk h1 h2 (Int.le_of_lt hy)
  have hm:=hmax y hy1
  rw [e1,e2] at hm
  have g:=Int.mul_lt_mul_of_pos_right hv' hy
  have e3:(crs (wS p q) k*a.c+crs a (wS p q)*k.c)*crs a b=(crs (wS p q) k*crs a b)*a.c+crs a (wS p q)*k.c*crs a b:=by grind
  rw [e3,w2] at hm
  grind
 rcases Int.le_total (crs a k*crs (wS p q) b) (crs k b*crs a (wS p q)) with h | h
 ·have k1:0≤crs k (wS p q):=pos_of _ (by rw [w1];omega)
  rcases Int.lt_or_le 0 (crs k b) with g | g
  ·exact cA g k1
  ·have g2:0<crs a k:=ho.resolve_left (by omega)
   have:=Int.mul_pos g2 hx
   have:=Int.mul_nonneg (show 0 ≤ -crs k b by omega) (Int.le_of_lt hy)
   rw [Int.neg_mul] at this
   omega
 ·have k1:0≤crs (wS p q) k:=pos_of _ (by rw [w2];omega)
  rcases Int.lt_or_le 0 (crs a k) with g | g
  ·exact cB g k1
  ·have g2:0<crs k b:=ho.resolve_right (by omega)
   have:=Int.mul_pos g2 hy
   have:=Int.mul_nonneg (show 0 ≤ -crs a k by omega) (Int.le_of_lt hx)
   rw [Int.neg_mul] at this
   omega
theorem max_frac {α:Type} (f:α→Int) (g:α→Int):∀ (l:List α),l≠[]→(∀ x∈l,0<g x)→∃ m∈l,∀ x∈l,f x*g m≤f m*g x
 | [],h,_=>absurd rfl h
 | [x],_,_=>⟨x,by simp,fun y hy=>by obtain rfl:y=x:=(by simpa using hy);omega⟩
 | x::z::l,_,hg=>by
  obtain ⟨m,hm,hmx⟩:=max_frac f g (z::l) (by simp) (fun y hy=>hg y (List.mem_cons_of_mem _ hy))
  have gx:=hg x List.mem_cons_self
  have gm:=hg m (List.mem_cons_of_mem _ hm)
  rcases Int.le_total (f x*g m) (f m*g x) with h | h
  ·refine ⟨m,List.mem_cons_of_mem _ hm,fun y hy=>?_⟩
   rcases List.mem_cons.1 hy with rfl | hy
   ·exact h
   ·exact hmx y hy
  ·refine ⟨x,List.mem_cons_self,fun y hy=>?_⟩
   rcases List.mem_cons.1 hy with rfl | hy
   ·omega
   ·have gy:=hg y (List.mem_cons_of_mem _ hy)
    have k1:=Int.mul_le_mul_of_nonneg_right (hmx y hy) (Int.le_of_lt gx)
    have k2:=Int.mul_le_mul_of_nonneg_right h (Int.le_of_lt gy)
    have e1:f y*g m*g x=f y*g x*g m:=by grind
    have e2:f m*g y*g x=f m*g x*g y:=by grind
    have e3:f x*g m*g y=f x*g y*g m:=by grind
    rcases Int.lt_or_le (f x*g y) (f y*g x) with c | c
    ·have:=Int.mul_lt_mul_of_pos_right c gm;omega
    ·exact c
def sq (b:Sd):Int:=b.a*b.a+b.b*b.b
def dot (a b:Sd):Int:=a.a*b.a+a.b*b.b
theorem sq_pos {b:Sd} (h:b.a≠0∨b.b≠0):0<sq b:=by
 unfold sq
 have sp:∀ x:Int,0≤x*x∧(x≠0→0<x*x):=fun x=>by
  rcases Int.lt_trichotomy x 0 with c | c | c
  ·have:=Int.mul_pos (show 0 < -x by omega) (show 0 < -x by omega)
   rw [Int.neg_mul_neg] at this
   exact ⟨by omega,fun _=>this⟩
  ·subst c;exact ⟨by omega,fun h=>absurd rfl h⟩
  ·have:=Int.mul_pos c c
   exact ⟨by omega,fun _=>this⟩
 rcases h with h | h
 ·have:=(sp b.a).2 h;have:=(sp b.b).1;omega
 ·have:=(sp b.b).2 h;have:=(sp b.a).1;omega
def foot (b:Sd):Tru:=⟨b.a*b.c,b.b*b.c,sq b⟩
theorem line_fit (hN:¬ Dbt S) (hn:∀ s∈S,s.a≠0∨s.b≠0) (hS:∀ s∈S,∃ o∈S,o.a = -s.a∧o.b = -s.b) (hw:p≠0∨q≠0) {b:Sd} (hb:b∈S) (hf1:b.a*siz (wS p q)=p*siz b) (hf2:b.b*siz (wS p q)=q*siz b) (hmax:∀ y∈mstA S p q,y.1.c*siz b≤b.c*siz (wS p q)*y.2) :
 (∃ j∈S,0<crs b j∧∀ k∈S,fitS k (cnr b j))∨(∀ k∈S,fitS k (foot b)):=by
 have hbp:=siz_pos (hn b hb)
 have hwp:0<siz (wS p q):=siz_pos (s:=wS p q) hw
 have same:∀ k∈S,∀ d e:Int,0<d→0<e→k.a*d=b.a*e→k.b*d=b.b*e→b.c*e<k.c*d→False:=fun k hk d e hd he h1 h2 hc=>by
  have hs:=siz_same (by omega) (by omega) h1 h2
  have hkp:=siz_pos (hn k hk)
  have hdb:=Int.mul_pos hd hbp
  have f1:k.a*siz (wS p q)+p * -(siz k)=0:=mul_cancel0 hdb (by
   have:(k.a*siz (wS p q)+p * -(siz k))*(d*siz b)=(k.a*d)*siz (wS p q)*siz b-(p*siz b)*(siz k*d):=by grind
   rw [this,h1,hs,← hf1];grind)
  have f2:k.b*siz (wS p q)+q * -(siz k)=0:=mul_cancel0 hdb (by
   have:(k.b*siz (wS p q)+q * -(siz k))*(d*siz b)=(k.b*d)*siz (wS p q)*siz b-(q*siz b)*(siz k*d):=by grind
   rw [this,h2,hs,← hf2];grind)
  have f0:crs k (wS p q)=0:=mul_cancel0 hkp (by
   have e1:crs k (wS p q)*siz k=k.a*(q*siz k)-k.b*(p*siz k):=by unfold crs;grind
   rw [e1,show q*siz k=k.b*siz (wS p q) by rw [Int.mul_neg] at f2;omega,show p*siz k=k.a*siz (wS p q) by rw [Int.mul_neg] at f1;omega];grind)
  obtain ⟨y,hy,e1,e2⟩:=cand_one (p:=p) (q:=q) hk ⟨f0,f1,f2⟩
  have hm:=hmax y hy
  rw [e1,e2] at hm
  have g1:=Int.mul_lt_mul_of_pos_right (Int.mul_lt_mul_of_pos_right hc hwp) hbp
  have g2:=Int.mul_le_mul_of_nonneg_right hm (Int.le_of_lt hd)
  have e3:b.c*siz (wS p q)*siz k*d=b.c*siz (wS p q)*(siz k*d):=by grind
  rw [e3,hs] at g2
  have e4:b.c*siz (wS p q)*(siz b*e)=b.c*e*siz (wS p q)*siz b:=by grind
  have e5:k.c*siz (wS p q)*siz b*d=k.c*d*siz (wS p q)*siz b:=by grind
  omega
 rcases Decidable.em ((S.filter fun j=>decide (0<crs b j))=[]) with he | he
 ·
  refine .inr fun k hk=>Decidable.byContradiction fun hf=>?_
  have hz:∀ s∈S,¬ 0<crs b s:=fun s hs h=>by
   have:s∈S.filter fun j=>decide (0<crs b j):=List.mem_filter.2 ⟨hs,by simpa using h⟩
   rw [he] at this;cases this
  have z1:=hz k hk
  obtain ⟨o,ho,o1,o2⟩:=hS k hk
  have z2:=hz o ho
  have z3:crs b o = -crs b k:=by unfold crs;rw [o1,o2];grind
  have z:crs b k=0:=by omega
  have hv:=not_fit hf
  have hv':k.a*(b.a*b.c)+k.b*(b.b*b.c)<k.c*sq b:=hv
  have l1:k.a*sq b=b.a*dot k b:=by unfold crs at z;unfold sq dot;grind
  have l2:k.b*sq b=b.b*dot k b:=by unfold crs at z;unfold sq dot;grind
  have hsq:=sq_pos (hn b hb)
  have e1:k.a*(b.a*b.c)+k.b*(b.b*b.c)=b.c*dot k b:=by unfold dot;grind
  rw [e1] at hv'
  rcases Int.lt_trichotomy (dot k b) 0 with c | c | c
  ·exact hN (opp_dbt hb hk (hn b hb) hsq (show 0 < -dot k b by omega) (by rw [l1];grind) (by rw [l2];grind) (by rw [Int.mul_neg];omega))
  ·rw [c] at l1 l2
   rcases hn k hk with g | g
   ·exact absurd (mul_cancel0 hsq (by omega)) g
   ·exact absurd (mul_cancel0 hsq (by omega)) g
  ·exact same k hk _ _ hsq c l1 l2 hv'
 ·refine .inl ?_
  obtain ⟨j,hj,hjm⟩:=max_frac (fun j=>j.c*sq b-dot j b*b.c) (fun j=>crs b j) _ he (fun x hx=>by simpa using (List.mem_filter.1 hx).2)
  have hjS:=(List.mem_filter.1 hj).1
  have hd:0<crs b j:=by simpa using (List.mem_filter.1 hj).2
  refine ⟨j,hjS,hd,fun k hk=>Decidable.byContradiction fun hf=>?_⟩
  have hv:=not_fit hf
  rw [cnr_val] at hv
  have hv':crs k j*b.c+crs b k*j.c<k.c*crs b j:=hv
  have ho:=out_dbt hN hn hb hjS hk hd hv'
  have la:=lin_a b j k
  have lb:=lin_b b j k
  rcases Int.lt_or_le 0 (crs b k) with g | g
  ·have hm:=hjm k (List.mem_filter.2 ⟨hk,by simpa using g⟩)
   have g1:=Int.mul_lt_mul_of_pos_right hv' (sq_pos (hn b hb))
   have e1:(k.c*sq b-dot k b*b.c)*crs b j-(j.c*sq b-dot j b*b.c)*crs b k=k.c*crs b j*sq b-(crs k j*b.c+crs b k*j.c)*sq b:=by
    have e2:dot k b*crs b j=crs k j*sq b+crs b k*dot j b:=by unfold dot crs sq;grind
    have e3:(k.c*sq b-dot k b*b.c)*crs b j=k.c*sq b*crs b j-dot k b*crs b j*b.c:=by grind
    rw [e3,e2];grind
   omega
  ·have g1:0<crs k j:=ho.resolve_right (by omega)
   rcases Int.lt_or_le (crs b k) 0 with g2 | g2
   ·
    have x1:crs (wS p q) j*siz b=siz (wS p q)*crs b j:=by
     have:crs (wS p q) j*siz b=(p*siz b)*j.b-(q*siz b)*j.a:=by unfold crs;grind
     rw [this,← hf1,← hf2];unfold crs;grind
    have x2:crs k (wS p q)*siz b = -(siz (wS p q)*crs b k):=by
     have:crs k (wS p q)*siz b=k.a*(q*siz b)-k.b*(p*siz b):=by unfold crs;grind
     rw [this,← hf1,← hf2];unfold crs;grind
    have nn:∀ x:Int,0≤x*siz b→0≤x:=fun x h=>by
     rcases Int.lt_or_le x 0 with c | c
     ·have:=Int.mul_pos (show 0 < -x by omega) hbp
      rw [Int.neg_mul] at this;omega
     ·exact c
    have p1:=Int.mul_pos hwp hd
    have p2:=Int.mul_pos hwp (show 0 < -crs b k by omega)
    rw [Int.mul_neg] at p2
    obtain ⟨y,hy,e1,e2⟩:=cand_pair (p:=p) (q:=q) hk hjS g1 (nn _ (by omega)) (nn _ (by omega))
    have hm:=hmax y hy
    rw [e1,e2] at hm
    have e3:(crs (wS p q) j*k.c+crs k (wS p q)*j.c)*siz b=(crs (wS p q) j*siz b)*k.c+(crs k (wS p q)*siz b)*j.c:=by grind
    rw [e3,x1,x2] at hm
    have g3:=Int.mul_lt_mul_of_pos_right hv' hwp
    grind
   ·have z:crs b k=0:=by omega
    rw [z] at la lb hv'
    exact same k hk _ _ hd g1 (by rw [la];grind) (by rw [lb];grind) (by rw [Int.mul_comm b.c];omega)
end
end Go.Proofs.YtncjabmlkgacdaaGreat.Sp
namespace Go.Proofs.YtncjabmlkgacdaaGreat.Sp
open Go Go.TH
attribute [local irreducible] W WO pt
set_option maxRecDepth 10000
set_option maxHeartbeats 2000000
abbrev sAt (S:List Sd) (i:Nat):Sd:=S.getD i sd0
def cJ (S:List Sd) (i j:Nat):List Tru:=if crs (sAt S i) (sAt S j)=0 then [] else [if crs (sAt S i) (sAt S j)<0 then cnr (sAt S j) (sAt S i) else cnr (sAt S i) (sAt S j)]
def cI (S:List Sd) (i:Nat):List Tru:=foot (sAt S i)::seg 0 i (cJ S i)
def crnS (S:List Sd):List Tru:=seg 0 S.length (cI S)
def pI (S:List Sd) (i:Nat):Nat:=(seg 0 i (cI S)).length
def pJ (S:List Sd) (i j:Nat):Nat:=pI S i+((seg 0 j (cJ S i)).length+1)
section
variable {S:List Sd} {i j:Nat}
theorem crn_foot (h:i<S.length):(crnS S)[pI S i]?=some (foot (sAt S i)):=seg_get (lo:=0) (i:=i) (t:=0) (g:=cI S) (by omega) rfl h
theorem crn_at (h:i<S.length) (hj:j<i) {t:Tru} (hc:cJ S i j=[t]):(crnS S)[pJ S i j]?=some t:=by
 refine seg_get (lo:=0) (i:=i) (g:=cI S) (by omega) ?_ h
 unfold cI
 rw [List.getElem?_cons_succ]
 have:=seg_get (lo:=0) (i:=j) (t:=0) (g:=cJ S i) (x:=t) (by omega) (by rw [hc];rfl) (hi:=i) hj
 exact this
theorem cJ_n (h:crs (sAt S i) (sAt S j)<0):cJ S i j=[cnr (sAt S j) (sAt S i)]:=by unfold cJ;rw [if_neg (by omega),if_pos h]
theorem cJ_p (h:0<crs (sAt S i) (sAt S j)):cJ S i j=[cnr (sAt S i) (sAt S j)]:=by unfold cJ;rw [if_neg (by omega),if_neg (by omega)]
theorem crn_mem {a b:Sd} (ha:a∈S) (hb:b∈S) (hd:0<crs a b):cnr a b∈crnS S:=by
 obtain ⟨i,hi,rfl⟩:=ex_at ha
 obtain ⟨j,hj,rfl⟩:=ex_at hb
 have hij:i≠j:=fun e=>by subst e;unfold crs at hd;have:=Int.mul_comm (S.getD i sd0).a (S.getD i sd0).b;omega
 rcases Nat.lt_or_gt_of_ne hij with h | h
 ·exact mem_seg.2 ⟨j,by omega,hj,by
   unfold cI
   refine List.mem_cons_of_mem _ (mem_seg.2 ⟨i,by omega,h,?_⟩)
   rw [cJ_n (by rw [crs_anti];have h0:0<crs (sAt S i) (sAt S j):=hd;omega)];exact List.mem_singleton.2 rfl⟩
 ·exact mem_seg.2 ⟨i,by omega,hi,by
   unfold cI
   refine List.mem_cons_of_mem _ (mem_seg.2 ⟨j,by omega,h,?_⟩)
   rw [cJ_p hd];exact List.mem_singleton.2 rfl⟩
theorem foot_mem {b:Sd} (hb:b∈S):foot b∈crnS S:=by
 obtain ⟨i,hi,rfl⟩:=ex_at hb
 exact mem_seg.2 ⟨i,by omega,hi,by unfold cI;exact List.mem_cons_self⟩
end
end Go.Proofs.YtncjabmlkgacdaaGreat.Sp
