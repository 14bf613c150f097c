/-
  What is proved here: operations on the bits of numbers. Conditions: none; each rule states its own.
-/
import Derived.Test.YtoapkhkdnbcilaaGreatM2
import Derived.Laws.Shifts
set_option linter.unusedVariables false
set_option linter.unusedSimpArgs false
namespace Go.TH
open Go
/-- how many bits a number of a kind has that is not below 0 -/
def room (k:IntKind):Nat:=if k.signed then k.bits-1 else k.bits
def Fits (k:IntKind) (a:Nat):Prop:=a<2 ^ room k
theorem wrap_nat {k:IntKind} {a:Nat} (h:Fits k a):k.wrap (a:Int)=(a:Int):=by
  unfold Fits room at h
  have e1:(a:Int)%(2 ^ k.bits:Int)=(a:Int):=by
    refine Int.emod_eq_of_lt (by omega) ?_
    have h2:a<2 ^ k.bits:=Nat.lt_of_lt_of_le h (Nat.pow_le_pow_right (by omega) (by split <;> omega))
    exact_mod_cast h2
  unfold IntKind.wrap
  simp only [e1]
  split
  · rename_i hs
    simp only [Bool.and_eq_true,decide_eq_true_eq] at hs
    rw [if_pos hs.1] at h
    have h3:(a:Int)<(2 ^ (k.bits-1):Int):=by exact_mod_cast h
    omega
  · rfl
theorem ofInt_nat {k:IntKind} {a:Nat} (h:Fits k a):(BitVec.ofInt k.bits (a:Int)).toNat=a:=by
  have h2:a<2 ^ k.bits:=Nat.lt_of_lt_of_le h (Nat.pow_le_pow_right (by omega) (by unfold room;split <;> omega))
  rw [show BitVec.ofInt k.bits (a:Int)=BitVec.ofNat k.bits a by simp,BitVec.toNat_ofNat]
  exact Nat.mod_eq_of_lt h2
theorem mod_fits {k:IntKind} {a:Nat} (h:Fits k a):a%2 ^ k.bits=a:=Nat.mod_eq_of_lt (Nat.lt_of_lt_of_le h (Nat.pow_le_pow_right (by omega) (by unfold room;split <;> omega)))
theorem Fits.and {k:IntKind} {a b:Nat} (h:Fits k a):Fits k (a&&&b):=Nat.lt_of_le_of_lt Nat.and_le_left h
theorem Fits.or {k:IntKind} {a b:Nat} (h:Fits k a) (h':Fits k b):Fits k (a|||b):=Nat.or_lt_two_pow h h'
theorem Fits.xor {k:IntKind} {a b:Nat} (h:Fits k a) (h':Fits k b):Fits k (a^^^b):=Nat.xor_lt_two_pow h h'
theorem Fits.shr {k:IntKind} {a s:Nat} (h:Fits k a):Fits k (a>>>s):=Nat.lt_of_le_of_lt (by rw [Nat.shiftRight_eq_div_pow];exact Nat.div_le_self _ _) h
section
variable {P:Program} {C:Cx P} {E:Env} {H:List HP}
variable {ops:Array Oper} {K:KP} {rest:List Oper} {d:Nat} {ty:TypeId} {pos:String} {af:Array Edge} {x y:Operand} {T T':TypeId} {k:IntKind} {a b:Nat}
end
section
variable {P:Program} {C:Cx P} {E:Env} {H:List HP}
variable {ops:Array Oper} {K:KP} {rest:List Oper} {d:Nat} {ty:TypeId} {pos:String} {af:Array Edge} {x y:Operand} {T:TypeId}
end
end Go.TH
namespace Go.Proofs.YtoapkhkdnbcilaaGreat
open Go Go.TH
attribute [local irreducible] W WO pt
set_option maxRecDepth 10000
def cel (f:Nat→Option Int) (k:Nat):Value:=if k%2=0 then .bool (f (k/2)).isSome else .int .i64 ((f (k/2)).getD 0)
def prC (f:Nat→Option Int) (n:Nat):List Value:=(List.range (2*n)).map (cel f)
def upd (f:Nat→Option Int) (i:Nat) (o:Option Int):Nat→Option Int:=fun k=>if k=i then o else f k
theorem prC_len (f:Nat→Option Int) (n:Nat):(prC f n).length=2*n:=by simp [prC]
theorem prC_get {f:Nat→Option Int} {n k:Nat} (h:k<2*n):(prC f n)[k]?=some (cel f k):=by
 simp [prC,h]
theorem prC_none {f:Nat→Option Int} {n k:Nat} (h:2*n≤k):(prC f n)[k]?=none:=by
 simp [prC,h]
theorem cel_0 (f:Nat→Option Int) (i:Nat):cel f (2*i)=.bool (f i).isSome:=by
 unfold cel;rw [if_pos (by omega),show 2*i/2=i by omega]
theorem cel_1 (f:Nat→Option Int) (i:Nat):cel f (2*i+1)=.int .i64 ((f i).getD 0):=by
 unfold cel;rw [if_neg (by omega),show (2*i+1)/2=i by omega]
theorem mid_get {pre suf:List Value} {f:Nat→Option Int} {n k:Nat} (h:k<2*n):(pre++(prC f n++suf))[pre.length+k]?=some (cel f k):=by
 rw [List.getElem?_append_right (by omega),show pre.length+k-pre.length=k by omega,List.getElem?_append_left (by rw [prC_len];exact h),prC_get h]
theorem mid_at {pre suf:List Value} {f:Nat→Option Int} {n i off:Nat} (h:i<n) (ho:off=pre.length+2*i):((pre++(prC f n++suf)).drop off).take 2=[.bool (f i).isSome,.int .i64 ((f i).getD 0)]:=by
 subst ho
 apply List.ext_getElem?
 intro k
 rw [List.getElem?_take]
 split
 ·rename_i hk
  rw [List.getElem?_drop,Nat.add_assoc,mid_get (by omega)]
  match k,hk with
  | 0,_=>rw [Nat.add_zero,cel_0];rfl
  | 1,_=>rw [cel_1];rfl
 ·rename_i hk
  rw [List.getElem?_eq_none (by simp;omega)]
theorem mid_set {pre suf:List Value} {f:Nat→Option Int} {n i off:Nat} {v:Int} (h:i<n) (ho:off=pre.length+2*i):wrl (pre++(prC f n++suf)) off [.bool true,.int .i64 v]=pre++(prC (upd f i (some v)) n++suf):=by
 subst ho
 show ((pre++(prC f n++suf)).set (pre.length+2*i) (.bool true)).set (pre.length+2*i+1) (.int .i64 v)=_
 have hlen:(pre++(prC f n++suf)).length=pre.length+(2*n+suf.length):=by simp [prC_len]
 apply List.ext_getElem?
 intro k
 rw [List.getElem?_set]
 split
 ·rename_i e
  subst e
  rw [if_pos (by rw [List.length_set,hlen];omega),show pre.length+2*i+1=pre.length+(2*i+1) by omega,mid_get (by omega),cel_1]
  simp [upd]
 ·rename_i e1
  rw [List.getElem?_set]
  split
  ·rename_i e
   subst e
   rw [if_pos (by rw [hlen];omega),mid_get (by omega),cel_0]
   simp [upd]
  ·rename_i e0
   rcases Nat.lt_or_ge k pre.length with g | g
   ·rw [List.getElem?_append_left g,List.getElem?_append_left g]
   ·obtain ⟨q,rfl⟩:∃ q,k=pre.length+q:=⟨k-pre.length,by omega⟩
    rcases Nat.lt_or_ge q (2*n) with g2 | g2
    ·rw [mid_get g2,mid_get g2]
     have hne:q/2≠i:=by omega
     unfold cel upd
     rw [if_neg hne]
    ·have key:∀ g:Nat→Option Int,(pre++(prC g n++suf))[pre.length+q]?=suf[q-2*n]?:=fun g=>by
      rw [List.getElem?_append_right (by omega),show pre.length+q-pre.length=q by omega,List.getElem?_append_right (by rw [prC_len];omega),prC_len]
     rw [key,key]
theorem prC_part {f:Nat→Option Int} {n i m off len:Nat} (h:i+m≤n) (ho:off=2*i) (hl:len=2*m):((prC f n).drop off).take len=prC (fun k=>f (i+k)) m:=by
 subst ho hl
 apply List.ext_getElem?
 intro k
 rw [List.getElem?_take]
 split
 ·rename_i hk
  rw [List.getElem?_drop,prC_get (by omega),prC_get hk]
  unfold cel
  rw [show (2*i+k)%2=k%2 by omega,show (2*i+k)/2=i+k/2 by omega]
 ·rename_i hk
  rw [prC_none (by omega)]
theorem prC_at {f:Nat→Option Int} {n i off:Nat} (h:i<n) (ho:off=2*i):((prC f n).drop off).take 2=[.bool (f i).isSome,.int .i64 ((f i).getD 0)]:=by
 have:=mid_at (pre:=[]) (suf:=[]) (f:=f) h (off:=off) (by simpa using ho)
 simpa using this
theorem prC_oc (f:Nat→Option Int) (n:Nat):(prC f n).all (fun x=>x.oneCell')=true:=by
 rw [List.all_eq_true]
 intro x hx
 obtain ⟨k,_,rfl⟩:=List.mem_map.1 hx
 unfold cel
 split <;> rfl
section
variable {P:Program} {C:Cx P} {E:Env} {H:List HP}
variable {ops:Array Oper} {K:KP} {rest:List Oper} {d:Nat} {ty:TypeId} {pos:String} {af:Array Edge} {x y:Operand} {T:TypeId}
theorem WO.indexVN {len e n i off:Nat} {k:IntKind} {vs us:List Value} (hT:C.tt.ar? T=some (len,e,n)) (hO:C.tt.ag? e=some n) (hx:ev E x=some (.agg vs.toArray)) (hy:ev E y=some (.int k (i:Int))) (h1:i<len) (ho:i*n=off) (hv:(vs.drop off).take n=us) (hN:Nat.blt d C.N=true)
 (h:WO C ops rest K ((d,.agg us.toArray)::E) H):WO C ops (⟨some d,.index T x y,ty,pos,af,none⟩::rest) K E H :=
 WO.pure (.agg us.toArray) (by simp) (fun L a w hf hi=>by
  subst ho
  have hp:=run_partN (P:=P) (w:=w) (AT.of hO) hv
  simp [execOp,hf.eval hx,hf.eval hy,Instr.index,run_underlying (ArT.of hT).u,asIntOf,h1,Go.TH.run_sizeOf (ArT.of hT).size,hp]) hN h
end
end Go.Proofs.YtoapkhkdnbcilaaGreat
namespace Go.Proofs.YtoapkhkdnbcilaaGreat
open Go Go.TH
attribute [local irreducible] W WO pt
set_option maxRecDepth 10000
set_option maxHeartbeats 2000000
structure Ts where
 k:Int
 h:Int
 lo:Int
 hi:Int
def ts0:Ts:=⟨0,0,0,0⟩
def encT (x:Ts):List Value:=[.int .i64 x.k,.int .i64 x.h,.int .i64 x.lo,.int .i64 x.hi]
theorem encT_ok:EncOk encT 4:=⟨fun _=>rfl,fun x u hu=>by simp [encT] at hu;rcases hu with rfl | rfl | rfl | rfl <;> rfl,by omega⟩
theorem cellsTs {C:Cx Tryz.prog} {H:List HP} {o:Value} {l:List Ts} (h:RdF encT 4 C.B C.w0 o l) {i:Nat} (h1:i<l.length):Cells C H (elt o i 4) [.int .i64 (l.getD i ts0).k,.int .i64 (l.getD i ts0).h,.int .i64 (l.getD i ts0).lo,.int .i64 (l.getD i ts0).hi]:=RdF.cells h h1 ts0
def OkR (lo hi:Int):Prop:=lo≤hi∧(-1000000≤lo∧lo≤1000000) ∧ -1000000≤hi∧hi≤1000000
structure OkTb (T H lo hi:Int) (l:List Ts):Prop where
 n:l.length≤24
 t:1≤T∧T≤6
 h:1≤H∧H≤6
 b:OkR lo hi
 k:∀ i,i<l.length→(0≤(l.getD i ts0).k∧(l.getD i ts0).k<T)∧0≤(l.getD i ts0).h∧(l.getD i ts0).h<H
 v:∀ i,i<l.length→OkR (l.getD i ts0).lo (l.getD i ts0).hi
theorem c_w1 (w:World) (x m:Int) (p:Addr) (hC:Cap w p (.int .i64 m)) (hm:0≤m∧m≤2000000000000) (h : -m≤x∧x≤m):Ret Tryz.prog 76 [.int .i64 x,.pointer (some p)].toArray w (.bool false):=by
 refine Ret.of mixed tyTab Tryz.func76 rfl rfl ?_
 replace hC:Cap (fnCx mixed tyTab Tryz.f76.ntmps w).w0 p (.int .i64 m):=hC
 refine W.sreg (WO.p rfl rfl (WO.nil (W.sreg (WO.p rfl rfl ?_))))
 refine' WO.load (v:=_) rfl rfl ?hc rfl ?_
 case hc=>(refine Cap.cell (v:=.int .i64 m) rfl hC)
 refine WO.neg rfl (by unfold in64;omega) rfl (WO.p rfl rfl (WO.p rfl rfl ?_))
 refine WO.guard_bl rfl rfl (fun c1=>?_) (fun c1=>?_)
 ·exfalso;omega
 ·refine WO.pg rfl rfl rfl (WO.go' rfl ?_)
  refine' WO.load (v:=_) rfl rfl ?hc rfl ?_
  case hc=>(refine Cap.cell (v:=.int .i64 m) rfl hC)
  refine WO.pg rfl rfl rfl (WO.p rfl rfl (WO.p rfl rfl (WO.nil (W.ret ?_))))
  exact fin.ret (Res.one rfl (RV.tmp rfl)) (by exact congrArg Value.bool (bl_f.2 (by omega)))
theorem c_IndexW (w:World) (o:Value) (xs:List Int) (F:Nat) (cp:List Value) (hR:RdF encI 1 w.heap.size w o xs) (hcall:∀ (args:Array Value) (w:World),(callFunc F args).run Tryz.prog w=.ok (.enter F args) w)
 (hq:∀ i,i<xs.length→∀ w',(∀ k,k<w.heap.size→w'.heap[k]?=w.heap[k]?)→w.heap.size≤w'.heap.size→Ret Tryz.prog F (Value.int .i64 (xs.getD i 0)::cp).toArray w' (.bool false)):Ret Tryz.prog 125 [o,.func (.func F) #[] cp.toArray].toArray w (.int .i64 (-1)):=by
 refine Ret.of mixed tyTab Tryz.func125 rfl rfl ?_
 replace hR:RdF encI 1 (fnCx mixed tyTab Tryz.f125.ntmps w).B (fnCx mixed tyTab Tryz.f125.ntmps w).w0 o xs:=hR
 have hle:=hR.sl.le
 refine W.sreg (WO.p rfl rfl (WO.nil (W.seq (W.sreg (WO.p rfl rfl (WO.len rfl rfl hR.sl rfl (WO.p rfl rfl (WO.nil (W.block ?_)))))))))
 refine W.loop (fun (i:Nat)=>i≤xs.length)
  (fun (i:Nat)=>[(8,.int .i64 (i:Int)),(7,.int .i64 (xs.length:Int)),(0,o),(1,.func (.func F) #[] cp.toArray)])
  (fun (i:Nat)=>[])
  (fun (i:Nat)=>xs.length-i) 0
  (by omega) ⟨rfl,rfl,rfl,rfl,trivial⟩ (by repeat (first | exact Sub.nil | refine Sub.cons (by repeat first | exact .head | apply Pick.tail) ?_)) ?_
 rintro i hi0
 refine W.sreg (WO.p rfl rfl (WO.nil (W.seq ?_)))
 refine W.cond_bl rfl (fun c1=>?_) (fun c1=>?_)
 ·refine W.skip (W.seq (W.block (W.sreg (WO.p rfl rfl (WO.p rfl rfl (WO.nil (W.sreg (WO.p rfl rfl (WO.p rfl rfl (WO.p rfl rfl (WO.indexAddr rfl rfl rfl hR.sl (by omega) rfl ?_)))))))))))
  refine' WO.load (v:=_) rfl rfl ?hc rfl ?_
  case hc=>(first | (refine hR.cell0 ?_ 0 ?_ <;> first | rfl | omega))
  refine WO.callCR (first:=[]) (captured:=cp) (r:=.bool false) rfl rfl hcall (fun L w' hi'=>hq i (by omega) w' hi'.keepB hi'.size) rfl (WO.nil (W.cond_f rfl (W.skip (W.region (WO.ar rfl rfl rfl (by unfold in64;omega) rfl (WO.p rfl rfl (WO.nil ?_)))))))
  refine' ⟨i+1,?hp,?hmu,⟨rfl,rfl,rfl,rfl,trivial⟩,?hS⟩
  case hS=>repeat (first | exact Sub.nil | refine Sub.cons (by repeat first | exact .head | apply Pick.tail) ?_)
  case hp=>omega
  case hmu=>omega
 ·refine W.exit (blk_same (W.sreg (WO.p rfl rfl (WO.nil (W.ret ?_)))))
  exact fin.ret (Res.one rfl (RV.tmp rfl)) rfl
theorem c_ContW (w:World) (o:Value) (xs:List Int) (F:Nat) (cp:List Value) (hR:RdF encI 1 w.heap.size w o xs) (hcall:∀ (args:Array Value) (w:World),(callFunc F args).run Tryz.prog w=.ok (.enter F args) w)
 (hq:∀ i,i<xs.length→∀ w',(∀ k,k<w.heap.size→w'.heap[k]?=w.heap[k]?)→w.heap.size≤w'.heap.size→Ret Tryz.prog F (Value.int .i64 (xs.getD i 0)::cp).toArray w' (.bool false)):Ret Tryz.prog 75 [o,.func (.func F) #[] cp.toArray].toArray w (.bool false):=by
 refine Ret.of mixed tyTab Tryz.func75 rfl rfl ?_
 replace hR:RdF encI 1 (fnCx mixed tyTab Tryz.f75.ntmps w).B (fnCx mixed tyTab Tryz.f75.ntmps w).w0 o xs:=hR
 refine W.sreg (WO.p rfl rfl (WO.nil (W.sreg (WO.p rfl rfl (WO.p rfl rfl (WO.callR rfl Tryz.call125 (fun L w' hi=>c_IndexW w' o xs F cp (hR.later hi) hcall (fun x hx w2 h1 h2=>hq x hx w2 (fun k hk=>by rw [h1 k (Nat.lt_of_lt_of_le hk hi.size)];exact hi.keepB k hk) (Nat.le_trans hi.size h2))) rfl (WO.p rfl rfl (WO.p rfl rfl (WO.nil (W.ret ?_))))))))))
 exact fin.ret (Res.one rfl (RV.tmp rfl)) (congrArg Value.bool (bl_f.2 (by omega)))
theorem capK {w w':World} {p:Addr} {v:Value} (h:Cap w p v) (hk:∀ k,k<w.heap.size→w'.heap[k]?=w.heap[k]?) (hs:w.heap.size≤w'.heap.size):Cap w' p v :=
 ⟨by have:=h.lt;omega,by rw [cell_agree hk h.lt];exact h.at_⟩
theorem c_within9 (w:World) (o:Value) (xs:List Int) (m:Int) (hm:0≤m∧m≤2000000000000) (hR:RdF encI 1 w.heap.size w o xs) (h:∀ i,i<xs.length → -m≤xs.getD i 0∧xs.getD i 0≤m):Ret Tryz.prog 30 [.int .i64 m,o].toArray w (.bool true):=by
 refine Ret.of mixed tyTab Tryz.func30 rfl rfl ?_
 replace hR:RdF encI 1 (fnCx mixed tyTab Tryz.f30.ntmps w).B (fnCx mixed tyTab Tryz.f30.ntmps w).w0 o xs:=hR
 refine W.sreg (WO.box1 rfl (by rfl) rfl (fun b1 hb1=>(WO.p rfl rfl (WO.nil (W.sreg (WO.p rfl rfl (WO.p rfl rfl (WO.callR rfl Tryz.call75 (fun L w' hi=>c_ContW w' o xs 76 [.pointer (some ⟨b1,0,none⟩)] (hR.later hi) Tryz.call76 (fun i hx w2 h1 h2=>c_w1 w2 (xs.getD i 0) m ⟨b1,0,none⟩ (capK (Cap.of (b:=b1) (by repeat exact .head) rfl hi) h1 h2) hm (h i hx))) rfl (WO.p rfl rfl (WO.p rfl rfl (WO.nil (W.ret ?_))))))))))))
 exact fin.ret (Res.one rfl (RV.tmp rfl)) rfl
theorem c_isRange (w:World) (lo hi:Int) (h:OkR lo hi):Ret Tryz.prog 71 [.agg #[.int .i64 lo,.int .i64 hi]].toArray w (.bool true):=by
 refine Ret.of mixed tyTab Tryz.func71 rfl rfl ?_
 have h1:=h.1
 have h2:=h.2.1
 have h3:=h.2.2
 refine W.sreg (WO.boxA rfl rfl (fun b1 hb1=>(WO.p rfl rfl (WO.nil (W.sreg (WO.field0 rfl rfl rfl (WO.load rfl rfl (Cell.own Pick.head rfl) rfl (WO.fieldL rfl rfl rfl (WO.load rfl rfl (Cell.own Pick.head rfl) rfl (WO.leqT rfl rfl h1 rfl (WO.p rfl rfl (WO.go' rfl (WO.field0 rfl rfl rfl (WO.go' rfl (WO.load rfl rfl (Cell.own Pick.head rfl) rfl (WO.go' rfl (WO.fieldL rfl rfl rfl (WO.go' rfl (WO.load rfl rfl (Cell.own Pick.head rfl) rfl (WO.go' rfl (WO.buildSl rfl rfl rfl rfl rfl rfl rfl rfl rfl (fun v2=>(WO.go' rfl ?_)))))))))))))))))))))))
 refine WO.callR rfl Tryz.call30 (fun L w hi'=>c_within9 w _ [lo,hi] 1000000 (by omega) (RdF.of_ow (e:=2) encI_ok (by repeat exact .head) hi') (fun i hx=>by match i,hx with | 0,_=>exact h2 | 1,_=>exact h3)) rfl (WO.p rfl rfl (WO.p rfl rfl (WO.nil (W.ret ?_))))
 exact fin.ret (Res.one rfl (RV.tmp rfl)) rfl
theorem c_is (w:World) (a b:Int) (h:0≤a∧a<b):Ret Tryz.prog 70 [.int .i64 a,.int .i64 b].toArray w (.bool true):=by
 refine Ret.of mixed tyTab Tryz.func70 rfl rfl ?_
 have h1:=h.1
 have h2:=h.2
 refine W.sreg (WO.p rfl rfl (WO.nil (W.sreg (WO.p rfl rfl (WO.geqT rfl rfl h1 rfl (WO.p rfl rfl (WO.pg rfl rfl rfl (WO.pg rfl rfl rfl (WO.go' rfl (WO.lssT rfl rfl h2 rfl (WO.p rfl rfl (WO.p rfl rfl (WO.nil (W.ret ?_))))))))))))))
 exact fin.ret (Res.one rfl (RV.tmp rfl)) rfl
theorem c_t2 (w:World) (x:Ts) (T H:Int) (b c:Nat) (hf:Cap w ⟨b,0,none⟩ (.func (.func 70) #[] #[])) (hT:Cap w ⟨c,0,none⟩ (.int .i64 T)) (hH:Cap w ⟨c,1,none⟩ (.int .i64 H)) (h1:0≤x.k∧x.k<T) (h2:0≤x.h∧x.h<H):Ret Tryz.prog 73 [.agg #[.int .i64 x.k,.int .i64 x.h,.int .i64 x.lo,.int .i64 x.hi],.pointer (some ⟨b,0,none⟩),.pointer (some ⟨c,0,none⟩)].toArray w (.bool false):=by
 refine Ret.of mixed tyTab Tryz.func73 rfl rfl ?_
 have hq0:∀ H,Cell (fnCx mixed tyTab Tryz.f73.ntmps w) H ⟨b,0,none⟩ (.func (.func 70) #[] #[]):=fun H=>Cap.cell rfl hf
 have hq1:∀ H,Cell (fnCx mixed tyTab Tryz.f73.ntmps w) H ⟨c,0,none⟩ (.int .i64 T):=fun H=>Cap.cell rfl hT
 have hq2:∀ H',Cell (fnCx mixed tyTab Tryz.f73.ntmps w) H' (prt ⟨c,0,none⟩ 1) (.int .i64 H):=fun H'=>by rw [prt_eq,show (Addr.add ⟨c,0,none⟩ 1)=⟨c,1,none⟩ by unfold Addr.add;split <;> simp_all];exact Cap.cell rfl hH
 refine W.sreg (WO.boxA rfl rfl (fun b1 hb1=>(WO.p rfl rfl (WO.nil (W.sreg (WO.load (v:=_) rfl rfl (hq0 _) rfl (WO.field0 rfl rfl rfl (WO.load rfl rfl (Cell.own Pick.head rfl) rfl (WO.field0 rfl rfl rfl (WO.load (v:=_) rfl rfl (hq1 _) rfl (WO.callCR (first:=[]) (captured:=[]) rfl rfl Tryz.call70 (fun L w hi'=>c_is w _ _ h1) rfl (WO.p rfl rfl (WO.p rfl rfl (WO.go' rfl (WO.load (v:=_) rfl rfl (hq0 _) rfl (WO.go' rfl (WO.fieldL rfl rfl rfl (WO.go' rfl (WO.load rfl rfl (Cell.own Pick.head rfl) rfl (WO.go' rfl (WO.field rfl rfl rfl (WO.go' rfl (WO.load (v:=_) rfl rfl (hq2 _) rfl (WO.go' rfl ?_))))))))))))))))))))))))
 refine WO.callCR (first:=[]) (captured:=[]) rfl rfl Tryz.call70 (fun L w hi'=>c_is w _ _ h2) rfl (WO.pg rfl rfl rfl (WO.p rfl rfl (WO.p rfl rfl (WO.nil (W.ret ?_)))))
 exact fin.ret (Res.one rfl (RV.tmp rfl)) rfl
theorem c_t3 (w:World) (x:Ts) (h:OkR x.lo x.hi):Ret Tryz.prog 74 [.agg #[.int .i64 x.k,.int .i64 x.h,.int .i64 x.lo,.int .i64 x.hi]].toArray w (.bool false):=by
 refine Ret.of mixed tyTab Tryz.func74 rfl rfl (W.sreg (WO.boxA rfl rfl (fun b1 hb1=>(WO.p rfl rfl (WO.nil (W.sreg (WO.fieldL rfl rfl rfl (WO.loadA rfl rfl (Cells.ownAt (n:=2) Pick.head rfl) rfl rfl (WO.callR rfl Tryz.call71 (fun L w hi=>c_isRange w x.lo x.hi h) rfl (WO.p rfl rfl (WO.p rfl rfl (WO.nil (W.ret ?_)))))))))))))
 exact fin.ret (Res.one rfl (RV.tmp rfl)) rfl
theorem c_IndexA (w:World) (o:Value) (l:List Ts) (F:Nat) (cp:List Value) (hR:RdF encT 4 w.heap.size w o l) (hcall:∀ (args:Array Value) (w:World),(callFunc F args).run Tryz.prog w=.ok (.enter F args) w)
 (hq:∀ i,i<l.length→∀ w',(∀ k,k<w.heap.size→w'.heap[k]?=w.heap[k]?)→w.heap.size≤w'.heap.size→Ret Tryz.prog F (Value.agg #[.int .i64 (l.getD i ts0).k,.int .i64 (l.getD i ts0).h,.int .i64 (l.getD i ts0).lo,.int .i64 (l.getD i ts0).hi]::cp).toArray w' (.bool false)):Ret Tryz.prog 124 [o,.func (.func F) #[] cp.toArray].toArray w (.int .i64 (-1)):=by
 refine Ret.of mixed tyTab Tryz.func124 rfl rfl ?_
 replace hR:RdF encT 4 (fnCx mixed tyTab Tryz.f124.ntmps w).B (fnCx mixed tyTab Tryz.f124.ntmps w).w0 o l:=hR
 have hle:=hR.sl.le
 refine W.sreg (WO.p rfl rfl (WO.nil (W.seq (W.sreg (WO.p rfl rfl (WO.len rfl rfl hR.sl rfl (WO.p rfl rfl (WO.nil (W.block ?_)))))))))
 refine W.loop (fun (i:Nat)=>i≤l.length)
  (fun (i:Nat)=>[(8,.int .i64 (i:Int)),(7,.int .i64 (l.length:Int)),(0,o),(1,.func (.func F) #[] cp.toArray)])
  (fun (i:Nat)=>[])
  (fun (i:Nat)=>l.length-i) 0
  (by omega) ⟨rfl,rfl,rfl,rfl,trivial⟩ (by repeat (first | exact Sub.nil | refine Sub.cons (by repeat first | exact .head | apply Pick.tail) ?_)) ?_
 rintro i hi0
 refine W.sreg (WO.p rfl rfl (WO.nil (W.seq ?_)))
 refine W.cond_bl rfl (fun c1=>?_) (fun c1=>?_)
 ·refine W.skip (W.seq (W.block (W.sreg (WO.p rfl rfl (WO.p rfl rfl (WO.nil (W.sreg (WO.p rfl rfl (WO.p rfl rfl (WO.p rfl rfl (WO.indexAddr rfl rfl rfl hR.sl (by omega) rfl (WO.loadA rfl rfl (cellsTs hR (i:=i) (by omega)) rfl rfl (WO.callCR (first:=[]) (captured:=cp) (r:=.bool false) rfl rfl hcall (fun L w' hi'=>hq i (by omega) w' hi'.keepB hi'.size) rfl (WO.nil (W.cond_f rfl (W.skip (W.region (WO.ar rfl rfl rfl (by unfold in64;omega) rfl (WO.p rfl rfl (WO.nil ?_))))))))))))))))))))
  refine' ⟨i+1,?hp,?hmu,⟨rfl,rfl,rfl,rfl,trivial⟩,?hS⟩
  case hS=>repeat (first | exact Sub.nil | refine Sub.cons (by repeat first | exact .head | apply Pick.tail) ?_)
  case hp=>omega
  case hmu=>omega
 ·refine W.exit (blk_same (W.sreg (WO.p rfl rfl (WO.nil (W.ret ?_)))))
  exact fin.ret (Res.one rfl (RV.tmp rfl)) rfl
theorem c_ContA (w:World) (o:Value) (l:List Ts) (F:Nat) (cp:List Value) (hR:RdF encT 4 w.heap.size w o l) (hcall:∀ (args:Array Value) (w:World),(callFunc F args).run Tryz.prog w=.ok (.enter F args) w)
 (hq:∀ i,i<l.length→∀ w',(∀ k,k<w.heap.size→w'.heap[k]?=w.heap[k]?)→w.heap.size≤w'.heap.size→Ret Tryz.prog F (Value.agg #[.int .i64 (l.getD i ts0).k,.int .i64 (l.getD i ts0).h,.int .i64 (l.getD i ts0).lo,.int .i64 (l.getD i ts0).hi]::cp).toArray w' (.bool false)):Ret Tryz.prog 72 [o,.func (.func F) #[] cp.toArray].toArray w (.bool false):=by
 refine Ret.of mixed tyTab Tryz.func72 rfl rfl ?_
 replace hR:RdF encT 4 (fnCx mixed tyTab Tryz.f72.ntmps w).B (fnCx mixed tyTab Tryz.f72.ntmps w).w0 o l:=hR
 refine W.sreg (WO.p rfl rfl (WO.nil (W.sreg (WO.p rfl rfl (WO.p rfl rfl (WO.callR rfl Tryz.call124 (fun L w' hi=>c_IndexA w' o l F cp (hR.later hi) hcall (fun x hx w2 h1 h2=>hq x hx w2 (fun k hk=>by rw [h1 k (Nat.lt_of_lt_of_le hk hi.size)];exact hi.keepB k hk) (Nat.le_trans hi.size h2))) rfl (WO.p rfl rfl (WO.p rfl rfl (WO.nil (W.ret ?_))))))))))
 exact fin.ret (Res.one rfl (RV.tmp rfl)) (congrArg Value.bool (bl_f.2 (by omega)))
theorem c_CheckTable9 (w:World) (T H lo hi:Int) (o:Value) (l:List Ts) (h:OkTb T H lo hi l) (hR:RdF encT 4 w.heap.size w o l):Ret Tryz.prog 29 [.agg #[.int .i64 T,.int .i64 H,.int .i64 lo,.int .i64 hi,o]].toArray w (.int .i64 0):=by
 refine Ret.of mixed tyTab Tryz.func29 rfl rfl ?_
 replace hR:RdF encT 4 (fnCx mixed tyTab Tryz.f29.ntmps w).B (fnCx mixed tyTab Tryz.f29.ntmps w).w0 o l:=hR
 have hoc:=hR.sl.oc
 have h1:=h.n
 have h2:=h.t
 have h3:=h.h
 refine W.sreg (WO.boxA rfl rfl (fun b1 hb1=>(WO.p rfl rfl (WO.nil (W.sreg (WO.alloc rfl rfl rfl (fun b2 hb2=>(WO.store1 rfl rfl rfl (by rfl) Pick.head rfl (WO.nil (W.seq (W.block (W.sreg (WO.fieldL rfl rfl rfl (WO.load rfl rfl (Cell.own (Pick.tail (Pick.head)) rfl) rfl (WO.len rfl rfl hR.sl rfl (WO.gtrF rfl rfl (by omega) rfl (WO.p rfl rfl (WO.nil (W.cond_f rfl (W.sreg (WO.field0 rfl rfl rfl (WO.load rfl rfl (Cell.own (Pick.tail (Pick.head)) rfl) rfl (WO.lssF rfl rfl (by omega) rfl (WO.p rfl rfl (WO.go' rfl (WO.field0 rfl rfl rfl (WO.go' rfl (WO.load rfl rfl (Cell.own (Pick.tail (Pick.head)) rfl) rfl (WO.go' rfl ?_)))))))))))))))))))))))))))))
 refine WO.gtrF rfl rfl (by omega) rfl (WO.p rfl rfl (WO.p rfl rfl (WO.go' rfl (WO.fieldL rfl rfl rfl (WO.go' rfl (WO.load rfl rfl (Cell.own (Pick.tail (Pick.head)) rfl) rfl (WO.go' rfl (WO.lssF rfl rfl (by omega) rfl (WO.p rfl rfl (WO.p rfl rfl (WO.go' rfl (WO.fieldL rfl rfl rfl (WO.go' rfl (WO.load rfl rfl (Cell.own (Pick.tail (Pick.head)) rfl) rfl (WO.go' rfl (WO.gtrF rfl rfl (by omega) rfl (WO.p rfl rfl (WO.p rfl rfl (WO.go' rfl (WO.fieldL rfl rfl rfl (WO.go' rfl (WO.loadA rfl rfl (Cells.ownAt (n:=2) (Pick.tail (Pick.head)) rfl) rfl rfl (WO.go' rfl (WO.callR rfl Tryz.call71 (fun L w hi'=>c_isRange w lo hi h.b) rfl ?_))))))))))))))))))))))))
 refine WO.pg rfl rfl rfl (WO.p rfl rfl (WO.p rfl rfl (WO.nil (W.cond_f rfl (W.sreg (WO.fieldL rfl rfl rfl (WO.load rfl rfl (Cell.own (Pick.tail (Pick.head)) rfl) rfl (WO.p rfl rfl ?_))))))))
 refine WO.callR rfl Tryz.call72 (fun L w' hi'=>c_ContA w' o l 73 [.pointer (some ⟨b2,0,none⟩),.pointer (some ⟨b1,0,none⟩)] (hR.later hi') Tryz.call73 (fun i hx w2 k1 k2=>c_t2 w2 (l.getD i ts0) T H b2 b1 (capK (Cap.of (b:=b2) (by repeat exact .head) rfl hi') k1 k2) (capK (Cap.of (b:=b1) (off:=0) (by repeat first | exact .head | apply Pick.tail) rfl hi') k1 k2) (capK (Cap.of (b:=b1) (off:=1) (by repeat first | exact .head | apply Pick.tail) rfl hi') k1 k2) (h.k i hx).1 (h.k i hx).2)) rfl (WO.p rfl rfl (WO.nil (W.cond_f rfl (W.sreg (WO.fieldL rfl rfl rfl (WO.load rfl rfl (Cell.own (Pick.tail (Pick.head)) rfl) rfl ?_))))))
 refine WO.callR rfl Tryz.call72 (fun L w' hi'=>c_ContA w' o l 74 [] (hR.later hi') Tryz.call74 (fun i hx w2 k1 k2=>c_t3 w2 (l.getD i ts0) (h.v i hx))) rfl (WO.p rfl rfl (WO.nil (W.cond_f rfl (W.skip (W.sreg (WO.p rfl rfl (WO.nil (W.ret ?_))))))))
 exact fin.ret (Res.one rfl (RV.tmp rfl)) rfl
end Go.Proofs.YtoapkhkdnbcilaaGreat
namespace Go.Proofs.YtoapkhkdnbcilaaGreat
open Go Go.TH
attribute [local irreducible] W WO pt
set_option maxRecDepth 10000
set_option maxHeartbeats 2000000
abbrev netC (hd:List Value) (F:Nat→Option Int):List Value:=hd++(prC F 169++[])
abbrev netP (b:Nat) (hd:List Value) (F:Nat→Option Int):HP:=pt b (.cells (netC hd F).toArray 131 (0,0))
theorem c_put1 (w:World) (b:Nat) (h0:Cap w ⟨b,0,none⟩ (.bool false)) (h1:Cap w ⟨b,1,none⟩ (.int .i64 0)):Ret Tryz.prog 127 [.pointer (some ⟨b,0,none⟩)].toArray w (.tuple #[.int .i64 0,.bool false]):=by
 refine Ret.of mixed tyTab Tryz.func127 rfl rfl ?_
 have hq0:∀ H,Cell (fnCx mixed tyTab Tryz.f127.ntmps w) H ⟨b,0,none⟩ (.bool false):=fun H=>Cap.cell rfl h0
 have hq1:∀ H,Cell (fnCx mixed tyTab Tryz.f127.ntmps w) H (prt ⟨b,0,none⟩ 1) (.int .i64 0):=fun H=>by rw [prt_eq,show (Addr.add ⟨b,0,none⟩ 1)=⟨b,1,none⟩ by unfold Addr.add;split <;> simp_all];exact Cap.cell rfl h1
 refine W.sreg (WO.p rfl rfl (WO.p rfl rfl (WO.nil (W.seq ?_))))
 refine W.drawD 5 [.r 0 [],.b 1 [],.r 2 [1],.b 3 [1],.r 4 [1]] [1] (A0:=[]) (Sub.refl _) (by kernel_rfl) ?_ ?_
 ·repeat constructor
 refine DT.r rfl rfl rfl (WO.field rfl rfl rfl (WO.nil ⟨rfl,rfl⟩)) (DT.b rfl rfl rfl (WO.load (v:=_) rfl rfl (hq1 _) rfl (WO.nil ⟨rfl,rfl⟩)) (DT.r rfl rfl rfl (WO.field0 rfl rfl rfl (WO.nil ⟨rfl,rfl⟩)) (DT.b rfl rfl rfl (WO.load (v:=_) rfl rfl (hq0 _) rfl (WO.nil ⟨rfl,rfl⟩)) (DT.r rfl rfl rfl (WO.p rfl rfl (WO.nil ⟨rfl,rfl⟩)) (DT.nil [] rfl (WO.p rfl rfl (WO.nil (W.ret ?_))))))))
 exact fin.ret (Res.two rfl (RV.tmp rfl) (RV.tmp rfl)) rfl
theorem c_lesser (w:World) (b:Nat) (v:Int) (h0:Cap w ⟨b,0,none⟩ (.bool false)) (h1:Cap w ⟨b,1,none⟩ (.int .i64 0)):Ret Tryz.prog 126 [.int .i64 v,.func (.func 127) #[] #[.pointer (some ⟨b,0,none⟩)]].toArray w (.int .i64 v):=by
 refine Ret.of mixed tyTab Tryz.func126 rfl rfl ?_
 replace h0:Cap (fnCx mixed tyTab Tryz.f126.ntmps w).w0 ⟨b,0,none⟩ (.bool false):=h0
 replace h1:Cap (fnCx mixed tyTab Tryz.f126.ntmps w).w0 ⟨b,1,none⟩ (.int .i64 0):=h1
 refine W.sreg (WO.p rfl rfl (WO.nil (W.seq (W.sreg (WO.p rfl rfl (WO.callCR (first:=[]) (captured:=[.pointer (some ⟨b,0,none⟩)]) rfl rfl Tryz.call127 (fun L w hi'=>c_put1 w b (h0.old rfl hi') (h1.old rfl hi')) rfl (WO.p rfl rfl (WO.p rfl rfl (WO.p rfl rfl (WO.p rfl rfl (WO.p rfl rfl (WO.nil (W.sreg (WO.p rfl rfl (WO.nil (W.cond_f rfl (W.skip (W.sreg (WO.p rfl rfl (WO.p rfl rfl (WO.nil (W.ret ?_))))))))))))))))))))))
 exact fin.ret (Res.one rfl (RV.tmp rfl)) rfl
theorem c_put (B:Nat) (w:World) (b:Nat) (hd:List Value) (F:Nat→Option Int) (i j:Nat) (zi zj v:Int) (ei:zi=(i:Int)) (ej:zj=(j:Int)) (hB:B≤w.heap.size) (hh:hd.length=6) (hi:i<13) (hj:j<13) (hF:F (13*i+j)=none) :
 CtH Tryz.prog 77 [.pointer (some ⟨b,0,none⟩),.int .i64 zi,.int .i64 zj,.int .i64 v] w [netP b hd F] B (fun r Hq=>∃ x:Unit,r=.tuple #[]∧Hq=[netP b hd (upd F (13*i+j) (some v))]):=by
 subst ei ej
 refine CtH.ofI (X:=Unit) (p:=fun _ r=>r=.tuple #[]) (Hx:=fun _=>[netP b hd (upd F (13*i+j) (some v))]) mixed tyTab hB Tryz.func77 rfl rfl (fun M hM=>?_)
 have hmid:((netC hd F).drop (6+i*26+j*2)).take 2=[.bool false,.int .i64 0]:=by rw [mid_at (i:=13*i+j) (by omega) (by omega),hF];rfl
 have hset:wrl (netC hd F) (6+i*26+j*2) [.bool true,.int .i64 v]=netC hd (upd F (13*i+j) (some v)):=mid_set (by omega) (by omega)
 have hlen:(netC hd F).length=344:=by simp [netC,prC_len,hh]
 refine W.sreg (WO.p rfl rfl (WO.p rfl rfl (WO.p rfl rfl (WO.p rfl rfl (WO.fieldL rfl rfl rfl (WO.indexArrE (i:=i) (o':=6+i*26) rfl rfl rfl rfl hi rfl rfl (WO.indexArrE (i:=j) (o':=6+i*26+j*2) rfl rfl rfl rfl hj rfl rfl (WO.loadA rfl rfl (Cells.ownAt (b:=b) (off:=6+i*26+j*2) (n:=2) (cs:=netC hd F) (vs:=[.bool false,.int .i64 0]) Pick.head hmid) rfl rfl (WO.alloc rfl rfl rfl (fun b1 hb1=>(WO.storeA rfl rfl rfl rfl Pick.head rfl rfl (WO.nil ?_))))))))))))
 refine W.drawD 10 [.r 0 [],.r 1 [],.r 2 [],.r 3 [],.r 4 [],.b 5 [],.r 6 [],.r 7 [],.r 8 [],.r 9 []] [] (A0:=[_]) (H0:=[_]) (.cons (Pick.tail .head) (.cons .head .nil)) (by kernel_rfl) ?_ ?_
 ·repeat constructor
 refine DT.r rfl rfl rfl (WO.p rfl rfl (WO.nil ⟨rfl,rfl⟩)) (DT.r rfl rfl rfl (WO.p rfl rfl (WO.nil ⟨rfl,rfl⟩)) (DT.r rfl rfl rfl (WO.p rfl rfl (WO.nil ⟨rfl,rfl⟩)) (DT.r rfl rfl rfl (WO.p rfl rfl (WO.nil ⟨rfl,rfl⟩)) (DT.r rfl rfl rfl (WO.p rfl rfl (WO.nil ⟨rfl,rfl⟩)) (DT.b rfl rfl rfl (WO.callR rfl Tryz.call126 (fun L w hi'=>c_lesser w b1 v (Cap.of (b:=b1) (off:=0) (by repeat exact .head) rfl hi') (Cap.of (b:=b1) (off:=1) (by repeat exact .head) rfl hi')) rfl (WO.nil ⟨rfl,rfl⟩)) (DT.r rfl rfl rfl (WO.build rfl rfl rfl rfl rfl (WO.nil ⟨rfl,rfl⟩)) (DT.r rfl rfl rfl (WO.p rfl rfl (WO.nil ⟨rfl,rfl⟩)) ?_)))))))
 refine DT.r rfl rfl rfl (WO.fieldL rfl rfl rfl (WO.nil ⟨rfl,rfl⟩)) (DT.r rfl rfl rfl (WO.indexArrE (i:=i) (o':=6+i*26) rfl rfl rfl rfl hi rfl rfl (WO.nil ⟨rfl,rfl⟩)) (DT.nil [_,_] rfl (WO.indexArrE (i:=j) (o':=6+i*26+j*2) rfl rfl rfl rfl hj rfl rfl (WO.storeP (n:=2) (vs:=[.bool true,.int .i64 v]) rfl rfl rfl rfl (by repeat exact .head) (by rw [hlen];omega) rfl ?_))))
 rw [hset]
 refine WO.nil ?_
 exact fin.normal (Res.none rfl) ⟨(),rfl,fun h hs=>Sub.sat (by repeat (first | exact Sub.nil | refine Sub.cons (by repeat exact .head) ?_)) hs⟩
end Go.Proofs.YtoapkhkdnbcilaaGreat
namespace Go.Proofs.YtoapkhkdnbcilaaGreat
open Go Go.TH
attribute [local irreducible] W WO pt
set_option maxRecDepth 10000
set_option maxHeartbeats 4000000
abbrev Wss:=List (Int × Int)
def tsW (ws:Wss):List Ts:=(List.range ws.length).map fun i:Nat=>⟨(i:Int),0,(ws.getD i (0,0)).1,(ws.getD i (0,0)).2⟩
theorem tsW_len (ws:Wss):(tsW ws).length=ws.length:=by simp [tsW]
theorem tsW_get {ws:Wss} {i:Nat} (h:i<ws.length):(tsW ws).getD i ts0=⟨(i:Int),0,(ws.getD i (0,0)).1,(ws.getD i (0,0)).2⟩:=by
 unfold tsW
 rw [List.getD_eq_getElem?_getD,List.getElem?_map,List.getElem?_range h];rfl
theorem cellsW {C:Cx Tryz.prog} {H:List HP} {o:Value} {ws:Wss} (h:RdF encT 4 C.B C.w0 o (tsW ws)) {i:Nat} (h1:i<ws.length):Cells C H (elt o i 4) [.int .i64 (i:Int),.int .i64 0,.int .i64 (ws.getD i (0,0)).1,.int .i64 (ws.getD i (0,0)).2]:=by
 have:=cellsTs (H:=H) h (i:=i) (by rw [tsW_len];exact h1)
 rw [tsW_get h1] at this
 exact this
structure OkW (ws:Wss) (v:Int):Prop where
 n:1≤ws.length∧ws.length≤6
 lo:∀ i,i<ws.length→0≤(ws.getD i (0,0)).1∧(ws.getD i (0,0)).1≤v
 hi:∀ i,i<ws.length→v≤(ws.getD i (0,0)).2∧(ws.getD i (0,0)).2≤20000
theorem OkW.tb {ws:Wss} {v:Int} (h:OkW ws v):OkTb (ws.length:Int) 1 0 0 (tsW ws):=by
 have hn:=h.n
 refine ⟨by rw [tsW_len];omega,by omega,by omega,by unfold OkR;omega,fun i hi=>?_,fun i hi=>?_⟩
 ·rw [tsW_len] at hi
  rw [tsW_get hi]
  dsimp only;omega
 ·rw [tsW_len] at hi
  have a:=h.lo i hi
  have b:=h.hi i hi
  rw [tsW_get hi]
  unfold OkR
  dsimp only;omega
def mkF (g:Nat→Nat→Option Int):Nat→Option Int:=fun x=>g (x/13) (x%13)
theorem mkF_at (g:Nat→Nat→Option Int) {i j:Nat} (hj:j<13):mkF g (13*i+j)=g i j:=by
 unfold mkF;rw [show (13*i+j)/13=i by omega,show (13*i+j)%13=j by omega]
theorem upd_mk (g:Nat→Nat→Option Int) {i j:Nat} (hj:j<13) (o:Option Int):upd (mkF g) (13*i+j) o=mkF (fun q r=>if q=i∧r=j then o else g q r):=by
 funext x
 unfold upd mkF
 by_cases h:x=13*i+j
 ·rw [if_pos h];exact (if_pos (show x/13=i∧x%13=j by omega)).symm
 ·rw [if_neg h];exact (if_neg (show ¬ (x/13=i∧x%13=j) by omega)).symm
def g2 (ws:Wss) (a k:Nat) (q r:Nat):Option Int :=
 if q=0 then (if 1≤r∧r≤a then some 0 else none)
 else if r=0 then (if q≤a then some 0 else none)
 else if q=ws.length+1 then (if r≤k then some (ws.getD (r-1) (0,0)).2 else none)
 else if r=ws.length+1 then (if q≤k then some (-(ws.getD (q-1) (0,0)).1) else none)
 else none
theorem g2_0 (ws:Wss):mkF (g2 ws 0 0)=fun _=>none:=by
 funext x
 unfold mkF g2
 split
 ·rw [if_neg (by omega)]
 ·split
  ·rw [if_neg (by omega)]
  ·split
   ·rw [if_neg (by omega)]
   ·split
    ·rw [if_neg (by omega)]
    ·rfl
theorem g2_tank (ws:Wss) {k:Nat} (h:k<ws.length):(fun q r=>if q=1+k∧r=0 then some 0 else (if q=0∧r=1+k then some (0:Int) else g2 ws k 0 q r))=g2 ws (k+1) 0:=by
 funext q r
 unfold g2
 by_cases h1:q=0
 ·subst h1
  rw [if_neg (by omega),if_pos rfl,if_pos rfl]
  by_cases h2:r=1+k
  ·rw [if_pos ⟨rfl,h2⟩,if_pos (by omega)]
  ·rw [if_neg (by omega)]
   by_cases h3:1≤r∧r≤k
   ·rw [if_pos h3,if_pos (by omega)]
   ·rw [if_neg h3,if_neg (by omega)]
 ·rw [if_neg h1,if_neg h1]
  by_cases h2:r=0
  ·subst h2
   rw [if_pos rfl,if_pos rfl]
   by_cases h3:q=1+k
   ·rw [if_pos ⟨h3,rfl⟩,if_pos (by omega)]
   ·rw [if_neg (by omega),if_neg (by omega)]
    by_cases h4:q≤k
    ·rw [if_pos h4,if_pos (by omega)]
    ·rw [if_neg h4,if_neg (by omega)]
  ·rw [if_neg (by omega),if_neg (by omega),if_neg h2,if_neg h2]
theorem g2_test (ws:Wss) {k:Nat} (h:k<ws.length):(fun q r=>if q=1+k∧r=ws.length+1 then some (-(ws.getD k (0,0)).1) else (if q=ws.length+1∧r=1+k then some (ws.getD k (0,0)).2 else g2 ws ws.length k q r))=g2 ws ws.length (k+1):=by
 funext q r
 unfold g2
 by_cases h1:q=0
 ·rw [if_neg (by omega),if_neg (by omega),if_pos h1,if_pos h1]
 ·rw [if_neg h1,if_neg h1]
  by_cases h2:r=0
  ·rw [if_neg (by omega),if_neg (by omega),if_pos h2,if_pos h2]
  ·rw [if_neg h2,if_neg h2]
   by_cases h3:q=ws.length+1
   ·rw [if_neg (by omega),if_pos h3,if_pos h3]
    by_cases h4:r=1+k
    ·rw [if_pos ⟨h3,h4⟩,if_pos (by omega),h4,show 1+k-1=k by omega]
    ·rw [if_neg (by omega)]
     by_cases h5:r≤k
     ·rw [if_pos h5,if_pos (by omega)]
     ·rw [if_neg h5,if_neg (by omega)]
   ·rw [if_neg (show ¬ (q=ws.length+1∧r=1+k) by omega),if_neg h3,if_neg h3]
    by_cases h4:r=ws.length+1
    ·rw [if_pos h4,if_pos h4]
     by_cases h5:q=1+k
     ·rw [if_pos ⟨h5,h4⟩,if_pos (by omega),h5,show 1+k-1=k by omega]
     ·rw [if_neg (by omega)]
      by_cases h6:q≤k
      ·rw [if_pos h6,if_pos (by omega)]
      ·rw [if_neg h6,if_neg (by omega)]
    ·rw [if_neg (by omega),if_neg h4,if_neg h4]
abbrev hdW (ws:Wss) (o:Value):List Value:=[.int .i64 (ws.length:Int),.int .i64 1,.int .i64 0,.int .i64 0,o,.int .i64 (1+(ws.length:Int)+1)]
theorem net0 (a b c d e f:Value):netC [a,b,c,d,e,f] (fun _=>none)=[a,b,c,d,e,f,.bool false,.int .i64 0,.bool false,.int .i64 0,.bool false,.int .i64 0,.bool false,.int .i64 0,.bool false,.int .i64 0,.bool false,.int .i64 0,.bool false,.int .i64 0,.bool false,.int .i64 0,.bool false,.int .i64 0,.bool false,.int .i64 0,.bool false,.int .i64 0,.bool false,.int .i64 0,.bool false,.int .i64 0,.bool false,.int .i64 0,.bool false,.int .i64 0,.bool false,.int .i64 0,.bool false,.int .i64 0,.bool false,.int .i64 0,.bool false,.int .i64 0,.bool false,.int .i64 0,.bool false,.int .i64 0,.bool false,.int .i64 0,.bool false,.int .i64 0,.bool false,.int .i64 0,.bool false,.int .i64 0,.bool false,.int .i64 0,.bool false,.int .i64 0,.bool false,.int .i64 0,.bool false,.int .i64 0,.bool false,.int .i64 0,.bool false,.int .i64 0,.bool false,.int .i64 0,.bool false,.int .i64 0,.bool false,.int .i64 0,.bool false,.int .i64 0,.bool false,.int .i64 0,.bool false,.int .i64 0,.bool false,.int .i64 0,.bool false,.int .i64 0,.bool false,.int .i64 0,.bool false,.int .i64 0,.bool false,.int .i64 0,.bool false,.int .i64 0,.bool false,.int .i64 0,.bool false,.int .i64 0,.bool false,.int .i64 0,.bool false,.int .i64 0,.bool false,.int .i64 0,.bool false,.int .i64 0,.bool false,.int .i64 0,.bool false,.int .i64 0,.bool false,.int .i64 0,.bool false,.int .i64 0,.bool false,.int .i64 0,.bool false,.int .i64 0,.bool false,.int .i64 0,.bool false,.int .i64 0,.bool false,.int .i64 0,.bool false,.int .i64 0,.bool false,.int .i64 0,.bool false,.int .i64 0,.bool false,.int .i64 0,.bool false,.int .i64 0,.bool false,.int .i64 0,.bool false,.int .i64 0,.bool false,.int .i64 0,.bool false,.int .i64 0,.bool false,.int .i64 0,.bool false,.int .i64 0,.bool false,.int .i64 0,.bool false,.int .i64 0,.bool false,.int .i64 0,.bool false,.int .i64 0,.bool false,.int .i64 0,.bool false,.int .i64 0,.bool false,.int .i64 0,.bool false,.int .i64 0,.bool false,.int .i64 0,.bool false,.int .i64 0,.bool false,.int .i64 0,.bool false,.int .i64 0,.bool false,.int .i64 0,.bool false,.int .i64 0,.bool false,.int .i64 0,.bool false,.int .i64 0,.bool false,.int .i64 0,.bool false,.int .i64 0,.bool false,.int .i64 0,.bool false,.int .i64 0,.bool false,.int .i64 0,.bool false,.int .i64 0,.bool false,.int .i64 0,.bool false,.int .i64 0,.bool false,.int .i64 0,.bool false,.int .i64 0,.bool false,.int .i64 0,.bool false,.int .i64 0,.bool false,.int .i64 0,.bool false,.int .i64 0,.bool false,.int .i64 0,.bool false,.int .i64 0,.bool false,.int .i64 0,.bool false,.int .i64 0,.bool false,.int .i64 0,.bool false,.int .i64 0,.bool false,.int .i64 0,.bool false,.int .i64 0,.bool false,.int .i64 0,.bool false,.int .i64 0,.bool false,.int .i64 0,.bool false,.int .i64 0,.bool false,.int .i64 0,.bool false,.int .i64 0,.bool false,.int .i64 0,.bool false,.int .i64 0,.bool false,.int .i64 0,.bool false,.int .i64 0,.bool false,.int .i64 0,.bool false,.int .i64 0,.bool false,.int .i64 0,.bool false,.int .i64 0,.bool false,.int .i64 0,.bool false,.int .i64 0,.bool false,.int .i64 0,.bool false,.int .i64 0,.bool false,.int .i64 0,.bool false,.int .i64 0,.bool false,.int .i64 0,.bool false,.int .i64 0,.bool false,.int .i64 0,.bool false,.int .i64 0,.bool false,.int .i64 0,.bool false,.int .i64 0,.bool false,.int .i64 0,.bool false,.int .i64 0,.bool false,.int .i64 0,.bool false,.int .i64 0,.bool false,.int .i64 0,.bool false,.int .i64 0,.bool false,.int .i64 0,.bool false,.int .i64 0,.bool false,.int .i64 0,.bool false,.int .i64 0,.bool false,.int .i64 0,.bool false,.int .i64 0,.bool false,.int .i64 0,.bool false,.int .i64 0,.bool false,.int .i64 0,.bool false,.int .i64 0,.bool false,.int .i64 0,.bool false,.int .i64 0,.bool false,.int .i64 0,.bool false,.int .i64 0,.bool false,.int .i64 0,.bool false,.int .i64 0,.bool false,.int .i64 0,.bool false,.int .i64 0,.bool false,.int .i64 0,.bool false,.int .i64 0,.bool false,.int .i64 0,.bool false,.int .i64 0,.bool false,.int .i64 0,.bool false,.int .i64 0,.bool false,.int .i64 0,.bool false,.int .i64 0,.bool false,.int .i64 0,.bool false,.int .i64 0,.bool false,.int .i64 0,.bool false,.int .i64 0]:=by kernel_rfl
theorem c_newNet (w:World) (o:Value) (ws:Wss) (v:Int) (hw:OkW ws v) (hR:RdF encT 4 w.heap.size w o (tsW ws)):Ct Tryz.prog 32 [.agg #[.int .i64 (ws.length:Int),.int .i64 1,.int .i64 0,.int .i64 0,o]].toArray w fun r w'=>∃ Hq,(∃ b:Nat,r=.pointer (some ⟨b,0,none⟩)∧Hq=[netP b (hdW ws o) (mkF (g2 ws ws.length ws.length))])∧Inv w [] Hq w':=by
 refine Ct.ofI (X:=Nat) (p:=fun b r=>r=.pointer (some ⟨b,0,none⟩)) (Hx:=fun b=>[netP b (hdW ws o) (mkF (g2 ws ws.length ws.length))]) mixed tyTab Tryz.func32 rfl rfl ?_
 replace hR:RdF encT 4 (fnCx mixed tyTab Tryz.f32.ntmps w).B (fnCx mixed tyTab Tryz.f32.ntmps w).w0 o (tsW ws):=hR
 have hoc:=hR.sl.oc
 have hn:=hw.n
 have hts:=tsW_len ws
 refine W.sreg (WO.boxA rfl rfl (fun b1 hb1=>(WO.p rfl rfl (WO.nil (W.sreg (WO.loadA rfl rfl (Cells.own Pick.head) rfl rfl (WO.field0 rfl rfl rfl (WO.load rfl rfl (Cell.own Pick.head rfl) rfl (WO.ar rfl rfl rfl (by unfold in64;omega) rfl (WO.fieldL rfl rfl rfl (WO.load rfl rfl (Cell.own Pick.head rfl) rfl (WO.ar rfl rfl rfl (by unfold in64;omega) rfl (WO.build rfl rfl rfl rfl rfl (WO.boxA rfl rfl (fun b2 hb2=>(WO.p rfl rfl (WO.nil (W.seq ?_))))))))))))))))))
 rw [← net0,← g2_0 ws]
 refine W.sreg (WO.p rfl rfl (WO.p rfl rfl (WO.field0 rfl rfl rfl (WO.field0 rfl rfl rfl (WO.load rfl rfl (Cell.own Pick.head rfl) rfl (WO.p rfl rfl (WO.nil (W.block ?_))))))))
 refine W.loop (fun (i:Nat)=>i≤ws.length)
  (fun (i:Nat)=>[(1,.pointer (some ⟨b1,0,none⟩)),(3,.pointer (some ⟨b2,0,none⟩)),(22,.int .i64 (ws.length:Int)),(23,.int .i64 (i:Int))])
  (fun (i:Nat)=>[pt b1 (.cells #[.int .i64 (ws.length:Int),.int .i64 1,.int .i64 0,.int .i64 0,o] 31 (0,0)),netP b2 (hdW ws o) (mkF (g2 ws i 0))])
  (fun (i:Nat)=>ws.length-i) 0
  (by omega) ⟨rfl,rfl,rfl,rfl,trivial⟩ (by repeat (first | exact Sub.nil | refine Sub.cons (by repeat first | exact .head | apply Pick.tail) ?_)) ?_
 rintro i hi0
 refine W.sreg (WO.p rfl rfl (WO.nil (W.seq ?_)))
 refine W.cond_bl rfl (fun c1=>?_) (fun c1=>?_)
 ·refine W.skip (W.seq (W.block (W.sreg (WO.p rfl rfl (WO.p rfl rfl (WO.nil (W.sreg (WO.p rfl rfl (WO.p rfl rfl (WO.ar rfl rfl rfl (by unfold in64;omega) rfl (WO.p rfl rfl (WO.p rfl rfl (WO.field0 rfl rfl rfl (WO.fieldL rfl rfl rfl (WO.fieldL rfl rfl rfl (WO.load rfl rfl (Cell.own (Pick.tail (Pick.head)) rfl) rfl (WO.callH1 (A:=netP b2 (hdW ws o) (mkF (g2 ws i 0))) rfl Tryz.call77 (by repeat first | exact .head | apply Pick.tail) (fun L w' hi hB2=>c_put _ w' b2 (hdW ws o) (mkF (g2 ws i 0)) 0 (1+i) 0 (1+(i:Int)) 0 rfl (by omega) hB2 rfl (by omega) (by omega) (by rw [mkF_at _ (by omega)];unfold g2;rw [if_pos rfl,if_neg (by omega)])) rfl ?_)))))))))))))))))
  rintro _ _ ⟨_,rfl,rfl⟩
  rw [upd_mk _ (by omega)]
  refine WO.nil (W.region (WO.p rfl rfl (WO.p rfl rfl (WO.ar rfl rfl rfl (by unfold in64;omega) rfl (WO.p rfl rfl (WO.p rfl rfl (WO.field0 rfl rfl rfl (WO.fieldL rfl rfl rfl (WO.field0 rfl rfl rfl (WO.load rfl rfl (Cell.own Pick.head rfl) rfl (WO.neg rfl (by unfold in64;omega) rfl ?_)))))))))))
  refine WO.callH1 (A:=netP b2 (hdW ws o) (mkF (fun q r=>if q=0∧r=1+i then some 0 else g2 ws i 0 q r))) rfl Tryz.call77 (by repeat exact .head) (fun L w' hi hB2=>c_put _ w' b2 (hdW ws o) _ (1+i) 0 (1+(i:Int)) 0 0 (by omega) rfl hB2 rfl (by omega) (by omega) (by rw [mkF_at _ (by omega),if_neg (by omega)];unfold g2;rw [if_neg (by omega),if_pos rfl,if_neg (by omega)])) rfl ?_
  rintro _ _ ⟨_,rfl,rfl⟩
  rw [upd_mk _ (by omega),g2_tank ws (by omega)]
  refine WO.nil (W.region (WO.ar rfl rfl rfl (by unfold in64;omega) rfl (WO.p rfl rfl (WO.nil ?_))))
  refine' ⟨i+1,?hp,?hmu,⟨rfl,rfl,rfl,rfl,trivial⟩,?hS⟩
  case hS=>repeat (first | exact Sub.nil | refine Sub.cons (by repeat first | exact .head | apply Pick.tail) ?_)
  case hp=>omega
  case hmu=>omega
 ·refine W.exit (blk_same (W.seq ?_))
  obtain rfl:i=ws.length:=by omega
  refine W.sreg (WO.p rfl rfl (WO.p rfl rfl (WO.field0 rfl rfl rfl (WO.fieldL rfl rfl rfl (WO.load rfl rfl (Cell.own (Pick.tail (Pick.head)) rfl) rfl (WO.len rfl rfl hR.sl rfl (WO.p rfl rfl (WO.nil (W.block ?_)))))))))
  refine W.loop (fun (i:Nat)=>i≤ws.length)
   (fun (i:Nat)=>[(1,.pointer (some ⟨b1,0,none⟩)),(3,.pointer (some ⟨b2,0,none⟩)),(52,o),(53,.int .i64 ((tsW ws).length:Int)),(54,.int .i64 (i:Int))])
   (fun (i:Nat)=>[pt b1 (.cells #[.int .i64 (ws.length:Int),.int .i64 1,.int .i64 0,.int .i64 0,o] 31 (0,0)),netP b2 (hdW ws o) (mkF (g2 ws ws.length i))])
   (fun (i:Nat)=>ws.length-i) 0
   (by omega) ⟨rfl,rfl,rfl,rfl,rfl,trivial⟩ (by repeat (first | exact Sub.nil | refine Sub.cons (by repeat exact .head) ?_)) ?_
  rintro i hi0
  refine W.sreg (WO.p rfl rfl (WO.nil (W.seq ?_)))
  refine W.cond_bl rfl (fun c2=>?_) (fun c2=>?_)
  ·refine W.skip (W.seq (W.block (W.sreg (WO.indexAddr rfl rfl rfl hR.sl (by omega) rfl (WO.loadA rfl rfl (cellsW hR (i:=i) (by omega)) rfl rfl (WO.alloc rfl rfl rfl (fun b3 hb3=>(WO.storeA rfl rfl rfl rfl Pick.head rfl rfl (WO.nil (W.seq ?_))))))))))
   refine W.drawD 10 [.r 0 [],.b 1 [],.r 2 [],.r 3 [],.b 4 [],.r 5 [],.r 6 [],.b 7 [],.r 8 [],.r 9 []] [] (A0:=[]) (Sub.refl _) (by kernel_rfl) ?_ ?_
   ·repeat constructor
   refine DT.r rfl rfl rfl (WO.field0 rfl rfl rfl (WO.nil ⟨rfl,rfl⟩)) (DT.b rfl rfl rfl (WO.load rfl rfl (Cell.own Pick.head rfl) rfl (WO.nil ⟨rfl,rfl⟩)) (DT.r rfl rfl rfl (WO.ar rfl rfl rfl (by unfold in64;omega) rfl (WO.nil ⟨rfl,rfl⟩)) (DT.r rfl rfl rfl (WO.field0 rfl rfl rfl (WO.nil ⟨rfl,rfl⟩)) (DT.b rfl rfl rfl (WO.load rfl rfl (Cell.own (Pick.tail (Pick.head)) rfl) rfl (WO.nil ⟨rfl,rfl⟩)) (DT.r rfl rfl rfl (WO.ar rfl rfl rfl (by unfold in64;omega) rfl (WO.nil ⟨rfl,rfl⟩)) (DT.r rfl rfl rfl (WO.fieldL rfl rfl rfl (WO.nil ⟨rfl,rfl⟩)) (DT.b rfl rfl rfl (WO.load rfl rfl (Cell.own Pick.head rfl) rfl (WO.nil ⟨rfl,rfl⟩)) ?_)))))))
   refine DT.r rfl rfl rfl (WO.ar rfl rfl rfl (by unfold in64;omega) rfl (WO.nil ⟨rfl,rfl⟩)) (DT.r rfl rfl rfl (WO.p rfl rfl (WO.nil ⟨rfl,rfl⟩)) (DT.nil [_,_,_] rfl (WO.p rfl rfl (WO.nil ?_))))
   have hlo:=hw.lo i (by omega)
   have hhi:=hw.hi i (by omega)
   refine W.sreg (WO.p rfl rfl (WO.p rfl rfl (WO.p rfl rfl (WO.fieldL rfl rfl rfl (WO.fieldL rfl rfl rfl (WO.load rfl rfl (Cell.own Pick.head rfl) rfl (WO.callH1 (A:=netP b2 (hdW ws o) (mkF (g2 ws ws.length i))) rfl Tryz.call77 (by repeat first | exact .head | apply Pick.tail) (fun L w' hi hB2=>c_put _ w' b2 (hdW ws o) (mkF (g2 ws ws.length i)) (ws.length+1) (1+i) (1+(ws.length:Int)+0) (1+(i:Int)) (ws.getD i (0,0)).2 (by omega) (by omega) hB2 rfl (by omega) (by omega) (by rw [mkF_at _ (by omega)];unfold g2;rw [if_neg (by omega),if_neg (by omega),if_pos rfl,if_neg (by omega)])) rfl ?_)))))))
   rintro _ _ ⟨_,rfl,rfl⟩
   rw [upd_mk _ (by omega)]
   refine WO.nil (W.region (WO.p rfl rfl (WO.p rfl rfl (WO.p rfl rfl (WO.fieldL rfl rfl rfl (WO.field0 rfl rfl rfl (WO.load rfl rfl (Cell.own (Pick.tail (Pick.head)) rfl) rfl (WO.neg rfl (by unfold in64;omega) rfl ?_))))))))
   refine WO.callH1 (A:=netP b2 (hdW ws o) (mkF (fun q r=>if q=ws.length+1∧r=1+i then some (ws.getD i (0,0)).2 else g2 ws ws.length i q r))) rfl Tryz.call77 (by repeat exact .head) (fun L w' hi hB2=>c_put _ w' b2 (hdW ws o) _ (1+i) (ws.length+1) (1+(i:Int)) (1+(ws.length:Int)+0) (-(ws.getD i (0,0)).1) (by omega) (by omega) hB2 rfl (by omega) (by omega) (by rw [mkF_at _ (by omega),if_neg (by omega)];unfold g2;rw [if_neg (by omega),if_neg (by omega),if_neg (by omega),if_pos rfl,if_neg (by omega)])) rfl ?_
   rintro _ _ ⟨_,rfl,rfl⟩
   rw [upd_mk _ (by omega),g2_test ws (by omega)]
   refine WO.nil (W.region (WO.ar rfl rfl rfl (by unfold in64;omega) rfl (WO.p rfl rfl (WO.nil ?_))))
   refine' ⟨i+1,?hp,?hmu,⟨rfl,rfl,rfl,rfl,rfl,trivial⟩,?hS⟩
   case hS=>repeat (first | exact Sub.nil | refine Sub.cons (by repeat first | exact .head | apply Pick.tail) ?_)
   case hp=>omega
   case hmu=>omega
  ·refine W.exit (blk_same ?_)
   obtain rfl:i=ws.length:=by omega
   refine W.sreg (WO.p rfl rfl (WO.p rfl rfl (WO.nil (W.ret ?_))))
   exact fin.ret (Res.one rfl (RV.tmp rfl)) ⟨b2,rfl,fun h hs=>Sub.sat (by repeat (first | exact Sub.nil | refine Sub.cons (by repeat first | exact .head | apply Pick.tail) ?_)) hs⟩
end Go.Proofs.YtoapkhkdnbcilaaGreat
namespace Go.Proofs.YtoapkhkdnbcilaaGreat
open Go Go.TH
attribute [local irreducible] W WO pt
set_option maxRecDepth 10000
set_option maxHeartbeats 2000000
theorem eq126 (d:Nat) (w:World) (a:Bool) (x:Int):(Op.equalIn (d+2) 126 (.agg #[.bool a,.int .i64 x]) (.agg #[.bool false,.int .i64 0])).run Tryz.prog w=.ok (a==false&&x==0) w:=by
 cases a <;> by_cases h:x=0 <;> simp [go_sem,Tryz.underlying126,h]
theorem eqIt (d:Nat) (w:World) (f:Nat→Option Int):∀ is:List Nat,(∀ i∈is,i<13)→(Op.eqItems (d+2) 126 2 (prC f 13).toArray (prC (fun _=>none) 13).toArray is).run Tryz.prog w=.ok (bl (∀ i∈is,f i=none)) w
 | [],_=>by simp [Op.eqItems,bl_eq]
 | i::is,h=>by
  have h1:=h i (by simp)
  have ha:=run_partN (P:=Tryz.prog) (ft:=126) (fo:=i*2) (n:=2) (w:=w) (AT.of (t:=tyTab) rfl) (prC_at (f:=f) h1 (by omega))
  have hb:=run_partN (P:=Tryz.prog) (ft:=126) (fo:=i*2) (n:=2) (w:=w) (AT.of (t:=tyTab) rfl) (prC_at (f:=fun _=>none) h1 (by omega))
  have ih:=eqIt d w f is (fun j hj=>h j (by simp [hj]))
  unfold Op.eqItems
  simp only [Sem.run_bind,ha,hb,Result.andThen_ok]
  have e:=eq126 d w (f i).isSome ((f i).getD 0)
  simp only [Option.isSome_none,Option.getD_none] at *
  rw [e]
  cases hf:f i with
  | none =>
   simp [ih,bl_eq,hf]
  | some m=>simp [bl_eq,hf]
theorem eqrow (f:Nat→Option Int):EqT Tryz.prog .eql 128 (.agg (prC f 13).toArray) (.agg #[.bool false,.int .i64 0,.bool false,.int .i64 0,.bool false,.int .i64 0,.bool false,.int .i64 0,.bool false,.int .i64 0,.bool false,.int .i64 0,.bool false,.int .i64 0,.bool false,.int .i64 0,.bool false,.int .i64 0,.bool false,.int .i64 0,.bool false,.int .i64 0,.bool false,.int .i64 0,.bool false,.int .i64 0]) (.bool (bl (∀ i∈List.range 13,f i=none))):=by
 intro x y w
 have e:[.bool false,.int .i64 0,.bool false,.int .i64 0,.bool false,.int .i64 0,.bool false,.int .i64 0,.bool false,.int .i64 0,.bool false,.int .i64 0,.bool false,.int .i64 0,.bool false,.int .i64 0,.bool false,.int .i64 0,.bool false,.int .i64 0,.bool false,.int .i64 0,.bool false,.int .i64 0,.bool false,.int .i64 0]=prC (fun _=>none) 13:=by kernel_rfl
 have hi:∃ i,Tryz.prog.info? 126=some i:=⟨_,rfl⟩
 obtain ⟨i,hi⟩:=hi
 have hc:Tryz.prog.cellsOf 126=2:=rfl
 have q:(Op.equalIn 10000 128 (.agg (prC f 13).toArray) (.agg (prC (fun _=>none) 13).toArray)).run Tryz.prog w=.ok (bl (∀ i∈List.range 13,f i=none)) w:=by
  rw [show (10000:Nat)=9999+1 from rfl,run_equalIn_array w 9999 _ _ Tryz.underlying128 hi,hc,show (9999:Nat)=9997+2 from rfl,eqIt 9997 w f (List.range 13) (fun i hi=>List.mem_range.1 hi)]
 rw [show (#[.bool false,.int .i64 0,.bool false,.int .i64 0,.bool false,.int .i64 0,.bool false,.int .i64 0,.bool false,.int .i64 0,.bool false,.int .i64 0,.bool false,.int .i64 0,.bool false,.int .i64 0,.bool false,.int .i64 0,.bool false,.int .i64 0,.bool false,.int .i64 0,.bool false,.int .i64 0,.bool false,.int .i64 0]:Array Value)=(prC (fun _=>none) 13).toArray from congrArg List.toArray e]
 simp [eqGuard,binOp,Op.equal,Op.maxDepth,go_sem,Tryz.eqGuardType128,q]
def stTo (F:Nat→Option Int):Nat→List (Nat × Int)
 | 0=>[]
 | x+1=>stTo F x++(match F x with | some m=>[(x,m)] | none=>[])
theorem st_none {F:Nat→Option Int} {x:Nat} (h:F x=none):stTo F (x+1)=stTo F x:=by
 show stTo F x++_=_;rw [h];simp
theorem st_some {F:Nat→Option Int} {x:Nat} {m:Int} (h:F x=some m):stTo F (x+1)=stTo F x++[(x,m)]:=by
 show stTo F x++_=_;rw [h]
theorem st_skip {F:Nat→Option Int} {x:Nat}:∀ n,(∀ k,k<n→F (x+k)=none)→stTo F (x+n)=stTo F x
 | 0,_=>rfl
 | n+1,h=>by rw [show x+(n+1)=(x+n)+1 by omega,st_none (h n (by omega)),st_skip n (fun k hk=>h k (by omega))]
theorem st_pre {F:Nat→Option Int} {x:Nat}:∀ n,∃ l,stTo F (x+n)=stTo F x++l
 | 0=>⟨[],by simp⟩
 | n+1=>by
  obtain ⟨l,hl⟩:=st_pre (F:=F) (x:=x) n
  exact ⟨l++_,by rw [show x+(n+1)=(x+n)+1 by omega];show stTo F (x+n)++_=_;rw [hl,List.append_assoc]⟩
theorem st_get {F:Nat→Option Int} {x n:Nat} {m:Int} (h:F x=some m) (hx:x<n):(stTo F n)[(stTo F x).length]?=some (x,m):=by
 obtain ⟨l,hl⟩:=st_pre (F:=F) (x:=x+1) (n-(x+1))
 rw [show x+1+(n-(x+1))=n by omega] at hl
 rw [hl,st_some h]
 simp
def stV (s:Nat × Int):Value:=.agg #[.int .i64 ((s.1/13:Nat):Int),.int .i64 ((s.1%13:Nat):Int),.int .i64 s.2]
end Go.Proofs.YtoapkhkdnbcilaaGreat
namespace Go.Proofs.YtoapkhkdnbcilaaGreat
open Go Go.TH
attribute [local irreducible] W WO pt
set_option maxRecDepth 10000
set_option maxHeartbeats 4000000
structure RdO (B:Nat) (w:World) (b:Nat) (cs:List Value) (t:TypeId):Prop where
 lt:b<B
 at_:w.heap[b]?=some (.cells cs.toArray t (0,0))
theorem RdO.agree {B:Nat} {w w':World} {b:Nat} {cs:List Value} {t:TypeId} (h:RdO B w b cs t) (hk:∀ k,k<B→w'.heap[k]?=w.heap[k]?):RdO B w' b cs t:=⟨h.lt,by rw [hk _ h.lt];exact h.at_⟩
theorem RdO.cells {C:Cx Tryz.prog} {H:List HP} {b off n:Nat} {cs vs:List Value} {t:TypeId} (h:RdO C.B C.w0 b cs t) (hv:(cs.drop off).take n=vs):Cells C H ⟨b,off,none⟩ vs:=by
 intro j v hj
 have e:(Addr.add ⟨b,off,none⟩ j)=⟨b,off+j,none⟩:=by unfold Addr.add;split <;> simp_all
 rw [e]
 refine Cell.old h.lt ?_
 subst hv
 rw [List.getElem?_take] at hj
 split at hj
 ·rw [List.getElem?_drop] at hj
  simp [World.cell?,h.at_,hj]
 ·cases hj
theorem RdO.cell {C:Cx Tryz.prog} {H:List HP} {b off:Nat} {cs:List Value} {t:TypeId} {v:Value} (h:RdO C.B C.w0 b cs t) (hv:lget cs off=some v):Cell C H ⟨b,off,none⟩ v:=by
 refine Cell.old h.lt ?_
 rw [lget_eq] at hv
 simp [World.cell?,h.at_,hv]
theorem RdO.later {C:Cx Tryz.prog} {H L:List HP} {w:World} {b:Nat} {cs:List Value} {t:TypeId} (h:RdO C.B C.w0 b cs t) (hi:Inv C.w0 C.M (L++H) w):RdO w.heap.size w b cs t :=
 ⟨Nat.lt_of_lt_of_le h.lt (Nat.le_trans C.hB hi.size),by rw [hi.keep _ (Nat.lt_of_lt_of_le h.lt C.hB) (fun hm=>by have:=C.hM _ hm;have:=h.lt;omega)];exact h.at_⟩
theorem RdO.of {C:Cx Tryz.prog} {H H' L:List HP} {w:World} {b:Nat} {cs:List Value} {t:TypeId} (p:Pick (pt b (.cells cs.toArray t (0,0))) H H') (hi:Inv C.w0 C.M (L++H) w):RdO w.heap.size w b cs t:=by
 have h1:=(hi.look (p.app L)).1
 exact ⟨(Array.getElem?_eq_some_iff.1 h1).1,h1⟩
theorem c_steps (w:World) (p:Nat):Ct Tryz.prog 128 [.pointer (some ⟨p,0,none⟩)].toArray w fun r w'=>∃ Hq,(∃ b,r=.func (.func 205) #[] #[.pointer (some ⟨b,0,none⟩)]∧Hq=[pt b (.cells #[.pointer (some ⟨p,0,none⟩)] 83 (0,0))])∧Inv w [] Hq w':=by
 refine Ct.of mixed tyTab Tryz.func128 rfl rfl (W.sreg (WO.box1 rfl (by rfl) rfl (fun b1 hb1=>(WO.p rfl rfl (WO.nil (W.sreg (WO.p rfl rfl (WO.p rfl rfl (WO.nil (W.ret ?_))))))))))
 exact fin.ret (Res.one rfl (RV.tmp rfl)) ⟨b1,rfl,rfl⟩
theorem stV_get {F:Nat→Option Int} {x n:Nat} {m:Int} (h:F x=some m) (hx:x<n):((stTo F n).map stV)[(stTo F x).length]?=some (stV (x,m)):=by
 rw [List.getElem?_map,st_get h hx];rfl
theorem len_n {F:Nat→Option Int} {x:Nat} (h:(F x).isSome=false):(stTo F (x+1)).length=(stTo F x).length:=by
 rw [st_none (by cases hf:F x <;> simp_all)]
theorem len_s {F:Nat→Option Int} {x:Nat} (h:(F x).isSome=true):(stTo F (x+1)).length=(stTo F x).length+1:=by
 cases hf:F x with
 | none=>rw [hf] at h;simp at h
 | some m=>rw [st_some hf];simp
theorem len_row {F:Nat→Option Int} {i:Nat} (h:∀ k∈List.range 13,F (13*i+k)=none):(stTo F (13*(i+1))).length=(stTo F (13*i)).length:=by
 rw [show 13*(i+1)=13*i+13 by omega,st_skip 13 (fun k hk=>h k (List.mem_range.2 hk))]
theorem stV_at {F:Nat→Option Int} {i j:Nat} (hi:i<13) (hj:j<13) (hs:(F (13*i+j)).isSome=true):((stTo F 169).map stV)[(stTo F (13*i+j)).length]?=some (.agg #[.int .i64 (i:Int),.int .i64 (j:Int),.int .i64 ((F (13*i+j)).getD 0)]):=by
 cases hf:F (13*i+j) with
 | none=>rw [hf] at hs;simp at hs
 | some m =>
  rw [stV_get hf (by omega)]
  unfold stV
  rw [show (13*i+j)/13=i by omega,show (13*i+j)%13=j by omega]
  rfl
theorem c_steps1 (B:Nat) (wr:World) (eb nb:Nat) (hd:List Value) (F:Nat→Option Int) (hN:RdO B wr nb (netC hd F) 131) (hh:hd.length=6)
 (ll:Nat) (Hc:Nat→List HP) (hy:∀ k x,((stTo F 169).map stV)[k]?=some x→YieldOK Tryz.prog B wr ll #[x] (Hc k) (Hc (k+1))) (w:World) (M':List Nat) (hB:B≤w.heap.size) (hk:∀ k,k<B→w.heap[k]?=wr.heap[k]?) (hM:∀ b∈M',B≤b)
 (hi:Inv w M' ([pt eb (.cells #[.pointer (some ⟨nb,0,none⟩)] 83 (0,0))]++Hc 0) w) :
 Ct Tryz.prog 205 ([.func (.yield ll) #[] #[],.pointer (some ⟨eb,0,none⟩)]:List Value).toArray w fun _ w'=>Inv w M' ([pt eb (.cells #[.pointer (some ⟨nb,0,none⟩)] 83 (0,0))]++Hc ((stTo F 169).map stV).length) w':=by
 refine Iter.of mixed tyTab hB hM Tryz.func205 rfl rfl hi ?_
 replace hN:RdO (itCx mixed tyTab Tryz.f205.ntmps w M' B hB hM).B (itCx mixed tyTab Tryz.f205.ntmps w M' B hB hM).w0 nb (netC hd F) 131:=hN.agree hk
 have hrows:((netC hd F).drop 6).take 338=prC F 169:=by
  have:=prC_part (f:=F) (n:=169) (i:=0) (m:=169) (off:=0) (len:=338) (by omega) rfl rfl
  rw [show (6:Nat)=hd.length from hh.symm,List.drop_left,List.append_nil]
  rw [List.take_of_length_le (by rw [prC_len];omega)]
 have hq:∀ H,Cells (itCx mixed tyTab Tryz.f205.ntmps w M' B hB hM) H (prt ⟨nb,0,none⟩ 6) (prC F 169):=fun H=>by rw [prt_eq,show (Addr.add ⟨nb,0,none⟩ 6)=⟨nb,6,none⟩ by unfold Addr.add;split <;> simp_all];exact hN.cells hrows
 refine W.sreg (WO.load rfl rfl (Cell.own Pick.head rfl) rfl (WO.p rfl rfl (WO.field rfl rfl rfl (WO.loadA rfl rfl (hq _) rfl rfl (WO.p rfl rfl (WO.nil (W.block ?_)))))))
 refine W.loop (fun (i:Nat)=>i≤13)
  (fun (i:Nat)=>[(0,.func (.yield ll) #[] #[]),(10,.agg (prC F 169).toArray),(11,.int .i64 (i:Int))])
  (fun (i:Nat)=>[pt eb (.cells #[.pointer (some ⟨nb,0,none⟩)] 83 (0,0)),sat (Hc (stTo F (13*i)).length)])
  (fun (i:Nat)=>13-i) 0
  (by exact Nat.zero_le _) ⟨rfl,rfl,rfl,trivial⟩ (by repeat (first | exact Sub.nil | refine Sub.cons (by repeat exact .head) ?_)) ?_
 rintro i hi'
 refine W.sreg (WO.p rfl rfl (WO.nil (W.seq ?_)))
 refine W.cond_bl rfl (fun c1=>?_) (fun c1=>?_)
 ·refine W.skip (W.seq (W.block (W.sreg (WO.p rfl rfl (WO.indexVN (i:=i) (off:=i*26) (us:=prC (fun j=>F (13*i+j)) 13) rfl rfl rfl rfl (by omega) rfl (prC_part (by omega) (by omega) (by omega)) rfl (WO.alloc rfl rfl rfl (fun b1 hb1=>(WO.p rfl rfl (WO.storeA rfl rfl rfl rfl Pick.head rfl (prC_oc _ _) (WO.nil (W.seq (W.sreg (WO.loadA rfl rfl (Cells.own Pick.head) rfl rfl (WO.build rfl rfl rfl rfl rfl (WO.eqT rfl rfl (eqrow _) rfl (WO.nil ?_))))))))))))))))
  refine W.cond_bl rfl (fun c2=>?_) (fun c2=>?_)
  ·refine W.exit (blk_same ?_)
   rw [← len_row (i:=i) (by assumption)]
   refine W.region (WO.ar rfl rfl rfl (by unfold in64;omega) rfl (WO.p rfl rfl (WO.nil ?_)))
   refine' ⟨i+1,?hp,?hmu,⟨rfl,rfl,rfl,trivial⟩,?hS⟩
   case hS=>repeat (first | exact Sub.nil | refine Sub.cons (by repeat first | exact .head | apply Pick.tail) ?_)
   case hp=>omega
   case hmu=>omega
  ·refine W.skip (W.sreg (WO.loadA rfl rfl (Cells.own Pick.head) rfl rfl (WO.p rfl rfl (WO.nil (W.block ?_)))))
   refine W.loop (fun (j:Nat)=>j≤13)
    (fun (j:Nat)=>[(0,.func (.yield ll) #[] #[]),(3,.int .i64 (i:Int)),(10,.agg (prC F 169).toArray),(11,.int .i64 (i:Int)),(18,.agg (prC (fun j=>F (13*i+j)) 13).toArray),(19,.int .i64 (j:Int))])
    (fun (j:Nat)=>[pt eb (.cells #[.pointer (some ⟨nb,0,none⟩)] 83 (0,0)),sat (Hc (stTo F (13*i+j)).length)])
    (fun (j:Nat)=>13-j) 0
    (by exact Nat.zero_le _) ⟨rfl,rfl,rfl,rfl,rfl,rfl,trivial⟩ (by repeat (first | exact Sub.nil | refine Sub.cons (by repeat first | exact .head | apply Pick.tail) ?_)) ?_
   rintro j hj'
   refine W.sreg (WO.p rfl rfl (WO.nil (W.seq ?_)))
   refine W.cond_bl rfl (fun c3=>?_) (fun c3=>?_)
   ·refine W.skip (W.seq (W.block ?_))
    obtain ⟨bv,hbv⟩:∃ bv,(F (13*i+j)).isSome=bv:=⟨_,rfl⟩
    refine W.sreg (WO.p rfl rfl (WO.indexVN (i:=j) (off:=j*2) (us:=[.bool bv,.int .i64 ((F (13*i+j)).getD 0)]) rfl rfl rfl rfl (by omega) rfl (by rw [prC_at (f:=fun j=>F (13*i+j)) (i:=j) (by omega) (by omega),hbv]) rfl (WO.alloc rfl rfl rfl (fun b2 hb2=>(WO.p rfl rfl (WO.storeA rfl rfl rfl rfl Pick.head rfl rfl (WO.nil (W.sreg (WO.field0 rfl rfl rfl (WO.load rfl rfl (Cell.own Pick.head rfl) rfl (WO.p rfl rfl ?_)))))))))))
    refine WO.guard_b rfl rfl (fun c4=>?_) (fun c4=>?_)
    ·refine WO.pg rfl rfl rfl (WO.pg rfl rfl rfl (WO.pg rfl rfl rfl (WO.go' rfl (WO.fieldL rfl rfl rfl (WO.go' rfl (WO.load rfl rfl (Cell.own Pick.head rfl) rfl (WO.go' rfl (WO.build rfl rfl rfl rfl rfl (WO.go' rfl (WO.yield rfl rfl (by repeat first | exact .head | apply Pick.tail) ((hy _ _ (stV_at (by omega) (by omega) (by rw [hbv];assumption))).one.agree hk) rfl (WO.pg rfl rfl rfl (WO.p rfl rfl (WO.nil (W.cond_f rfl (W.skip ?_)))))))))))))))
     rw [← len_s (x:=13*i+j) (by rw [hbv];assumption)]
     refine W.region (WO.ar rfl rfl rfl (by unfold in64;omega) rfl (WO.p rfl rfl (WO.nil ?_)))
     refine' ⟨j+1,?hp,?hmu,⟨rfl,rfl,rfl,rfl,rfl,rfl,trivial⟩,?hS⟩
     case hS=>repeat (first | exact Sub.nil | refine Sub.cons (by repeat first | exact .head | apply Pick.tail) ?_)
     case hp=>omega
     case hmu=>omega
    ·refine WO.no rfl rfl (WO.no rfl rfl (WO.no rfl rfl (WO.no rfl rfl (WO.no rfl rfl (WO.no rfl rfl (WO.no rfl rfl (WO.no rfl rfl (WO.p rfl rfl (WO.nil (W.cond_f rfl (W.skip ?_)))))))))))
     rw [← len_n (x:=13*i+j) (by rw [hbv];assumption)]
     refine W.region (WO.ar rfl rfl rfl (by unfold in64;omega) rfl (WO.p rfl rfl (WO.nil ?_)))
     refine' ⟨j+1,?hp,?hmu,⟨rfl,rfl,rfl,rfl,rfl,rfl,trivial⟩,?hS⟩
     case hS=>repeat (first | exact Sub.nil | refine Sub.cons (by repeat first | exact .head | apply Pick.tail) ?_)
     case hp=>omega
     case hmu=>omega
   ·refine W.exit (blk_same ?_)
    (obtain rfl:j=13:=(by omega);rw [show 13*i+13=13*(i+1) by omega])
    refine W.region (WO.ar rfl rfl rfl (by unfold in64;omega) rfl (WO.p rfl rfl (WO.nil ?_)))
    refine' ⟨i+1,?hp,?hmu,⟨rfl,rfl,rfl,trivial⟩,?hS⟩
    case hS=>repeat (first | exact Sub.nil | refine Sub.cons (by repeat exact .head) ?_)
    case hp=>omega
    case hmu=>omega
 ·refine W.exit (blk_same ?_)
  obtain rfl:i=13:=by omega
  refine fin.normal (Res.none rfl) ?_
  rw [List.length_map]
  exact .cons (by repeat exact .head) (.cons (by repeat exact .head) .nil)
end Go.Proofs.YtoapkhkdnbcilaaGreat
namespace Go.Proofs.YtoapkhkdnbcilaaGreat
open Go Go.TH
attribute [local irreducible] W WO pt
set_option maxRecDepth 10000
set_option maxHeartbeats 2000000
def KeyI (l:List MapEntry):Prop:=∀ e∈l,∃ y:Int,e.key=.int .i64 y
def MpI (b:Nat):HP:=fun h=>∃ es clk,KeyI (es:Array MapEntry).toList∧pt b (.map es clk) h
theorem find_int (z:Int):∀ (l:List MapEntry) (n:Nat),KeyI l→Instr.findNow (.int .i64) (.int .i64 z) l n=some none∨∃ j e,Instr.findNow (.int .i64) (.int .i64 z) l n=some (some (n+j,e.val))∧l[j]?=some e∧e.key=.int .i64 z
 | [],n,_=>.inl rfl
 | e::es,n,h=>by
  obtain ⟨y,hy⟩:=h e (by simp)
  by_cases g:z=y
  ·subst g
   exact .inr ⟨0,e,by simp [Instr.findNow,hy,Instr.sameNow],rfl,hy⟩
  ·have gb:(z==y)=false:=by simp [g]
   rcases find_int z es (n+1) (fun x hx=>h x (by simp [hx])) with q | ⟨j,e',q1,q2,q3⟩
   ·exact .inl (by simp [Instr.findNow,hy,Instr.sameNow,gb,q])
   ·exact .inr ⟨j+1,e',by simp [Instr.findNow,hy,Instr.sameNow,gb,q1];omega,by simpa using q2,q3⟩
theorem staysI (w:World) (z:Int):(Instr.keyThatStays (.int .i64 z) (.int .i64 z)).run Tryz.prog w=.ok (.int .i64 z) w:=by
 have h:Instr.sameBits 10000 (.int .i64 z) (.int .i64 z)=true:=by
  unfold Instr.sameBits
  simp
 simp [Instr.keyThatStays,h]
section
variable {C:Cx Tryz.prog} {E:Env} {H H':List HP}
variable {ops:Array Oper} {K:KP} {rest:List Oper} {d:Nat} {ty:TypeId} {pos:String} {af:Array Edge} {x y z:Operand} {T:TypeId}
theorem MpI.open {w0 w:World} {M:List Nat} {L H':List HP} {b:Nat} (p:Pick (MpI b) H H') (hi:TH.Inv w0 M (L++H) w):∃ (es:Array MapEntry) (clk:Nat),KeyI es.toList∧TH.Inv w0 M (pt b (.map es clk)::(L++H')) w:=by
 have h1:=(hi.pickL p).perm List.perm_middle
 obtain ⟨ha,hb,s,⟨es,clk,e,q⟩,hr⟩:=h1.mine
 exact ⟨es,clk,e,h1.os,h1.tape,h1.output,h1.size,h1.keep,ha,hb,s,q,hr⟩
theorem MpI.shut {w0 w:World} {M:List Nat} {L H':List HP} {b clk:Nat} {es:Array MapEntry} (e:KeyI es.toList) (hi:TH.Inv w0 M (pt b (.map es clk)::(L++H')) w):TH.Inv w0 M (L++MpI b::H') w:=by
 have h2:TH.Inv w0 M (MpI b::(L++H')) w:=⟨hi.os,hi.tape,hi.output,hi.size,hi.keep,sat_mono (fun h q=>⟨es,clk,e,q⟩) hi.mine⟩
 exact h2.perm (List.perm_middle (l₁:=L) (l₂:=H')).symm
theorem WO.mapAny {b:Nat} {zk zv:Int} {kt et:TypeId} (hT:Tryz.prog.underlying T=some (.map kt et)) (hkt:Tryz.prog.underlying kt=some (.int .i64)) (hm:ev E x=some (.map (some b))) (hk:ev E y=some (.int .i64 zk)) (hu:ev E z=some (.int .i64 zv)) (p:Pick (MpI b) H H')
 (h:WO C ops rest K E (MpI b::H')):WO C ops (⟨none,.mapUpdate T x y z,ty,pos,af,none⟩::rest) K E H:=by
 refine WO.step0 rfl rfl (XO.run (by simp) fun L a w hfr hi=>?_)
 obtain ⟨es,clk,he,hi'⟩:=MpI.open p hi
 have hl:=(hi'.look .head).1
 have hlt:b<w.heap.size:=(Array.getElem?_eq_some_iff.1 hl).1
 obtain ⟨es',clk',hrep,hr⟩:∃ (es':Array MapEntry) (clk':Nat),KeyI es'.toList∧(Instr.mapUpdate T (.map (some b)) (.int .i64 zk) (.int .i64 zv)).run Tryz.prog w=.ok () { w with heap:=w.heap.setIfInBounds b (.map es' clk') }:=by
  rcases find_int zk es.toList 0 he with q2 | ⟨j,e',q2,q3,q4⟩
  ·refine ⟨es.push { key:=.int .i64 zk,val:=.int .i64 zv,born:=clk },clk+1,?_,?_⟩
   ·intro e hm
    rw [Array.toList_push] at hm
    rcases List.mem_append.1 hm with g | g
    ·exact he e g
    ·obtain rfl:=List.mem_singleton.1 g
     exact ⟨zk,rfl⟩
   ·simp [Instr.mapUpdate,run_underlying hT,getMap_run hl,checkKey_int hkt,MapKept.run_findKey hkt q2]
    simp [setObj,Sem.run,hl,Result.andThen]
  ·have q3':es[j]?=some e':=by simpa using q3
   rw [Nat.zero_add] at q2
   refine ⟨es.modify j fun e=>{ e with key:=.int .i64 zk,val:=.int .i64 zv },clk,?_,?_⟩
   ·intro e hm
    rw [Array.toList_modify] at hm
    obtain ⟨i,hi1,rfl⟩:=List.getElem_of_mem hm
    rw [List.getElem_modify]
    split
    ·exact ⟨zk,rfl⟩
    ·exact he _ (List.getElem_mem _)
   ·simp [Instr.mapUpdate,run_underlying hT,getMap_run hl,checkKey_int hkt,MapKept.run_findKey hkt q2,q3',q4,staysI]
    simp [setObj,Sem.run,hl,Result.andThen]
 refine ⟨undef,{ w with heap:=w.heap.setIfInBounds b (.map es' clk') },_,.inr ⟨?_,rfl⟩,h,?_⟩
 ·simp [execOp,hfr.eval hm,hfr.eval hk,hfr.eval hu,hr]
 ·have hs:=hi'.set (o':=.map es' clk') .head (w':={ w with heap:=w.heap.setIfInBounds b (.map es' clk') }) rfl rfl rfl (by simp) (by simp [hlt]) (fun k hk=>by simp [Array.getElem?_setIfInBounds_ne (Ne.symm hk)])
  exact MpI.shut hrep hs
theorem MpI.start {b:Nat} (p:Pick (pt b (.map #[] 0)) H H'):∀ h,sat H h→sat (MpI b::H') h:=fun h hs=>by
 obtain ⟨h1,h2,s,a,r⟩:=p.sat hs
 exact ⟨h1,h2,s,⟨#[],0,fun e h=>by simp at h,a⟩,r⟩
end
def low (K:Nat→Option Int) (s:Nat × Int):Prop:=(K (s.1/13)).isSome=true∧((K (s.1%13)).isSome=false∨(K (s.1/13)).getD 0+s.2<(K (s.1%13)).getD 0)
instance (K:Nat→Option Int) (s:Nat × Int):Decidable (low K s):=by unfold low;infer_instance
def rlx (a:(Nat→Option Int) × Int) (s:Nat × Int):(Nat→Option Int) × Int:=if low a.1 s then (upd a.1 (s.1%13) (some ((a.1 (s.1/13)).getD 0+s.2)),((s.1%13:Nat):Int)) else a
def pasTo (F K:Nat→Option Int) (k:Nat):(Nat→Option Int) × Int:=((stTo F 169).take k).foldl rlx (K,-1)
def pas (F K:Nat→Option Int):(Nat→Option Int) × Int:=(stTo F 169).foldl rlx (K,-1)
theorem pas_all (F K:Nat→Option Int):pasTo F K (stTo F 169).length=pas F K:=by unfold pasTo pas;rw [List.take_length]
theorem pas_succ {F K:Nat→Option Int} {k:Nat} {s:Nat × Int} (h:(stTo F 169)[k]?=some s):pasTo F K (k+1)=rlx (pasTo F K k) s:=by
 unfold pasTo
 rw [List.take_add_one,h]
 simp [List.foldl_append]
def rnd (F K0:Nat→Option Int):Nat→(Nat→Option Int) × Int
 | 0=>(K0,-1)
 | r+1=>pas F (rnd F K0 r).1
end Go.Proofs.YtoapkhkdnbcilaaGreat
namespace Go.Proofs.YtoapkhkdnbcilaaGreat
open Go Go.TH
set_option maxRecDepth 10000
def psX (F K:Nat→Option Int) (x:Nat):(Nat→Option Int) × Int:=(stTo F x).foldl rlx (K,-1)
theorem ps_none {F K:Nat→Option Int} {x:Nat} (h:F x=none):psX F K (x+1)=psX F K x:=by unfold psX;rw [st_none h]
theorem ps_some {F K:Nat→Option Int} {x:Nat} {m:Int} (h:F x=some m):psX F K (x+1)=rlx (psX F K x) (x,m):=by unfold psX;rw [st_some h];simp [List.foldl_append]
theorem st_take {F:Nat→Option Int} {q:Nat} {s:Nat × Int}:∀ n,(stTo F n)[q]?=some s→(stTo F n).take q=stTo F s.1
 | 0,h=>by simp [stTo] at h
 | n+1,h=>by
  cases hf:F n with
  | none=>rw [st_none hf] at h ⊢;exact st_take n h
  | some m =>
   rw [st_some hf] at h ⊢
   rcases Nat.lt_or_ge q (stTo F n).length with g | g
   ·rw [List.getElem?_append_left g] at h
    rw [List.take_append_of_le_length (by omega)]
    exact st_take n h
   ·rw [List.getElem?_append_right g] at h
    have e:q=(stTo F n).length:=by
     rcases Nat.eq_zero_or_pos (q-(stTo F n).length) with e | e
     ·omega
     ·rw [List.getElem?_eq_none (by simp;omega)] at h;cases h
    subst e
    simp at h
    subst h
    simp
theorem pasTo_at {F K:Nat→Option Int} {q:Nat} {s:Nat × Int} (h:(stTo F 169)[q]?=some s):pasTo F K q=psX F K s.1:=by
 unfold pasTo psX;rw [st_take 169 h]
theorem pas_ps (F K:Nat→Option Int):pas F K=psX F K 169:=rfl
def gG (n:Nat) (a b:Nat→Int) (q r:Nat):Option Int :=
 if q=0 then (if 1≤r∧r≤n then some 0 else none)
 else if r=0 then (if q≤n then some 0 else none)
 else if q=n+1 then (if r≤n then some (b (r-1)) else none)
 else if r=n+1 then (if q≤n then some (a (q-1)) else none)
 else none
def hv (a:Nat→Int):Nat→Option Int
 | 0=>none
 | c+1=>some (match hv a c with | none=>a c | some x=>min x (a c))
theorem hv_le (a:Nat→Int):∀ c,∀ x,hv a c=some x→(∃ i,i<c∧x=a i)∧∀ i,i<c→x≤a i
 | 0,x,h=>by simp [hv] at h
 | c+1,x,h=>by
  unfold hv at h
  cases hc:hv a c with
  | none =>
   rw [hc] at h
   simp at h
   have c0:c=0:=by
    cases c with
    | zero=>rfl
    | succ c=>simp [hv] at hc
   subst c0
   exact ⟨⟨0,by omega,h.symm⟩,fun i hi=>by obtain rfl:i=0:=(by omega);omega⟩
  | some y =>
   rw [hc] at h
   simp at h
   obtain ⟨⟨i,hi,e⟩,hl⟩:=hv_le a c y hc
   refine ⟨?_,fun j hj=>?_⟩
   ·rcases Int.le_total y (a c) with g | g
    ·exact ⟨i,by omega,by omega⟩
    ·exact ⟨c,by omega,by omega⟩
   ·rcases Nat.lt_or_ge j c with g | g
    ·have:=hl j g;omega
    ·obtain rfl:j=c:=by omega
     omega
theorem hv_some (a:Nat→Int) {c:Nat} (h:0<c):∃ x,hv a c=some x:=by
 cases c with
 | zero=>omega
 | succ c=>exact ⟨_,rfl⟩
def TT (n:Nat) (a:Nat→Int) (t c:Nat) (y:Nat):Option Int:=if y=0 then some 0 else if y≤n then (if y<t then some 0 else none) else if y=n+1 then hv a c else none
structure OkG (n:Nat) (a b:Nat→Int):Prop where
 nn:1≤n∧n≤6
 s:∀ i j,i<n→j<n→0≤a i+b j
section
variable {n:Nat} {a b:Nat→Int}
theorem TT_0:TT n a 1 0=upd (fun _=>none) 0 (some 0):=by
 funext y
 unfold TT upd hv
 by_cases h:y=0
 ·simp [h]
 ·simp only [h,if_false]
  by_cases h2:y≤n
  ·rw [if_pos h2,if_neg (by omega)]
  ·rw [if_neg h2];split <;> rfl
theorem TT_tank {t:Nat} (h1:1≤t) (h2:t≤n):upd (TT n a t 0) t (some 0)=TT n a (t+1) 0:=by
 funext y
 unfold upd TT
 by_cases h:y=t
 ·subst h
  rw [if_pos rfl,if_neg (by omega),if_pos h2,if_pos (by omega)]
 ·rw [if_neg h]
  by_cases h3:y=0
  ·rw [if_pos h3,if_pos h3]
  ·rw [if_neg h3,if_neg h3]
   by_cases h4:y≤n
   ·rw [if_pos h4,if_pos h4]
    by_cases h5:y<t
    ·rw [if_pos h5,if_pos (by omega)]
    ·rw [if_neg h5,if_neg (by omega)]
   ·rw [if_neg h4,if_neg h4]
theorem TT_all {t t' c:Nat} (h:n<t) (h':n<t'):TT n a t c=TT n a t' c:=by
 funext y
 unfold TT
 by_cases h3:y=0
 ·rw [if_pos h3,if_pos h3]
 ·rw [if_neg h3,if_neg h3]
  by_cases h4:y≤n
  ·rw [if_pos h4,if_pos h4,if_pos (by omega),if_pos (by omega)]
  ·rw [if_neg h4,if_neg h4]
theorem TT_hull {t c:Nat} (v:Int) (hv':hv a (c+1)=some v):upd (TT n a t c) (n+1) (some v)=TT n a t (c+1):=by
 funext y
 unfold upd TT
 by_cases h:y=n+1
 ·subst h
  rw [if_pos rfl,if_neg (by omega),if_neg (by omega),if_pos rfl,hv']
 ·rw [if_neg h]
  by_cases h3:y=0
  ·rw [if_pos h3,if_pos h3]
  ·rw [if_neg h3,if_neg h3]
   by_cases h4:y≤n
   ·rw [if_pos h4,if_pos h4]
   ·rw [if_neg h4,if_neg h4,if_neg h,if_neg h]
theorem TT_same {t c:Nat} (h:hv a (c+1)=hv a c):TT n a t c=TT n a t (c+1):=by
 funext y;unfold TT;rw [h]
theorem rlx_no {K:Nat→Option Int} {l:Int} {s:Nat × Int} (h:¬ low K s):rlx (K,l) s=(K,l):=by unfold rlx;exact if_neg h
theorem rlx_yes {K:Nat→Option Int} {l:Int} {s:Nat × Int} (h:low K s):(rlx (K,l) s).1=upd K (s.1%13) (some ((K (s.1/13)).getD 0+s.2)):=by
 unfold rlx;rw [if_pos h]
theorem rlx_fst {p:(Nat→Option Int) × Int} {K:Nat→Option Int} {s:Nat × Int} (h:p.1=K):(rlx p s).1=(rlx (K,0) s).1:=by
 subst h
 unfold rlx
 dsimp only
 split <;> rfl
theorem TT_z {t c:Nat}:TT n a t c 0=some 0:=by unfold TT;rw [if_pos rfl]
theorem TT_t {t c y:Nat} (h1:1≤y) (h2:y≤n) (h3:y<t):TT n a t c y=some 0:=by unfold TT;rw [if_neg (by omega),if_pos h2,if_pos h3]
theorem TT_h {t c:Nat}:TT n a t c (n+1)=hv a c:=by unfold TT;rw [if_neg (by omega),if_neg (by omega),if_pos rfl]
theorem F_at {q r:Nat} (h:r<13):mkF (gG n a b) (13*q+r)=gG n a b q r:=mkF_at _ h
theorem low_at {K:Nat→Option Int} {q r:Nat} {m:Int} (h:r<13):low K (13*q+r,m)↔(K q).isSome=true∧((K r).isSome=false∨(K q).getD 0+m<(K r).getD 0):=by
 unfold low
 dsimp only
 rw [show (13*q+r)/13=q by omega,show (13*q+r)%13=r by omega]
theorem gG_cases {q r:Nat} {m:Int} (h:gG n a b q r=some m):(q=0∧1≤r∧r≤n∧m=0)∨(1≤q∧q≤n∧r=0∧m=0)∨(q=n+1∧1≤r∧r≤n∧m=b (r-1))∨(1≤q∧q≤n∧r=n+1∧m=a (q-1)):=by
 unfold gG at h
 split at h
 ·split at h
  ·injection h with h;exact .inl ⟨by omega,by omega,by omega,h.symm⟩
  ·cases h
 ·split at h
  ·split at h
   ·injection h with h;exact .inr (.inl ⟨by omega,by omega,by omega,h.symm⟩)
   ·cases h
  ·split at h
   ·split at h
    ·injection h with h;exact .inr (.inr (.inl ⟨by omega,by omega,by omega,h.symm⟩))
    ·cases h
   ·split at h
    ·split at h
     ·injection h with h;exact .inr (.inr (.inr ⟨by omega,by omega,by omega,h.symm⟩))
     ·cases h
    ·cases h
theorem quiet (hg:OkG n a b) {x:Nat} {m:Int} (h:mkF (gG n a b) x=some m):¬ low (TT n a (n+1) n) (x,m):=by
 have hn:=hg.nn
 have hx:x=13*(x/13)+x%13:=by omega
 rw [hx,F_at (by omega)] at h
 rw [hx,low_at (by omega)]
 obtain ⟨y,hy⟩:=hv_some a (show 0<n by omega)
 obtain ⟨⟨i,hi,e⟩,hl⟩:=hv_le a n y hy
 rintro ⟨_,h2⟩
 generalize x/13=q at *
 generalize x%13=r at *
 rcases gG_cases h with ⟨rfl,g1,g2,rfl⟩ | ⟨g1,g2,rfl,rfl⟩ | ⟨rfl,g1,g2,rfl⟩ | ⟨g1,g2,rfl,rfl⟩
 ·rw [TT_z,TT_t g1 g2 (by omega)] at h2;simp at h2
 ·rw [TT_z,TT_t g1 g2 (by omega)] at h2;simp at h2
 ·rw [TT_h,hy,TT_t g1 g2 (by omega)] at h2
  simp at h2
  have:=hg.s i (r-1) hi (by omega)
  omega
 ·rw [TT_h,hy,TT_t g1 g2 (by omega)] at h2
  simp at h2
  have:=hl (q-1) (by omega)
  omega
theorem stay (hg:OkG n a b) {K:Nat→Option Int} {x:Nat} (h:(psX (mkF (gG n a b)) K x).1=TT n a (n+1) n):psX (mkF (gG n a b)) K (x+1)=psX (mkF (gG n a b)) K x:=by
 cases hf:mkF (gG n a b) x with
 | none=>exact ps_none hf
 | some m =>
  rw [ps_some hf]
  have:psX (mkF (gG n a b)) K x=(TT n a (n+1) n,(psX (mkF (gG n a b)) K x).2):=Prod.ext h rfl
  rw [this,rlx_no (quiet hg hf)]
theorem row0 (hg:OkG n a b):∀ r,r≤13→(psX (mkF (gG n a b)) (upd (fun _=>none) 0 (some 0)) r).1=TT n a (max 1 r) 0
 | 0,_=>by rw [show max 1 0=1 from rfl,TT_0];rfl
 | r+1,h=>by
  have ih:=row0 hg r (by omega)
  have hn:=hg.nn
  have hf:mkF (gG n a b) r=gG n a b 0 r:=by have:=F_at (n:=n) (a:=a) (b:=b) (q:=0) (r:=r) (by omega);simpa using this
  cases hm:gG n a b 0 r with
  | none =>
   rw [ps_none (by rw [hf,hm]),ih]
   rcases Nat.eq_zero_or_pos r with e | e
   ·subst e;rfl
   ·have:¬ r≤n:=fun g=>by unfold gG at hm;rw [if_pos rfl,if_pos ⟨by omega,g⟩] at hm;cases hm
    exact TT_all (by omega) (by omega)
  | some m =>
   rcases gG_cases hm with ⟨_,g1,g2,rfl⟩ | ⟨g1,_⟩ | ⟨g1,_⟩ | ⟨g1,_⟩
   ·rw [ps_some (by rw [hf,hm]),rlx_fst ih,show max 1 r=r by omega,show max 1 (r+1)=r+1 by omega]
    have hlow:low (TT n a r 0) (r,0):=by
     have:=low_at (K:=TT n a r 0) (q:=0) (r:=r) (m:=0) (by omega)
     rw [show 13*0+r=r by omega] at this
     rw [this,TT_z]
     refine ⟨rfl,.inl ?_⟩
     unfold TT
     rw [if_neg (by omega),if_pos g2,if_neg (by omega)];rfl
    rw [rlx_yes hlow]
    dsimp only
    rw [show r%13=r by omega,show r/13=0 by omega,TT_z]
    exact TT_tank g1 g2
   ·omega
   ·omega
   ·omega
theorem rowq (hg:OkG n a b) {q:Nat} (h1:1≤q) (h2:q≤n) {K:Nat→Option Int} (h0:(psX (mkF (gG n a b)) K (13*q)).1=TT n a (n+1) (q-1)):∀ r,r≤13→(psX (mkF (gG n a b)) K (13*q+r)).1=TT n a (n+1) (if r≤n+1 then q-1 else q)
 | 0,_=>by rw [if_pos (by omega)];exact h0
 | r+1,h=>by
  have ih:=rowq hg h1 h2 h0 r (by omega)
  have hn:=hg.nn
  have hf:mkF (gG n a b) (13*q+r)=gG n a b q r:=F_at (by omega)
  rw [show 13*q+(r+1)=(13*q+r)+1 by omega]
  cases hm:gG n a b q r with
  | none =>
   rw [ps_none (by rw [hf,hm]),ih]
   have:r≠n+1:=fun g=>by subst g;unfold gG at hm;rw [if_neg (by omega),if_neg (by omega),if_neg (by omega),if_pos rfl,if_pos h2] at hm;cases hm
   by_cases g:r≤n+1
   ·rw [if_pos g,if_pos (by omega)]
   ·rw [if_neg g,if_neg (by omega)]
  | some m =>
   rw [ps_some (by rw [hf,hm]),rlx_fst ih]
   rcases gG_cases hm with ⟨g1,_⟩ | ⟨g1,g2,rfl,rfl⟩ | ⟨g1,_⟩ | ⟨g1,g2,rfl,rfl⟩
   ·omega
   ·rw [if_pos (by omega),if_pos (by omega)]
    have hl:¬ low (TT n a (n+1) (q-1)) (13*q+0,0):=by
     rw [low_at (by omega),TT_z,TT_t h1 h2 (by omega)]
     simp
    rw [rlx_no hl]
   ·omega
   ·rw [if_pos (by omega),if_neg (by omega)]
    obtain ⟨c,rfl⟩:∃ c,q=c+1:=⟨q-1,by omega⟩
    rw [show c+1-1=c by omega]
    have hl:=low_at (K:=TT n a (n+1) c) (q:=c+1) (r:=n+1) (m:=a c) (by omega)
    rw [TT_t (show 1≤c+1 by omega) h2 (by omega),TT_h] at hl
    by_cases g:low (TT n a (n+1) c) (13*(c+1)+(n+1),a c)
    ·rw [rlx_yes g]
     dsimp only
     rw [show (13*(c+1)+(n+1))%13=n+1 by omega,show (13*(c+1)+(n+1))/13=c+1 by omega,TT_t (show 1≤c+1 by omega) h2 (by omega)]
     refine TT_hull _ ?_
     obtain ⟨_,g2⟩:=hl.1 g
     unfold hv
     cases hc:hv a c with
     | none=>simp
     | some y =>
      rw [hc] at g2
      simp at g2 ⊢
      omega
    ·rw [rlx_no g]
     refine TT_same ?_
     cases hc:hv a c with
     | none=>exact absurd (hl.2 ⟨rfl,.inl (by rw [hc];rfl)⟩) g
     | some y =>
      have g2:¬ (0+a c<y):=fun g3=>g (hl.2 ⟨rfl,.inr (by rw [hc];exact g3)⟩)
      unfold hv
      rw [hc]
      simp
      omega
theorem rows (hg:OkG n a b):∀ q,1≤q→q≤n+1→(psX (mkF (gG n a b)) (upd (fun _=>none) 0 (some 0)) (13*q)).1=TT n a (n+1) (q-1)
 | 0,h,_=>by omega
 | 1,_,_=>by
  have hn:=hg.nn
  rw [show 13*1=13 from rfl,row0 hg 13 (by omega)]
  exact TT_all (by omega) (by omega)
 | q+2,_,h=>by
  have ih:=rows hg (q+1) (by omega) (by omega)
  have hn:=hg.nn
  have:=rowq hg (q:=q+1) (by omega) (by omega) ih 13 (by omega)
  rw [show 13*(q+2)=13*(q+1)+13 by omega,this,if_neg (by omega)]
  rfl
theorem rest1 (hg:OkG n a b):∀ k,(psX (mkF (gG n a b)) (upd (fun _=>none) 0 (some 0)) (13*(n+1)+k)).1=TT n a (n+1) n
 | 0=>rows hg (n+1) (by omega) (by omega)
 | k+1=>by rw [show 13*(n+1)+(k+1)=(13*(n+1)+k)+1 by omega,stay hg (rest1 hg k)];exact rest1 hg k
theorem rest2 (hg:OkG n a b):∀ x,psX (mkF (gG n a b)) (TT n a (n+1) n) x=(TT n a (n+1) n,-1)
 | 0=>rfl
 | x+1=>by rw [stay hg (by rw [rest2 hg x]),rest2 hg x]
theorem rnd_1 (hg:OkG n a b):(rnd (mkF (gG n a b)) (upd (fun _=>none) 0 (some 0)) 1).1=TT n a (n+1) n:=by
 have hn:=hg.nn
 have:=rest1 hg (169-13*(n+1))
 rw [show 13*(n+1)+(169-13*(n+1))=169 by omega] at this
 exact this
theorem rnd_2 (hg:OkG n a b):∀ r,rnd (mkF (gG n a b)) (upd (fun _=>none) 0 (some 0)) (r+2)=(TT n a (n+1) n,-1)
 | 0=>by
  show pas _ (rnd _ _ 1).1=_
  rw [rnd_1 hg,pas_ps,rest2 hg]
 | r+1=>by
  show pas _ (rnd _ _ (r+2)).1=_
  rw [rnd_2 hg r,pas_ps,rest2 hg]
theorem all_TT (hg:OkG n a b) {x:Nat}:∃ t c,c≤n∧(psX (mkF (gG n a b)) (upd (fun _=>none) 0 (some 0)) x).1=TT n a t c:=by
 have hn:=hg.nn
 rcases Nat.lt_or_ge x 13 with g | g
 ·exact ⟨_,0,by omega,row0 hg x (by omega)⟩
 ·rcases Nat.lt_or_ge x (13*(n+1)) with g2 | g2
  ·have h:=rowq hg (q:=x/13) (by omega) (by omega) (rows hg (x/13) (by omega) (by omega)) (x%13) (by omega)
   rw [show 13*(x/13)+x%13=x by omega] at h
   exact ⟨_,_,by split <;> omega,h⟩
  ·have h:=rest1 hg (x-13*(n+1))
   rw [show 13*(n+1)+(x-13*(n+1))=x by omega] at h
   exact ⟨_,_,Nat.le_refl _,h⟩
end
end Go.Proofs.YtoapkhkdnbcilaaGreat
namespace Go.Proofs.YtoapkhkdnbcilaaGreat
open Go Go.TH
attribute [local irreducible] W WO pt
set_option maxRecDepth 10000
set_option maxHeartbeats 4000000
abbrev hgC (nb:Nat) (K:Nat→Option Int) (mb:Nat) (l:Int):List Value:=[.pointer (some ⟨nb,0,none⟩)]++(prC K 13++[.map (some mb),.int .i64 l])
abbrev hgP (hb nb:Nat) (K:Nat→Option Int) (mb:Nat) (l:Int):HP:=pt hb (.cells (hgC nb K mb l).toArray 136 (0,0))
theorem hg_len (nb:Nat) (K:Nat→Option Int) (mb:Nat) (l:Int):(hgC nb K mb l).length=29:=by simp [hgC,prC_len]
theorem hg_last {nb:Nat} {K:Nat→Option Int} {mb:Nat} {l x:Int}:(hgC nb K mb l).set 28 (.int .i64 x)=hgC nb K mb x:=by
 have e:∀ l,hgC nb K mb l=([.pointer (some ⟨nb,0,none⟩)]++prC K 13)++[.map (some mb),.int .i64 l]:=fun l=>by simp [hgC]
 rw [e,e,List.set_append_right _ _ (by simp [prC_len])]
 simp [prC_len]
theorem hg_at {nb:Nat} {K:Nat→Option Int} {mb:Nat} {l:Int} {i:Nat} (hi:i<13):((hgC nb K mb l).drop (1+i*2)).take 2=[.bool (K i).isSome,.int .i64 ((K i).getD 0)]:=mid_at hi (by simp;omega)
theorem hg_set {nb:Nat} {K:Nat→Option Int} {mb:Nat} {l v:Int} {i:Nat} (hi:i<13):wrl (hgC nb K mb l) (1+i*2) [.bool true,.int .i64 v]=hgC nb (upd K i (some v)) mb l:=mid_set hi (by simp;omega)
theorem cellsE {C:Cx Tryz.prog} {H:List HP} {b off n:Nat} {cs vs:List Value} {t:TypeId} {fr:Nat × Nat} (p:∃ H',Pick (pt b (.cells cs.toArray t fr)) H H') (h:(cs.drop off).take n=vs):Cells C H ⟨b,off,none⟩ vs:=by
 obtain ⟨H',p⟩:=p
 exact Cells.ownAt p h
def K00:Nat→Option Int:=upd (fun _=>none) 0 (some 0)
theorem hg_0 (nb mb:Nat):wrl [.pointer (some ⟨nb,0,none⟩),.bool false,.int .i64 0,.bool false,.int .i64 0,.bool false,.int .i64 0,.bool false,.int .i64 0,.bool false,.int .i64 0,.bool false,.int .i64 0,.bool false,.int .i64 0,.bool false,.int .i64 0,.bool false,.int .i64 0,.bool false,.int .i64 0,.bool false,.int .i64 0,.bool false,.int .i64 0,.bool false,.int .i64 0,.map (some mb),.int .i64 (-1)] 1 [.bool true,.int .i64 0]=hgC nb K00 mb (-1):=by kernel_rfl
theorem st_mem {F:Nat→Option Int} {s:Nat × Int}:∀ n,s∈stTo F n→s.1<n∧F s.1=some s.2
 | 0,h=>by simp [stTo] at h
 | n+1,h=>by
  rcases List.mem_append.1 (show s∈stTo F n++_ from h) with g | g
  ·have:=st_mem n g;exact ⟨by omega,this.2⟩
  ·cases hf:F n with
   | none=>rw [hf] at g;simp at g
   | some m =>
    rw [hf] at g
    obtain rfl:=List.mem_singleton.1 g
    exact ⟨Nat.lt_succ_self n,hf⟩
structure BdK (F:Nat→Option Int) (many:Nat):Prop where
 f:∀ x,-1000000000≤(F x).getD 0∧(F x).getD 0≤1000000000
 k:∀ r x y,r<many → -1000000000≤((psX F (rnd F K00 r).1 x).1 y).getD 0∧((psX F (rnd F K00 r).1 x).1 y).getD 0≤1000000000
theorem c_at9 (w:World) (hb nb mb:Nat) (K:Nat→Option Int) (l:Int) (i:Nat) (hi:i<13) (hH:RdO w.heap.size w hb (hgC nb K mb l) 136):Ret Tryz.prog 79 [.pointer (some ⟨hb,0,none⟩),.int .i64 (i:Int)].toArray w (.int .i64 ((K i).getD 0)):=by
 refine Ret.of mixed tyTab Tryz.func79 rfl rfl ?_
 replace hH:RdO (fnCx mixed tyTab Tryz.f79.ntmps w).B (fnCx mixed tyTab Tryz.f79.ntmps w).w0 hb (hgC nb K mb l) 136:=hH
 have hv:lget (hgC nb K mb l) (1+i*2+1)=some (.int .i64 ((K i).getD 0)):=by
  have:=hg_at (nb:=nb) (K:=K) (mb:=mb) (l:=l) hi
  have e:=congrArg (fun x=>x[1]?) this
  simp only [List.getElem?_take,List.getElem?_drop] at e
  rw [lget_eq]
  simpa using e
 have hq:∀ H,Cell (fnCx mixed tyTab Tryz.f79.ntmps w) H (prt ⟨hb,1+i*2,none⟩ 1) (.int .i64 ((K i).getD 0)):=fun H=>by rw [prt_eq,show (Addr.add ⟨hb,1+i*2,none⟩ 1)=⟨hb,1+i*2+1,none⟩ by unfold Addr.add;split <;> simp_all];exact hH.cell hv
 refine W.sreg (WO.p rfl rfl (WO.nil (W.sreg (WO.p rfl rfl (WO.p rfl rfl (WO.p rfl rfl (WO.fieldL rfl rfl rfl (WO.indexArrE (i:=i) (o':=1+i*2) rfl rfl rfl rfl hi rfl rfl (WO.field rfl rfl rfl ?_)))))))))
 refine' WO.load (v:=_) rfl rfl ?hc rfl ?_
 case hc=>exact hq _
 refine WO.p rfl rfl (WO.nil (W.ret ?_))
 exact fin.ret (Res.one rfl (RV.tmp rfl)) rfl
theorem rlx_eq (a:(Nat→Option Int) × Int) (s:Nat × Int):rlx a s=if low a.1 s then (upd a.1 (s.1%13) (some ((a.1 (s.1/13)).getD 0+s.2)),((s.1%13:Nat):Int)) else a:=by unfold rlx;rfl
theorem low_iff {K:Nat→Option Int} {s:Nat × Int} {ba bb:Bool} {xa xb:Int} (ha:(K (s.1/13)).isSome=ba) (hb:(K (s.1%13)).isSome=bb) (hxa:(K (s.1/13)).getD 0=xa) (hxb:(K (s.1%13)).getD 0=xb):low K s↔ba=true∧(bb=false∨xa+s.2<xb):=by
 unfold low;rw [ha,hb,hxa,hxb]
theorem hg_r0 (F:Nat→Option Int) (nb mb:Nat):hgC nb K00 mb (-1)=hgC nb (rnd F K00 0).1 mb (rnd F K00 0).2:=rfl
theorem hg_p0 (F:Nat→Option Int) (nb mb:Nat) (K:Nat→Option Int):hgC nb K mb (-1)=hgC nb (pasTo F K 0).1 mb (pasTo F K 0).2:=rfl
theorem rnd_s (F K0:Nat→Option Int) (r:Nat):pas F (rnd F K0 r).1=rnd F K0 (r+1):=rfl
attribute [local irreducible] pasTo rnd rlx stTo low pas
theorem c_from (w:World) (nb many:Nat) (hd:List Value) (F:Nat→Option Int) (hN:RdO w.heap.size w nb (netC hd F) 131) (hh:hd.length=6) (h5:hd[5]?=some (.int .i64 (many:Int))) (hm:many≤13) (hB:BdK F many) :
 Ct Tryz.prog 78 [.pointer (some ⟨nb,0,none⟩),.int .i64 0].toArray w fun r w'=>∃ Hq,(∃ x:Nat × Nat,r=.tuple #[.pointer (some ⟨x.1,0,none⟩),.bool (bl ((rnd F K00 many).2<0))]∧Hq=[hgP x.1 nb (rnd F K00 many).1 x.2 (rnd F K00 many).2,MpI x.2])∧Inv w [] Hq w':=by
 refine Ct.ofI (X:=Nat × Nat) (p:=fun x r=>r=.tuple #[.pointer (some ⟨x.1,0,none⟩),.bool (bl ((rnd F K00 many).2<0))]) (Hx:=fun x=>[hgP x.1 nb (rnd F K00 many).1 x.2 (rnd F K00 many).2,MpI x.2]) mixed tyTab Tryz.func78 rfl rfl ?_
 replace hN:RdO (fnCx mixed tyTab Tryz.f78.ntmps w).B (fnCx mixed tyTab Tryz.f78.ntmps w).w0 nb (netC hd F) 131:=hN
 have hq5:∀ H,Cell (fnCx mixed tyTab Tryz.f78.ntmps w) H (prt ⟨nb,0,none⟩ 5) (.int .i64 (many:Int)):=fun H=>by rw [prt_eq,show (Addr.add ⟨nb,0,none⟩ 5)=⟨nb,5,none⟩ by unfold Addr.add;split <;> simp_all];exact hN.cell (by rw [lget_eq,List.getElem?_append_left (by omega)];exact h5)
 refine W.sreg (WO.p rfl rfl (WO.p rfl rfl (WO.nil (W.sreg (WO.p rfl rfl (WO.makeMap rfl (fun mb=>(WO.chg (MpI.start Pick.head) ?_))))))))
 refine' WO.build (cs:=_) rfl rfl rfl ?hf rfl ?_
 case hf=>(conv=>lhs;simp [-List.getD_eq_getElem?_getD,fillL,vcl,wrl,TTab.pl?.lget']) <;> rfl
 refine WO.boxA rfl rfl (fun b1 hb1=>(WO.alloc rfl rfl rfl (fun b2 hb2=>(WO.store1 rfl rfl rfl (by rfl) Pick.head rfl (WO.nil (W.sreg (WO.load rfl rfl (Cell.own Pick.head rfl) rfl (WO.p rfl rfl ?_))))))))
 refine' WO.build (cs:=_) rfl rfl rfl ?hf rfl ?_
 case hf=>(conv=>lhs;simp [-List.getD_eq_getElem?_getD,fillL,vcl,wrl,TTab.pl?.lget']) <;> rfl
 refine WO.p rfl rfl (WO.fieldL rfl rfl rfl (WO.indexArrE (i:=0) (o':=1) rfl rfl rfl rfl (by omega) rfl rfl (WO.storeP (n:=2) (vs:=[.bool true,.int .i64 0]) rfl rfl rfl rfl (by repeat first | exact .head | apply Pick.tail) (Nat.le_of_ble_eq_true rfl) rfl ?_)))
 rw [hg_0,hg_r0 F]
 refine WO.nil (W.seq (W.sreg (WO.p rfl rfl (WO.p rfl rfl (WO.field rfl rfl rfl ?_)))))
 refine' WO.load (v:=_) rfl rfl ?hc rfl ?_
 case hc=>exact hq5 _
 refine WO.p rfl rfl (WO.nil (W.block ?_))
 refine W.loop (fun (r:Nat)=>r≤many)
  (fun (r:Nat)=>[(0,.pointer (some ⟨nb,0,none⟩)),(6,.pointer (some ⟨b2,0,none⟩)),(23,.int .i64 (many:Int)),(24,.int .i64 (r:Int))])
  (fun (r:Nat)=>[hgP b1 nb (rnd F K00 r).1 mb (rnd F K00 r).2,pt b2 (.cells #[.pointer (some ⟨b1,0,none⟩)] 81 (0,0)),MpI mb])
  (fun (r:Nat)=>many-r) 0
  (by omega) ⟨rfl,rfl,rfl,rfl,trivial⟩ (by repeat (first | exact Sub.nil | refine Sub.cons (by repeat exact .head) ?_)) ?_
 rintro r hr0
 refine W.sreg (WO.p rfl rfl (WO.nil (W.seq ?_)))
 refine W.cond_bl rfl (fun c1=>?_) (fun c1=>?_)
 ·refine W.skip (W.seq (W.block (W.sreg (WO.load rfl rfl (Cell.own (Pick.tail (Pick.head)) rfl) rfl (WO.p rfl rfl (WO.fieldL rfl rfl rfl (WO.store1 rfl rfl rfl (by rfl) Pick.head rfl (WO.nil ?_))))))))
  rw [hg_last,hg_p0 F]
  refine W.sreg (WO.p rfl rfl (WO.call (Post:=fun v Hq=>∃ b,v=.func (.func 205) #[] #[.pointer (some ⟨b,0,none⟩)]∧Hq=[pt b (.cells #[.pointer (some ⟨nb,0,none⟩)] 83 (0,0))]) rfl Tryz.call128 (fun L w hi=>c_steps w nb) rfl ?_))
  rintro _ _ ⟨e1,rfl,rfl⟩
  refine WO.nil (W.block ?_)
  refine W.rangeFunc [pt e1 (.cells #[.pointer (some ⟨nb,0,none⟩)] 83 (0,0))] (fun q=>[hgP b1 nb (pasTo F (rnd F K00 r).1 q).1 mb (pasTo F (rnd F K00 r).1 q).2,pt b2 (.cells #[.pointer (some ⟨b1,0,none⟩)] 81 (0,0)),MpI mb]) ((stTo F 169).map stV) rfl rfl rfl Tryz.call205 (by repeat (first | exact Sub.nil | refine Sub.cons (by repeat exact .head) ?_)) ?_ ?_ ?_
  ·intro ll Hc hy w1 M1 hB1 hk1 hM1 hi1
   exact c_steps1 _ _ e1 nb hd F hN hh ll Hc hy w1 M1 hB1 hk1 hM1 hi1
  ·intro ll w1 M1 hB1 hM1 hk1 q x hx
   obtain ⟨s,hs,rfl⟩:∃ s,(stTo F 169)[q]?=some s∧stV s=x:=by rw [List.getElem?_map] at hx;cases e:(stTo F 169)[q]? with | none=>rw [e] at hx;simp at hx | some s=>rw [e] at hx;simp at hx;exact ⟨s,rfl,hx⟩
   have hsm:=st_mem 169 (List.mem_of_getElem? hs)
   rw [pas_succ hs]
   have hpe:=pasTo_at (K:=(rnd F K00 r).1) hs
   obtain ⟨K',hK'⟩:∃ K',(pasTo F (rnd F K00 r).1 q).1=K':=⟨_,rfl⟩
   obtain ⟨l',hl'⟩:∃ l',(pasTo F (rnd F K00 r).1 q).2=l':=⟨_,rfl⟩
   rw [rlx_eq]
   rw [hK',hl']
   have hbk:∀ y,-1000000000≤(K' y).getD 0∧(K' y).getD 0≤1000000000:=fun y=>by rw [← hK',hpe];exact hB.k r s.1 y (by omega)
   obtain ⟨ba,hba⟩:∃ b,(K' (s.1/13)).isSome=b:=⟨_,rfl⟩
   obtain ⟨bb,hbb⟩:∃ b,(K' (s.1%13)).isSome=b:=⟨_,rfl⟩
   obtain ⟨xa,hxa⟩:∃ b,(K' (s.1/13)).getD 0=b:=⟨_,rfl⟩
   obtain ⟨xb,hxb⟩:∃ b,(K' (s.1%13)).getD 0=b:=⟨_,rfl⟩
   have hlow:=low_iff hba hbb hxa hxb
   have hxa2:=hbk (s.1/13)
   rw [hxa] at hxa2
   have hf2:=hB.f s.1
   rw [hsm.2] at hf2
   simp only [Option.getD_some] at hf2
   refine W.region (WO.alloc rfl rfl rfl (fun b3 hb3=>(WO.storeA rfl rfl rfl rfl Pick.head rfl rfl (WO.nil (W.block (W.seq ?_))))))
   refine W.drawD 17 [.b 0 [],.r 1 [],.b 2 [],.r 3 [],.r 4 [],.r 5 [],.b 6 [],.b 7 [],.r 8 [],.b 9 [],.r 10 [],.r 11 [],.r 12 [],.b 13 [],.a 14 8 (.cells #[.bool false,.int .i64 0] 126 (0,0)),.a 15 9 (.cells #[.bool false,.int .i64 0] 126 (0,0)),.s 16 []] [] (A0:=[]) (Sub.refl _) (by kernel_rfl) ?_ ?_
   ·exact (ALok.b (ALok.r (ALok.b (ALok.r (ALok.r (ALok.r (ALok.b (ALok.b (ALok.r (ALok.b (ALok.r (ALok.r (ALok.r (ALok.b (ALok.cons rfl rfl rfl rfl rfl (ALok.cons rfl rfl rfl rfl rfl (ALok.s ALok.nil)))))))))))))))))
   refine DT.b rfl rfl rfl (WO.load rfl rfl (Cell.own (Pick.tail (Pick.tail (Pick.head))) rfl) rfl (WO.nil ⟨rfl,rfl⟩)) (DT.r rfl rfl rfl (WO.field0 rfl rfl rfl (WO.nil ⟨rfl,rfl⟩)) (DT.b rfl rfl rfl (WO.load rfl rfl (Cell.own Pick.head rfl) rfl (WO.nil ⟨rfl,rfl⟩)) (DT.r rfl rfl rfl (WO.p rfl rfl (WO.nil ⟨rfl,rfl⟩)) (DT.r rfl rfl rfl (WO.fieldL rfl rfl rfl (WO.nil ⟨rfl,rfl⟩)) (DT.r rfl rfl rfl (WO.indexArrE (i:=s.1/13) (o':=1+s.1/13*2) rfl rfl rfl rfl (by omega) rfl rfl (WO.nil ⟨rfl,rfl⟩)) ?_)))))
   refine' DT.b rfl rfl rfl ?hq ?_
   case hq =>
    refine' WO.loadA (vs:=_) rfl rfl ?hc ?hl rfl ?_
    case hc=>(first | (refine cellsE (b:=b1) (off:=1+s.1/13*2) (n:=2) (cs:=hgC nb K' mb l') (vs:=[.bool ba,.int .i64 xa]) (t:=136) (fr:=(0,0)) ?_ ?_;exact ⟨_,by repeat (first | exact Pick.head | apply Pick.tail)⟩;rw [hg_at (by omega),hba,hxa]))
    case hl=>rfl
    exact WO.nil ⟨rfl,rfl⟩
   refine DT.b rfl rfl rfl (WO.load rfl rfl (Cell.own (Pick.tail (Pick.tail (Pick.head))) rfl) rfl (WO.nil ⟨rfl,rfl⟩)) (DT.r rfl rfl rfl (WO.fieldL rfl rfl rfl (WO.nil ⟨rfl,rfl⟩)) (DT.b rfl rfl rfl (WO.load rfl rfl (Cell.own Pick.head rfl) rfl (WO.nil ⟨rfl,rfl⟩)) (DT.r rfl rfl rfl (WO.p rfl rfl (WO.nil ⟨rfl,rfl⟩)) (DT.r rfl rfl rfl (WO.fieldL rfl rfl rfl (WO.nil ⟨rfl,rfl⟩)) (DT.r rfl rfl rfl (WO.indexArrE (i:=s.1%13) (o':=1+s.1%13*2) rfl rfl rfl rfl (by omega) rfl rfl (WO.nil ⟨rfl,rfl⟩)) ?_)))))
   refine' DT.b rfl rfl rfl ?hq ?_
   case hq =>
    refine' WO.loadA (vs:=_) rfl rfl ?hc ?hl rfl ?_
    case hc=>(first | (refine cellsE (b:=b1) (off:=1+s.1%13*2) (n:=2) (cs:=hgC nb K' mb l') (vs:=[.bool bb,.int .i64 xb]) (t:=136) (fr:=(0,0)) ?_ ?_;exact ⟨_,by repeat (first | exact Pick.head | apply Pick.tail)⟩;rw [hg_at (by omega),hbb,hxb]))
    case hl=>rfl
    exact WO.nil ⟨rfl,rfl⟩
   refine DT.a (fun b4=>(DT.a (fun b5=>(DT.s [_,_,_,_,_,_] rfl rfl rfl (WO.storeA rfl rfl rfl rfl (Pick.tail (Pick.head)) rfl rfl ?_)))))
   refine WO.nil ⟨[_,_],rfl,rfl,(Keep.a (Keep.a (Keep.b (Keep.r (Keep.r (Keep.r (Keep.b (Keep.r (Keep.b (Keep.b (Keep.r (Keep.r (Keep.r (Keep.b (Keep.r (Keep.b Keep.nil)))))))))))))))),?_⟩
   refine DT.nil [_,_,_,_,_,_] rfl (WO.storeA rfl rfl rfl rfl (Pick.tail (Pick.head)) rfl rfl (WO.nil (W.sreg (WO.field0 rfl rfl rfl (WO.load rfl rfl (Cell.own (Pick.tail (Pick.head)) rfl) rfl (WO.p rfl rfl ?_))))))
   refine WO.guard_b rfl rfl (fun c2=>?_) (fun c2=>?_)
   ·refine WO.go' rfl (WO.field0 rfl rfl rfl (WO.go' rfl (WO.load rfl rfl (Cell.own Pick.head rfl) rfl (WO.pg rfl rfl rfl (WO.pg rfl rfl rfl ?_)))))
    refine WO.guard_b rfl rfl (fun c3=>?_) (fun c3=>?_)
    ·refine WO.no rfl rfl (WO.no rfl rfl (WO.no rfl rfl (WO.no rfl rfl (WO.no rfl rfl (WO.no rfl rfl (WO.no rfl rfl (WO.no rfl rfl (WO.pg rfl rfl rfl (WO.p rfl rfl (WO.nil (W.cond_t rfl (W.seq ?_))))))))))))
     refine W.drawD 11 [.b 0 [],.r 1 [],.b 2 [],.r 3 [],.b 4 [],.r 5 [],.b 6 [],.r 7 [],.r 8 [],.r 9 [],.r 10 []] [] (A0:=[]) (Sub.refl _) (by kernel_rfl) ?_ ?_
     ·repeat constructor
     refine DT.b rfl rfl rfl (WO.load rfl rfl (Cell.own (Pick.tail (Pick.tail (Pick.tail (Pick.tail (Pick.head))))) rfl) rfl (WO.nil ⟨rfl,rfl⟩)) (DT.r rfl rfl rfl (WO.fieldL rfl rfl rfl (WO.nil ⟨rfl,rfl⟩)) (DT.b rfl rfl rfl (WO.load rfl rfl (Cell.own (Pick.tail (Pick.tail (Pick.head))) rfl) rfl (WO.nil ⟨rfl,rfl⟩)) (DT.r rfl rfl rfl (WO.fieldL rfl rfl rfl (WO.nil ⟨rfl,rfl⟩)) (DT.b rfl rfl rfl (WO.load rfl rfl (Cell.own (Pick.tail (Pick.head)) rfl) rfl (WO.nil ⟨rfl,rfl⟩)) (DT.r rfl rfl rfl (WO.fieldL rfl rfl rfl (WO.nil ⟨rfl,rfl⟩)) (DT.b rfl rfl rfl (WO.load rfl rfl (Cell.own (Pick.tail (Pick.tail (Pick.head))) rfl) rfl (WO.nil ⟨rfl,rfl⟩)) ?_))))))
     refine DT.r rfl rfl rfl (WO.ar rfl rfl rfl (by unfold in64;omega) rfl (WO.nil ⟨rfl,rfl⟩)) ?_
     refine' DT.r rfl rfl rfl ?hq ?_
     case hq =>
      refine' WO.build (cs:=_) rfl rfl rfl ?hf rfl ?_
      case hf=>(conv=>lhs;simp [-List.getD_eq_getElem?_getD,fillL,vcl,wrl,TTab.pl?.lget']) <;> rfl
      exact WO.nil ⟨rfl,rfl⟩
     refine DT.r rfl rfl rfl (WO.p rfl rfl (WO.nil ⟨rfl,rfl⟩)) (DT.r rfl rfl rfl (WO.fieldL rfl rfl rfl (WO.nil ⟨rfl,rfl⟩)) (DT.nil [_,_,_,_,_,_] rfl (WO.indexArrE (i:=s.1%13) (o':=1+s.1%13*2) rfl rfl rfl rfl (by omega) rfl rfl (WO.storeP (n:=2) (vs:=[.bool true,.int .i64 (xa+s.2)]) rfl rfl rfl rfl (by repeat first | exact .head | apply Pick.tail) (by rw [hg_len];omega) rfl ?_))))
     rw [hg_set (by omega)]
     refine WO.nil (W.seq ?_)
     refine W.drawD 8 [.b 0 [],.r 1 [],.r 2 [],.b 3 [],.r 4 [],.b 5 [],.r 6 [],.b 7 []] [] (A0:=[]) (Sub.refl _) (by kernel_rfl) ?_ ?_
     ·repeat constructor
     refine DT.b rfl rfl rfl (WO.load rfl rfl (Cell.own (Pick.tail (Pick.tail (Pick.tail (Pick.tail (Pick.head))))) rfl) rfl (WO.nil ⟨rfl,rfl⟩)) (DT.r rfl rfl rfl (WO.p rfl rfl (WO.nil ⟨rfl,rfl⟩)) (DT.r rfl rfl rfl (WO.fieldL rfl rfl rfl (WO.nil ⟨rfl,rfl⟩)) (DT.b rfl rfl rfl (WO.load rfl rfl (Cell.own Pick.head rfl) rfl (WO.nil ⟨rfl,rfl⟩)) (DT.r rfl rfl rfl (WO.fieldL rfl rfl rfl (WO.nil ⟨rfl,rfl⟩)) (DT.b rfl rfl rfl (WO.load rfl rfl (Cell.own (Pick.tail (Pick.tail (Pick.tail (Pick.head)))) rfl) rfl (WO.nil ⟨rfl,rfl⟩)) (DT.r rfl rfl rfl (WO.field0 rfl rfl rfl (WO.nil ⟨rfl,rfl⟩)) ?_))))))
     refine DT.b rfl rfl rfl (WO.load rfl rfl (Cell.own (Pick.tail (Pick.tail (Pick.tail (Pick.head)))) rfl) rfl (WO.nil ⟨rfl,rfl⟩)) (DT.nil [_,_,_,_,_,_] rfl (WO.mapAny rfl rfl rfl rfl rfl (by repeat first | exact .head | apply Pick.tail) (WO.nil (W.region (WO.load rfl rfl (Cell.own (Pick.tail (Pick.tail (Pick.tail (Pick.tail (Pick.tail (Pick.head)))))) rfl) rfl (WO.fieldL rfl rfl rfl (WO.load rfl rfl (Cell.own (Pick.tail (Pick.tail (Pick.tail (Pick.tail (Pick.head))))) rfl) rfl (WO.p rfl rfl (WO.fieldL rfl rfl rfl (WO.store1 rfl rfl rfl (by rfl) (Pick.tail (Pick.head)) rfl (WO.nil ?_)))))))))))
     (rw [if_pos (hlow.2 ⟨by assumption,.inl (by have q:(!bb)=true:=(by assumption);simpa using q)⟩),hg_last,hxa])
     (repeat (first | exact Sub.nil | refine Sub.cons (by repeat first | exact .head | apply Pick.tail) ?_))
    ·refine WO.go' rfl (WO.fieldL rfl rfl rfl (WO.go' rfl (WO.load rfl rfl (Cell.own (Pick.tail (Pick.head)) rfl) rfl (WO.go' rfl (WO.fieldL rfl rfl rfl (WO.go' rfl (WO.load rfl rfl (Cell.own (Pick.tail (Pick.tail (Pick.head))) rfl) rfl (WO.go' rfl (WO.ar rfl rfl rfl (by unfold in64;omega) rfl (WO.go' rfl (WO.fieldL rfl rfl rfl (WO.go' rfl (WO.load rfl rfl (Cell.own Pick.head rfl) rfl (WO.pg rfl rfl rfl (WO.pg rfl rfl rfl (WO.p rfl rfl (WO.nil ?_)))))))))))))))))
     refine W.cond_bl rfl (fun c4=>?_) (fun c4=>?_)
     ·refine W.seq ?_
      refine W.drawD 11 [.b 0 [],.r 1 [],.b 2 [],.r 3 [],.b 4 [],.r 5 [],.b 6 [],.r 7 [],.r 8 [],.r 9 [],.r 10 []] [] (A0:=[]) (Sub.refl _) (by kernel_rfl) ?_ ?_
      ·repeat constructor
      refine DT.b rfl rfl rfl (WO.load rfl rfl (Cell.own (Pick.tail (Pick.tail (Pick.tail (Pick.tail (Pick.head))))) rfl) rfl (WO.nil ⟨rfl,rfl⟩)) (DT.r rfl rfl rfl (WO.fieldL rfl rfl rfl (WO.nil ⟨rfl,rfl⟩)) (DT.b rfl rfl rfl (WO.load rfl rfl (Cell.own (Pick.tail (Pick.tail (Pick.head))) rfl) rfl (WO.nil ⟨rfl,rfl⟩)) (DT.r rfl rfl rfl (WO.fieldL rfl rfl rfl (WO.nil ⟨rfl,rfl⟩)) (DT.b rfl rfl rfl (WO.load rfl rfl (Cell.own (Pick.tail (Pick.head)) rfl) rfl (WO.nil ⟨rfl,rfl⟩)) (DT.r rfl rfl rfl (WO.fieldL rfl rfl rfl (WO.nil ⟨rfl,rfl⟩)) (DT.b rfl rfl rfl (WO.load rfl rfl (Cell.own (Pick.tail (Pick.tail (Pick.head))) rfl) rfl (WO.nil ⟨rfl,rfl⟩)) ?_))))))
      refine DT.r rfl rfl rfl (WO.ar rfl rfl rfl (by unfold in64;omega) rfl (WO.nil ⟨rfl,rfl⟩)) ?_
      refine' DT.r rfl rfl rfl ?hq ?_
      case hq =>
       refine' WO.build (cs:=_) rfl rfl rfl ?hf rfl ?_
       case hf=>(conv=>lhs;simp [-List.getD_eq_getElem?_getD,fillL,vcl,wrl,TTab.pl?.lget']) <;> rfl
       exact WO.nil ⟨rfl,rfl⟩
      refine DT.r rfl rfl rfl (WO.p rfl rfl (WO.nil ⟨rfl,rfl⟩)) (DT.r rfl rfl rfl (WO.fieldL rfl rfl rfl (WO.nil ⟨rfl,rfl⟩)) (DT.nil [_,_,_,_,_,_] rfl (WO.indexArrE (i:=s.1%13) (o':=1+s.1%13*2) rfl rfl rfl rfl (by omega) rfl rfl (WO.storeP (n:=2) (vs:=[.bool true,.int .i64 (xa+s.2)]) rfl rfl rfl rfl (by repeat first | exact .head | apply Pick.tail) (by rw [hg_len];omega) rfl ?_))))
      rw [hg_set (by omega)]
      refine WO.nil (W.seq ?_)
      refine W.drawD 8 [.b 0 [],.r 1 [],.r 2 [],.b 3 [],.r 4 [],.b 5 [],.r 6 [],.b 7 []] [] (A0:=[]) (Sub.refl _) (by kernel_rfl) ?_ ?_
      ·repeat constructor
      refine DT.b rfl rfl rfl (WO.load rfl rfl (Cell.own (Pick.tail (Pick.tail (Pick.tail (Pick.tail (Pick.head))))) rfl) rfl (WO.nil ⟨rfl,rfl⟩)) (DT.r rfl rfl rfl (WO.p rfl rfl (WO.nil ⟨rfl,rfl⟩)) (DT.r rfl rfl rfl (WO.fieldL rfl rfl rfl (WO.nil ⟨rfl,rfl⟩)) (DT.b rfl rfl rfl (WO.load rfl rfl (Cell.own Pick.head rfl) rfl (WO.nil ⟨rfl,rfl⟩)) (DT.r rfl rfl rfl (WO.fieldL rfl rfl rfl (WO.nil ⟨rfl,rfl⟩)) (DT.b rfl rfl rfl (WO.load rfl rfl (Cell.own (Pick.tail (Pick.tail (Pick.tail (Pick.head)))) rfl) rfl (WO.nil ⟨rfl,rfl⟩)) (DT.r rfl rfl rfl (WO.field0 rfl rfl rfl (WO.nil ⟨rfl,rfl⟩)) ?_))))))
      refine DT.b rfl rfl rfl (WO.load rfl rfl (Cell.own (Pick.tail (Pick.tail (Pick.tail (Pick.head)))) rfl) rfl (WO.nil ⟨rfl,rfl⟩)) (DT.nil [_,_,_,_,_,_] rfl (WO.mapAny rfl rfl rfl rfl rfl (by repeat first | exact .head | apply Pick.tail) (WO.nil (W.region (WO.load rfl rfl (Cell.own (Pick.tail (Pick.tail (Pick.tail (Pick.tail (Pick.tail (Pick.head)))))) rfl) rfl (WO.fieldL rfl rfl rfl (WO.load rfl rfl (Cell.own (Pick.tail (Pick.tail (Pick.tail (Pick.tail (Pick.head))))) rfl) rfl (WO.p rfl rfl (WO.fieldL rfl rfl rfl (WO.store1 rfl rfl rfl (by rfl) (Pick.tail (Pick.head)) rfl (WO.nil ?_)))))))))))
      (rw [if_pos (hlow.2 ⟨by assumption,.inr (by assumption)⟩),hg_last,hxa])
      (repeat (first | exact Sub.nil | refine Sub.cons (by repeat first | exact .head | apply Pick.tail) ?_))
     ·refine W.skip ?_
      rw [if_neg (fun h=>by obtain ⟨_,h3⟩:=hlow.1 h;have q:(!bb)=false:=(by assumption);have q2:bb=true:=(by simpa using q);rcases h3 with h3 | h3;rw [q2] at h3;exact absurd h3 (by decide);omega),hK',hl']
      (repeat (first | exact Sub.nil | refine Sub.cons (by repeat first | exact .head | apply Pick.tail) ?_))
   ·refine WO.no rfl rfl (WO.no rfl rfl (WO.no rfl rfl (WO.no rfl rfl (WO.no rfl rfl (WO.no rfl rfl (WO.no rfl rfl (WO.no rfl rfl (WO.no rfl rfl (WO.no rfl rfl (WO.no rfl rfl (WO.no rfl rfl (WO.no rfl rfl (WO.p rfl rfl (WO.nil (W.cond_f rfl (W.skip ?_))))))))))))))))
    rw [if_neg (fun h=>by obtain ⟨h2,_⟩:=hlow.1 h;have q:ba=false:=(by assumption);rw [q] at h2;exact absurd h2 (by decide)),hK',hl']
    (repeat (first | exact Sub.nil | refine Sub.cons (by repeat first | exact .head | apply Pick.tail) ?_))
  rw [List.length_map,pas_all,rnd_s]
  refine W.region (WO.ar rfl rfl rfl (by unfold in64;omega) rfl (WO.p rfl rfl (WO.nil ?_)))
  refine' ⟨r+1,?hp,?hmu,⟨rfl,rfl,rfl,rfl,trivial⟩,?hS⟩
  case hS=>repeat (first | exact Sub.nil | refine Sub.cons (by repeat first | exact .head | apply Pick.tail) ?_)
  case hp=>omega
  case hmu=>omega
 ·refine W.exit (blk_same (W.seq ?_))
  obtain rfl:r=many:=by omega
  refine W.drawD 7 [.b 0 [],.b 1 [],.r 2 [],.r 3 [],.b 4 [],.r 5 [],.r 6 []] [] (A0:=[]) (Sub.refl _) (by kernel_rfl) ?_ ?_
  ·repeat constructor
  refine DT.b rfl rfl rfl (WO.load rfl rfl (Cell.own (Pick.tail (Pick.head)) rfl) rfl (WO.nil ⟨rfl,rfl⟩)) (DT.b rfl rfl rfl (WO.load rfl rfl (Cell.own (Pick.tail (Pick.head)) rfl) rfl (WO.nil ⟨rfl,rfl⟩)) (DT.r rfl rfl rfl (WO.p rfl rfl (WO.nil ⟨rfl,rfl⟩)) (DT.r rfl rfl rfl (WO.fieldL rfl rfl rfl (WO.nil ⟨rfl,rfl⟩)) (DT.b rfl rfl rfl (WO.load rfl rfl (Cell.own Pick.head rfl) rfl (WO.nil ⟨rfl,rfl⟩)) (DT.r rfl rfl rfl (WO.p rfl rfl (WO.nil ⟨rfl,rfl⟩)) (DT.r rfl rfl rfl (WO.p rfl rfl (WO.nil ⟨rfl,rfl⟩)) (DT.nil [_,_,_] rfl (WO.p rfl rfl (WO.nil (W.ret ?_))))))))))
  exact fin.ret (Res.two rfl (RV.tmp rfl) (RV.tmp rfl)) ⟨(b1,mb),rfl,fun h hs=>Sub.sat (by repeat (first | exact Sub.nil | refine Sub.cons (by repeat first | exact .head | apply Pick.tail) ?_)) hs⟩
end Go.Proofs.YtoapkhkdnbcilaaGreat
namespace Go.Proofs.YtoapkhkdnbcilaaGreat
open Go Go.TH
attribute [local irreducible] W WO pt
set_option maxRecDepth 10000
set_option maxHeartbeats 4000000
section
variable {n:Nat} {a b:Nat→Int}
theorem bdK (hg:OkG n a b) (ha:∀ i,i<n → -20000≤a i∧a i≤20000) (hb:∀ i,i<n → -20000≤b i∧b i≤20000) (many:Nat):BdK (mkF (gG n a b)) many:=by
 have ht:∀ t c y,c≤n → -1000000000≤(TT n a t c y).getD 0∧(TT n a t c y).getD 0≤1000000000:=fun t c y hc=>by
  unfold TT
  split
  ·simp
  ·split
   ·split <;> simp
   ·split
    ·cases h:hv a c with
     | none=>simp
     | some x =>
      obtain ⟨⟨i,hi,rfl⟩,_⟩:=hv_le a c x h
      have:=ha i (by omega)
      simp
      omega
    ·simp
 refine ⟨fun x=>?_,fun r x y hr=>?_⟩
 ·cases h:mkF (gG n a b) x with
  | none=>simp
  | some m =>
   have hx:x=13*(x/13)+x%13:=by omega
   rw [hx,F_at (by omega)] at h
   simp only [Option.getD_some]
   rcases gG_cases h with ⟨_,_,_,rfl⟩ | ⟨_,_,_,rfl⟩ | ⟨_,g1,g2,rfl⟩ | ⟨g1,g2,_,rfl⟩
   ·omega
   ·omega
   ·have:=hb (x%13-1) (by omega);omega
   ·have:=ha (x/13-1) (by omega);omega
 ·match r with
  | 0 =>
   obtain ⟨t,c,hc,e⟩:=all_TT hg (x:=x)
   have e':(psX (mkF (gG n a b)) (rnd (mkF (gG n a b)) K00 0).1 x).1=TT n a t c:=e
   rw [e'];exact ht t c y hc
  | 1 =>
   have e:(rnd (mkF (gG n a b)) K00 1).1=TT n a (n+1) n:=rnd_1 hg
   rw [e,rest2 hg];exact ht _ _ y (Nat.le_refl _)
  | r+2 =>
   have e:rnd (mkF (gG n a b)) K00 (r+2)=(TT n a (n+1) n,-1):=rnd_2 hg r
   rw [e,rest2 hg];exact ht _ _ y (Nat.le_refl _)
end
abbrev hgT (hb nb:Nat) (n:Nat) (a:Nat→Int) (mb:Nat):HP:=hgP hb nb (TT n a (n+1) n) mb (-1)
theorem c_heights (w:World) (nb n:Nat) (a b:Nat→Int) (hd:List Value) (hN:RdO w.heap.size w nb (netC hd (mkF (gG n a b))) 131) (hh:hd.length=6) (h5:hd[5]?=some (.int .i64 ((n+2:Nat):Int))) (hg:OkG n a b) (ha:∀ i,i<n → -20000≤a i∧a i≤20000) (hb:∀ i,i<n → -20000≤b i∧b i≤20000) :
 Ct Tryz.prog 33 [.pointer (some ⟨nb,0,none⟩)].toArray w fun r w'=>∃ Hq,(∃ x:Nat × Nat,r=.tuple #[.pointer (some ⟨x.1,0,none⟩),.bool true]∧Hq=[hgT x.1 nb n a x.2,MpI x.2])∧Inv w [] Hq w':=by
 refine Ct.ofI (X:=Nat × Nat) (p:=fun x r=>r=.tuple #[.pointer (some ⟨x.1,0,none⟩),.bool true]) (Hx:=fun x=>[hgT x.1 nb n a x.2,MpI x.2]) mixed tyTab Tryz.func33 rfl rfl ?_
 replace hN:RdO (fnCx mixed tyTab Tryz.f33.ntmps w).B (fnCx mixed tyTab Tryz.f33.ntmps w).w0 nb (netC hd (mkF (gG n a b))) 131:=hN
 have hn:=hg.nn
 have e:rnd (mkF (gG n a b)) K00 (n+2)=(TT n a (n+1) n,-1):=rnd_2 hg n
 refine W.sreg (WO.p rfl rfl (WO.p rfl rfl (WO.nil (W.sreg (WO.p rfl rfl (WO.call (Post:=fun r Hq=>∃ x:Nat × Nat,r=.tuple #[.pointer (some ⟨x.1,0,none⟩),.bool true]∧Hq=[hgT x.1 nb n a x.2,MpI x.2]) rfl Tryz.call78 (fun L w hi=>by have q:=c_from w nb (n+2) hd _ (hN.later hi) hh h5 (by omega) (bdK hg ha hb (n+2));rw [e,show bl (((TT n a (n+1) n,-1):(Nat→Option Int) × Int).2<0)=true from bl_t.2 (show (-1:Int)<0 by omega)] at q;exact q) rfl ?_))))))
 rintro _ _ ⟨⟨hb,mb⟩,rfl,rfl⟩
 refine WO.p rfl rfl (WO.p rfl rfl (WO.p rfl rfl (WO.p rfl rfl (WO.nil (W.ret ?_)))))
 exact fin.ret (Res.two rfl (RV.tmp rfl) (RV.tmp rfl)) ⟨(hb,mb),rfl,fun h hs=>hs⟩
end Go.Proofs.YtoapkhkdnbcilaaGreat
namespace Go.TH
open Go
section
variable {P:Program} {C:Cx P} {E:Env} {H:List HP} {Q:Post} {c:Code}
end
end Go.TH
namespace Go.TH
open Go
section
variable {P:Program} (w:World)
end
/-- a part of an array of one's own: n elements of one cell each -/
def WinC (e:Nat) (v:Value) (n:Nat) (cs:List Value):HP:=fun h =>
  cs.length=n∧∃ (g o cap:Nat) (cur:List Value),v=.slice (some ⟨g,o,none⟩) n cap∧n≤cap∧cap≤maxLen∧o+cap≤cur.length∧(cur.drop o).take n=cs∧pt g (.cells cur.toArray e (0,0)) h
/-- a window that began as the slice of another's array, which has no room left -/
def NowP (e b n:Nat) (ss:List Value) (v:Value) (cs:List Value):HP:=fun h =>
  (v=.slice (some ⟨b,0,none⟩) n n∧cs=ss∧OwC e 1 (.slice (some ⟨b,0,none⟩) n n) n ss h) ∨
  ∃ h1 h2,Split h h1 h2∧OwC e 1 (.slice (some ⟨b,0,none⟩) n n) n ss h1∧WinC e v n cs h2
theorem WinC.open {w0:World} {M:List Nat} {L H:List HP} {w:World} {e n:Nat} {v:Value} {cs:List Value} (h:Inv w0 M (L++WinC e v n cs::H) w) :
    cs.length=n∧∃ (g o cap:Nat) (cur:List Value),v=.slice (some ⟨g,o,none⟩) n cap∧n≤cap∧cap≤maxLen∧o+cap≤cur.length∧(cur.drop o).take n=cs∧Inv w0 M (L++pt g (.cells cur.toArray e (0,0))::H) w:=by
  have h1:=h.perm List.perm_middle
  obtain ⟨ha,hb,s,⟨hl,g,o,cap,cur,h2,h3,h4,h5,h6,h7⟩,hr⟩:=h1.mine
  refine ⟨hl,g,o,cap,cur,h2,h3,h4,h5,h6,?_⟩
  have:Inv w0 M (pt g (.cells cur.toArray e (0,0))::(L++H)) w:=⟨h1.os,h1.tape,h1.output,h1.size,h1.keep,ha,hb,s,h7,hr⟩
  exact this.perm List.perm_middle.symm
theorem WinC.shut {w0:World} {M:List Nat} {L H:List HP} {w:World} {e n g o cap:Nat} {cs cur:List Value} (hl:cs.length=n) (hn:n≤cap) (hm:cap≤maxLen) (hc:o+cap≤cur.length) (ht:(cur.drop o).take n=cs)
    (h:Inv w0 M (L++pt g (.cells cur.toArray e (0,0))::H) w):Inv w0 M (L++WinC e (.slice (some ⟨g,o,none⟩) n cap) n cs::H) w :=
  h.mono fun h hp=>⟨hl,g,o,cap,cur,rfl,hn,hm,hc,ht,hp⟩
theorem NowP.open {w0:World} {M:List Nat} {L H:List HP} {w:World} {e b n:Nat} {v:Value} {ss cs:List Value} (h:Inv w0 M (L++NowP e b n ss v cs::H) w) :
    (v=.slice (some ⟨b,0,none⟩) n n∧cs=ss∧Inv w0 M (L++OwC e 1 (.slice (some ⟨b,0,none⟩) n n) n ss::H) w) ∨
    Inv w0 M (L++OwC e 1 (.slice (some ⟨b,0,none⟩) n n) n ss::WinC e v n cs::H) w:=by
  have h1:=h.perm List.perm_middle
  obtain ⟨ha,hb,s,hc,hr⟩:=h1.mine
  rcases hc with ⟨q1,q2,q3⟩ | ⟨x,y,t,q1,q2⟩
  · refine .inl ⟨q1,q2,?_⟩
    have:Inv w0 M (OwC e 1 (.slice (some ⟨b,0,none⟩) n n) n ss::(L++H)) w:=⟨h1.os,h1.tape,h1.output,h1.size,h1.keep,ha,hb,s,q3,hr⟩
    exact this.perm List.perm_middle.symm
  · refine .inr ?_
    have:Inv w0 M (OwC e 1 (.slice (some ⟨b,0,none⟩) n n) n ss::WinC e v n cs::(L++H)) w:=by
      refine ⟨h1.os,h1.tape,h1.output,h1.size,h1.keep,?_⟩
      exact sat_join (H1:=[_,_]) s ⟨x,y,t,q1,y,fun _=>none,(split_none y).comm,q2,trivial⟩ hr
    refine this.perm ?_
    refine List.Perm.trans ?_ (List.perm_middle (l₁:=L) (l₂:=WinC e v n cs::H)).symm
    exact List.Perm.cons _ (List.perm_middle (l₁:=L) (l₂:=H)).symm
theorem NowP.start {e b n:Nat} {ss:List Value} {H H':List HP} (p:Pick (OwC e 1 (.slice (some ⟨b,0,none⟩) n n) n ss) H H'):∀ h,sat H h→sat (NowP e b n ss (.slice (some ⟨b,0,none⟩) n n) ss::H') h:=fun h hs=>by
  obtain ⟨h1,h2,s,a,r⟩:=p.sat hs
  exact ⟨h1,h2,s,.inl ⟨rfl,rfl,a⟩,r⟩
section
variable {P:Program} {C:Cx P} {E:Env} {H:List HP}
variable {ops:Array Oper} {K:KP} {rest:List Oper} {d:Nat} {ty:TypeId} {pos:String} {af:Array Edge} {x y z:Operand} {T T':TypeId}
theorem WinC.cellsI {e n:Nat} {v:Value} {cs:List Value} {L H':List HP} {w:World} (hi:Inv C.w0 C.M (L++WinC e v n cs::H') w):∀ j u,cs[j]?=some u→w.cell? ((base v).add j)=some u:=by
  intro j u hu
  obtain ⟨hl,g,o,cap,cur,rfl,h1,h2,h3,h4,hi'⟩:=WinC.open hi
  have hlook:=(hi'.look (b:=g) (o:=.cells cur.toArray e (0,0)) ((Pick.head).app L)).1
  have ea:(base (.slice (some ⟨g,o,none⟩) n cap)).add j=⟨g,o+j,none⟩:=by simp [base,Addr.add_lit]
  rw [ea]
  subst h4
  rw [List.getElem?_take] at hu
  split at hu
  · rw [List.getElem?_drop] at hu
    simp [World.cell?,hlook,hu]
  · cases hu
theorem NowP.cells {e b n:Nat} {ss:List Value} {v:Value} {cs:List Value} {H':List HP} (p:Pick (NowP e b n ss v cs) H H'):Cells C H (base v) cs:=by
  intro j u hu L w hi
  rcases NowP.open (hi.pickL p) with ⟨rfl,rfl,q⟩ | q
  · exact OwC.cells (C:=C) (.head) j u hu L w q
  · have q':Inv C.w0 C.M ((L++[OwC e 1 (.slice (some ⟨b,0,none⟩) n n) n ss])++WinC e v n cs::H') w:=by rw [List.append_assoc];exact q
    exact WinC.cellsI q' j u hu
theorem NowP.len {e b n:Nat} {ss:List Value} {v:Value} {cs:List Value} {H':List HP} (p:Pick (NowP e b n ss v cs) H H'):∀ (L:List HP) w,Inv C.w0 C.M (L++H) w→cs.length=n∧IsSl v n:=fun L w hi=>by
  rcases NowP.open (hi.pickL p) with ⟨rfl,rfl,q⟩ | q
  · obtain ⟨hl,_⟩:=OwC.open q
    exact ⟨by omega,OwC.isSl q⟩
  · have q':Inv C.w0 C.M ((L++[OwC e 1 (.slice (some ⟨b,0,none⟩) n n) n ss])++WinC e v n cs::H') w:=by rw [List.append_assoc];exact q
    obtain ⟨hl,g,o,cap,cur,rfl,h1,h2,h3,h4,hi'⟩:=WinC.open q'
    simp only [maxLen] at h2
    exact ⟨hl,by omega,_,_,rfl,fun _=>⟨_,_,rfl⟩⟩
theorem NowP.cell {e b n i:Nat} {ss:List Value} {v:Value} {cs:List Value} {H':List HP} (p:Pick (NowP e b n ss v cs) H H') (hi:i<cs.length):Cell C H (elt v i 1) (cs.getD i undef):=by
  have:=NowP.cells (C:=C) p i (cs.getD i undef) (by simp [hi])
  rw [elt_eq,Nat.mul_one]
  exact this
end
/-- the window is moved by one -/
theorem NowP.next {e b n g o c:Nat} {ss cs:List Value} {H H1 H2:List HP} (p:Pick (OwC e 1 (.slice (some ⟨b,0,none⟩) n n) n ss) H H1) (q:Pick (WinC e (.slice (some ⟨g,o,none⟩) (n+1) c) (n+1) cs) H1 H2) :
    ∀ h,sat H h→sat (NowP e b n ss (.slice (if c=1 then some ⟨g,o,none⟩ else ofs (some ⟨g,o,none⟩) (1*1)) (n+1-1) (c-1)) (cs.drop 1)::H2) h:=fun h hs=>by
  obtain ⟨h1,h2,s,a,r⟩:=p.sat hs
  obtain ⟨h3,h4,s2,a2,r2⟩:=q.sat r
  obtain ⟨r',s3,s4⟩:=split_assoc s s2
  refine ⟨r',h4,s3,.inr ⟨h1,h3,s4,a,?_⟩,r2⟩
  obtain ⟨hl,g',o',cap,cur,e1,q1,q2,q3,q4,q5⟩:=a2
  injection e1 with e1 e2 e3
  injection e1 with e1
  injection e1 with e1 e4
  subst e1;subst e4;subst e3
  refine ⟨by simp [hl],?_⟩
  by_cases h1c:c=1
  · subst h1c
    obtain rfl:n=0:=by omega
    refine ⟨g,o,0,cur,by simp,by omega,by omega,by omega,?_,q5⟩
    rw [← q4];simp
  · refine ⟨g,o+1,c-1,cur,?_,by omega,by omega,by omega,?_,q5⟩
    · rw [if_neg h1c];simp [ofs,Addr.add_lit]
    · rw [← q4,show n+1=1+n by omega,List.drop_take,List.drop_drop];simp
end Go.TH
namespace Go.TH
open Go
section
variable {P:Program} {C:Cx P} {E:Env} {H:List HP}
theorem prt_prt (p:Addr) (a b:Nat):(prt p a).add b=prt p (a+b):=by rw [prt_eq,prt_eq,Addr.add_add]
section rules
variable {ops:Array Oper} {K:KP} {rest:List Oper} {d:Nat} {ty:TypeId} {pos:String} {af:Array Edge} {x y:Operand} {T:TypeId}
/-- an element of an array at an address, and of an array within one -/
theorem WO.indexArr0 {len e sz:Nat} {k:IntKind} {i:Nat} {zi:Int} {p:Addr} (hT:C.tt.ar? T=some (len,e,sz)) (hx:ev E x=some (.pointer (some p))) (hy:ev E y=some (.int k zi)) (hz:zi=(i:Int)) (h1:i<len) (hN:Nat.blt d C.N=true)
    (h:WO C ops rest K ((d,.pointer (some (prt p (i*sz))))::E) H):WO C ops (⟨some d,.indexAddr T x y,ty,pos,af,none⟩::rest) K E H:=by
  subst hz
  refine WO.indexArr hT hx hy (by omega) (by omega) hN ?_
  rw [Int.toNat_natCast,← prt_eq];exact h
theorem WO.indexArrP {len e sz fo fo':Nat} {k:IntKind} {i:Nat} {zi:Int} {p:Addr} (hT:C.tt.ar? T=some (len,e,sz)) (hx:ev E x=some (.pointer (some (prt p fo)))) (hy:ev E y=some (.int k zi)) (hz:zi=(i:Int)) (h1:i<len) (hf:fo+i*sz=fo') (hN:Nat.blt d C.N=true)
    (h:WO C ops rest K ((d,.pointer (some (prt p fo')))::E) H):WO C ops (⟨some d,.indexAddr T x y,ty,pos,af,none⟩::rest) K E H:=by
  subst hz hf
  refine WO.indexArr hT hx hy (by omega) (by omega) hN ?_
  rw [Int.toNat_natCast,prt_prt];exact h
end rules
/-- the cells of a table of n rows of sz numbers -/
def tabC (sz n:Nat) (g:Nat→Int):List Value:=(List.range (n*sz)).map fun k=>.int .i64 (g k)
theorem tabC_get {sz n k:Nat} {g:Nat→Int} (h:k<n*sz):(tabC sz n g)[k]?=some (.int .i64 (g k)):=by
  unfold tabC;rw [List.getElem?_map,List.getElem?_range h];rfl
/-- a table of one's own -/
def TabP (e sz:Nat) (v:Value) (n:Nat) (g:Nat→Int):HP:=OwC e sz v n (tabC sz n g)
/-- a table below block B -/
structure RdT (sz B:Nat) (w:World) (v:Value) (n:Nat) (g:Nat→Int):Prop where
  sl:IsSl v n
  blk:0<n→(base v).block<B
  cell:∀ i j,i<n→j<sz→w.cell? (((base v).add (i*sz)).add j)=some (.int .i64 (g (i*sz+j)))
theorem at_lt {i j n sz:Nat} (hi:i<n) (hj:j<sz):i*sz+j<n*sz:=by
  have:=Nat.mul_le_mul_right sz (show i+1≤n by omega)
  rw [Nat.add_mul] at this;omega
theorem RdT.of {e sz n:Nat} {v:Value} {g:Nat→Int} {H' L:List HP} {w:World} (p:Pick (TabP e sz v n g) H H') (hs:0<sz) (hi:Inv C.w0 C.M (L++H) w):RdT sz w.heap.size w v n g:=by
  have key:∀ i j,i<n→j<sz→w.cell? (((base v).add (i*sz)).add j)=some (.int .i64 (g (i*sz+j))):=fun i j h1 h2 =>
    OwC.cellAt (C:=C) p (tabC_get (at_lt h1 h2)) L w hi
  refine ⟨OwC.sl p L w hi,fun hn=>?_,key⟩
  have:=World.block_lt_of_cell? w _ (key 0 0 hn hs)
  rw [addr_add_block,addr_add_block] at this
  exact this
theorem RdT.cellAt {sz n:Nat} {v:Value} {g:Nat→Int} (h:RdT sz C.B C.w0 v n g) {i j:Nat} (hi:i<n) (hj:j<sz):Cell C H (prt (elt v i sz) j) (.int .i64 (g (i*sz+j))):=by
  rw [prt_eq,elt_eq]
  exact Cell.old (by rw [addr_add_block,addr_add_block];exact h.blk (by omega)) (h.cell i j hi hj)
theorem RdT.later {sz n:Nat} {v:Value} {g:Nat→Int} {L:List HP} {w:World} (h:RdT sz C.B C.w0 v n g) (hi:Inv C.w0 C.M (L++H) w):RdT sz w.heap.size w v n g :=
  ⟨h.sl,fun hn=>Nat.lt_of_lt_of_le (h.blk hn) (Nat.le_trans C.hB hi.size),fun i j h1 h2=>by have:=(h.cellAt (H:=H) h1 h2) L w hi;rwa [prt_eq,elt_eq] at this⟩
section rules
variable {ops:Array Oper} {K:KP} {rest:List Oper} {d:Nat} {ty:TypeId} {pos:String} {af:Array Edge} {x y:Operand} {T:TypeId}
end rules
theorem RdT.agree {sz B n:Nat} {w w':World} {v:Value} {g:Nat→Int} (h:RdT sz B w v n g) (hk:∀ k,k<B→w'.heap[k]?=w.heap[k]?):RdT sz B w' v n g:=⟨h.sl,h.blk,fun i j h1 h2=>by rw [cell_agree hk (by rw [addr_add_block,addr_add_block];exact h.blk (by omega))];exact h.cell i j h1 h2⟩
theorem RdT.up {sz B B' n:Nat} {w:World} {v:Value} {g:Nat→Int} (h:RdT sz B w v n g) (hB:B≤B'):RdT sz B' w v n g:=⟨h.sl,fun hn=>Nat.lt_of_lt_of_le (h.blk hn) hB,h.cell⟩
/-- a table of one's own of which something is known -/
def TabX (e sz:Nat) (v:Value) (n:Nat) (p:(Nat→Int)→Prop):HP:=fun h=>∃ g,p g∧TabP e sz v n g h
theorem TabX.open {e sz n:Nat} {v:Value} {p:(Nat→Int)→Prop} {H':List HP} (pk:Pick (TabX e sz v n p) H H'):∀ h,sat H h→∃ g,p g∧sat (TabP e sz v n g::H') h:=fun h hs=>by
  obtain ⟨h1,h2,s,⟨g,hg,ht⟩,hr⟩:=pk.sat hs
  exact ⟨g,hg,h1,h2,s,ht,hr⟩
theorem TabX.shut {e sz n:Nat} {v:Value} {p:(Nat→Int)→Prop} {g:Nat→Int} {H':List HP} (hg:p g) (pk:Pick (TabP e sz v n g) H H'):∀ h,sat H h→sat (TabX e sz v n p::H') h:=fun h hs=>by
  obtain ⟨h1,h2,s,ht,hr⟩:=pk.sat hs
  exact ⟨h1,h2,s,⟨g,hg,ht⟩,hr⟩
theorem TabP.sl {e sz n:Nat} {v:Value} {g:Nat→Int} {H':List HP} (pk:Pick (TabP e sz v n g) H H'):∀ (L:List HP) w,Inv C.w0 C.M (L++H) w→IsSl v n:=OwC.sl pk
section clears
variable {ops:Array Oper} {K:KP} {rest:List Oper} {d:Nat} {ty:TypeId} {pos:String} {af:Array Edge} {x y:Operand} {T:TypeId}
end clears
end
end Go.TH
namespace Go.Proofs.YtoapkhkdnbcilaaGreat
open Go Go.TH
attribute [local irreducible] W WO pt
set_option maxRecDepth 10000
set_option maxHeartbeats 4000000
theorem mid_setO {pre suf:List Value} {f:Nat→Option Int} {n i off:Nat} {o:Option Int} (h:i<n) (ho:off=pre.length+2*i):wrl (pre++(prC f n++suf)) off [.bool o.isSome,.int .i64 (o.getD 0)]=pre++(prC (upd f i o) n++suf):=by
 subst ho
 show ((pre++(prC f n++suf)).set (pre.length+2*i) (.bool o.isSome)).set (pre.length+2*i+1) (.int .i64 (o.getD 0))=_
 have hlen:(pre++(prC f n++suf)).length=pre.length+(2*n+suf.length):=by simp [prC_len]
 apply List.ext_getElem?
 intro k
 rw [List.getElem?_set]
 split
 ·rename_i e
  subst e
  rw [if_pos (by rw [List.length_set,hlen];omega),show pre.length+2*i+1=pre.length+(2*i+1) by omega,mid_get (by omega),cel_1]
  simp [upd]
 ·rename_i e1
  rw [List.getElem?_set]
  split
  ·rename_i e
   subst e
   rw [if_pos (by rw [hlen];omega),mid_get (by omega),cel_0]
   simp [upd]
  ·rename_i e0
   rcases Nat.lt_or_ge k pre.length with g | g
   ·rw [List.getElem?_append_left g,List.getElem?_append_left g]
   ·obtain ⟨q,rfl⟩:∃ q,k=pre.length+q:=⟨k-pre.length,by omega⟩
    rcases Nat.lt_or_ge q (2*n) with g2 | g2
    ·rw [mid_get g2,mid_get g2]
     have hne:q/2≠i:=by omega
     unfold cel upd
     rw [if_neg hne]
    ·have key:∀ g:Nat→Option Int,(pre++(prC g n++suf))[pre.length+q]?=suf[q-2*n]?:=fun g=>by
      rw [List.getElem?_append_right (by omega),show pre.length+q-pre.length=q by omega,List.getElem?_append_right (by rw [prC_len];omega),prC_len]
     rw [key,key]
def gT (g:Nat→Nat→Option Int) (i j:Nat) (q r:Nat):Option Int:=if r<i∨(r=i∧q<j) then g r q else none
theorem gT_0 (g:Nat→Nat→Option Int):mkF (gT g 0 0)=fun _=>none:=by
 funext x
 unfold mkF gT
 rw [if_neg (by omega)]
theorem gT_step (g:Nat→Nat→Option Int) (i j:Nat):(fun q r=>if q=j∧r=i then g i j else gT g i j q r)=gT g i (j+1):=by
 funext q r
 unfold gT
 by_cases h:q=j∧r=i
 ·rw [if_pos h,if_pos (by omega),h.1,h.2]
 ·rw [if_neg h]
  by_cases h2:r<i∨(r=i∧q<j)
  ·rw [if_pos h2,if_pos (by omega)]
  ·rw [if_neg h2,if_neg (by omega)]
theorem gT_row {g:Nat→Nat→Option Int} {m i:Nat} (h:∀ q r,(m≤q∨m≤r)→g q r=none):gT g i m=gT g (i+1) 0:=by
 funext q r
 unfold gT
 by_cases h1:r<i
 ·rw [if_pos (by omega),if_pos (by omega)]
 ·by_cases h2:r=i
  ·by_cases h3:q<m
   ·rw [if_pos (by omega),if_pos (by omega)]
   ·rw [if_neg (by omega),if_pos (by omega),h r q (by omega)]
  ·rw [if_neg (by omega),if_neg (by omega)]
theorem gT_all {g:Nat→Nat→Option Int} {m:Nat} (h:∀ q r,(m≤q∨m≤r)→g q r=none):gT g m 0=fun q r=>g r q:=by
 funext q r
 unfold gT
 by_cases h1:r<m
 ·rw [if_pos (by omega)]
 ·rw [if_neg (by omega),h r q (by omega)]
theorem gG_none {n:Nat} {a b:Nat→Int} {q r:Nat} (h:n+2≤q∨n+2≤r):gG n a b q r=none:=by
 cases hm:gG n a b q r with
 | none=>rfl
 | some m=>rcases gG_cases hm with ⟨_,_,_,_⟩ | ⟨_,_,_,_⟩ | ⟨_,_,_,_⟩ | ⟨_,_,_,_⟩ <;> omega
theorem gG_turn {n:Nat} {a b:Nat→Int}:(fun q r=>gG n a b r q)=gG n b a:=by
 funext q r
 unfold gG
 repeat' split
 all_goals first | rfl | (exfalso;omega)
theorem c_turned (w:World) (nb:Nat) (o:Value) (ws:Wss) (g:Nat→Nat→Option Int) (hoc:o.oneCell'=true) (hn:1≤ws.length∧ws.length≤6) (hg:∀ q r,(ws.length+2≤q∨ws.length+2≤r)→g q r=none) (hN:RdO w.heap.size w nb (netC (hdW ws o) (mkF g)) 131) :
 Ct Tryz.prog 37 [.pointer (some ⟨nb,0,none⟩)].toArray w fun r w'=>∃ Hq,(∃ b:Nat,r=.pointer (some ⟨b,0,none⟩)∧Hq=[netP b (hdW ws o) (mkF (fun q r=>g r q))])∧Inv w [] Hq w':=by
 refine Ct.ofI (X:=Nat) (p:=fun b r=>r=.pointer (some ⟨b,0,none⟩)) (Hx:=fun b=>[netP b (hdW ws o) (mkF (fun q r=>g r q))]) mixed tyTab Tryz.func37 rfl rfl ?_
 replace hN:RdO (fnCx mixed tyTab Tryz.f37.ntmps w).B (fnCx mixed tyTab Tryz.f37.ntmps w).w0 nb (netC (hdW ws o) (mkF g)) 131:=hN
 have hq0:∀ H,Cells (fnCx mixed tyTab Tryz.f37.ntmps w) H ⟨nb,0,none⟩ [.int .i64 (ws.length:Int),.int .i64 1,.int .i64 0,.int .i64 0,o]:=fun H=>hN.cells (n:=5) rfl
 have hq5:∀ H,Cell (fnCx mixed tyTab Tryz.f37.ntmps w) H (prt ⟨nb,0,none⟩ 5) (.int .i64 (1+(ws.length:Int)+1)):=fun H=>by rw [prt_eq,show (Addr.add ⟨nb,0,none⟩ 5)=⟨nb,5,none⟩ by unfold Addr.add;split <;> simp_all];exact hN.cell rfl
 have hqc:∀ i j,i<13→j<13→∀ H,Cells (fnCx mixed tyTab Tryz.f37.ntmps w) H (prt ⟨nb,0,none⟩ (6+i*26+j*2)) [.bool (g i j).isSome,.int .i64 ((g i j).getD 0)]:=fun i j hi hj H=>by
  rw [prt_eq,show (Addr.add ⟨nb,0,none⟩ (6+i*26+j*2))=⟨nb,6+i*26+j*2,none⟩ by unfold Addr.add;split <;> simp_all]
  refine hN.cells (n:=2) ?_
  rw [mid_at (i:=13*i+j) (by omega) (by simp;omega),mkF_at _ hj]
 refine W.sreg (WO.p rfl rfl (WO.nil (W.seq ?_)))
 refine W.drawD 8 [.r 0 [],.r 1 [],.r 2 [],.b 3 [],.r 4 [],.r 5 [],.r 6 [],.b 7 []] [] (A0:=[]) (Sub.refl _) (by kernel_rfl) ?_ ?_
 ·repeat constructor
 refine DT.r rfl rfl rfl (WO.p rfl rfl (WO.nil ⟨rfl,rfl⟩)) (DT.r rfl rfl rfl (WO.p rfl rfl (WO.nil ⟨rfl,rfl⟩)) (DT.r rfl rfl rfl (WO.field0 rfl rfl rfl (WO.nil ⟨rfl,rfl⟩)) (DT.b rfl rfl rfl (WO.loadA rfl rfl (hq0 _) rfl rfl (WO.nil ⟨rfl,rfl⟩)) (DT.r rfl rfl rfl (WO.p rfl rfl (WO.nil ⟨rfl,rfl⟩)) (DT.r rfl rfl rfl (WO.p rfl rfl (WO.nil ⟨rfl,rfl⟩)) (DT.r rfl rfl rfl (WO.field rfl rfl rfl (WO.nil ⟨rfl,rfl⟩)) (DT.b rfl rfl rfl (WO.load (v:=_) rfl rfl (hq5 _) rfl (WO.nil ⟨rfl,rfl⟩)) (DT.nil [] rfl (WO.build rfl rfl rfl rfl rfl (WO.boxA rfl rfl (fun b1 hb1=>(WO.p rfl rfl (WO.nil (W.seq ?_))))))))))))))
 rw [← net0,← gT_0 g]
 refine W.sreg (WO.p rfl rfl (WO.p rfl rfl (WO.field rfl rfl rfl (WO.load (v:=_) rfl rfl (hq5 _) rfl (WO.p rfl rfl (WO.nil (W.block ?_)))))))
 refine W.loop (fun (i:Nat)=>i≤ws.length+2)
  (fun (i:Nat)=>[(0,.pointer (some (Addr.mk nb 0 none))),(3,.pointer (some ⟨b1,0,none⟩)),(19,.int .i64 (1+(ws.length:Int)+1)),(20,.int .i64 (i:Int))])
  (fun (i:Nat)=>[netP b1 (hdW ws o) (mkF (gT g i 0))])
  (fun (i:Nat)=>ws.length+2-i) 0
  (by omega) ⟨rfl,rfl,rfl,rfl,trivial⟩ (by repeat (first | exact Sub.nil | refine Sub.cons (by repeat exact .head) ?_)) ?_
 rintro i hi0
 refine W.sreg (WO.p rfl rfl (WO.nil (W.seq ?_)))
 refine W.cond_bl rfl (fun c1=>?_) (fun c1=>?_)
 ·refine W.skip (W.seq (W.block (W.sreg (WO.p rfl rfl (WO.p rfl rfl (WO.nil (W.sreg (WO.p rfl rfl (WO.p rfl rfl (WO.field rfl rfl rfl (WO.load (v:=_) rfl rfl (hq5 _) rfl (WO.p rfl rfl (WO.nil (W.block ?_))))))))))))))
  refine W.loop (fun (j:Nat)=>j≤ws.length+2)
   (fun (j:Nat)=>[(0,.pointer (some (Addr.mk nb 0 none))),(3,.pointer (some ⟨b1,0,none⟩)),(4,.int .i64 (i:Int)),(19,.int .i64 (1+(ws.length:Int)+1)),(20,.int .i64 (i:Int)),(26,.int .i64 (1+(ws.length:Int)+1)),(27,.int .i64 (j:Int))])
   (fun (j:Nat)=>[netP b1 (hdW ws o) (mkF (gT g i j))])
   (fun (j:Nat)=>ws.length+2-j) 0
   (by omega) ⟨rfl,rfl,rfl,rfl,rfl,rfl,rfl,trivial⟩ (by repeat (first | exact Sub.nil | refine Sub.cons (by repeat exact .head) ?_)) ?_
  rintro j hj0
  refine W.sreg (WO.p rfl rfl (WO.nil (W.seq ?_)))
  refine W.cond_bl rfl (fun c2=>?_) (fun c2=>?_)
  ·refine W.skip (W.seq (W.block (W.sreg (WO.p rfl rfl (WO.p rfl rfl (WO.nil ?_))))))
   refine W.drawD 14 [.r 0 [],.r 1 [],.r 2 [],.r 3 [],.r 4 [],.r 5 [],.r 6 [],.r 7 [],.r 8 [],.r 9 [],.b 10 [],.r 11 [],.r 12 [],.r 13 []] [] (A0:=[]) (Sub.refl _) (by kernel_rfl) ?_ ?_
   ·repeat constructor
   refine DT.r rfl rfl rfl (WO.p rfl rfl (WO.nil ⟨rfl,rfl⟩)) (DT.r rfl rfl rfl (WO.p rfl rfl (WO.nil ⟨rfl,rfl⟩)) (DT.r rfl rfl rfl (WO.p rfl rfl (WO.nil ⟨rfl,rfl⟩)) (DT.r rfl rfl rfl (WO.p rfl rfl (WO.nil ⟨rfl,rfl⟩)) (DT.r rfl rfl rfl (WO.p rfl rfl (WO.nil ⟨rfl,rfl⟩)) (DT.r rfl rfl rfl (WO.p rfl rfl (WO.nil ⟨rfl,rfl⟩)) (DT.r rfl rfl rfl (WO.p rfl rfl (WO.nil ⟨rfl,rfl⟩)) (DT.r rfl rfl rfl (WO.field rfl rfl rfl (WO.nil ⟨rfl,rfl⟩)) (DT.r rfl rfl rfl (WO.indexArrP (fo:=6) (i:=i) (fo':=6+i*26) rfl rfl rfl rfl (by omega) rfl rfl (WO.nil ⟨rfl,rfl⟩)) ?_))))))))
   refine DT.r rfl rfl rfl (WO.indexArrP (fo:=6+i*26) (i:=j) (fo':=6+i*26+j*2) rfl rfl rfl rfl (by omega) rfl rfl (WO.nil ⟨rfl,rfl⟩)) (DT.b rfl rfl rfl (WO.loadA rfl rfl (hqc i j (by omega) (by omega) _) rfl rfl (WO.nil ⟨rfl,rfl⟩)) (DT.r rfl rfl rfl (WO.p rfl rfl (WO.nil ⟨rfl,rfl⟩)) (DT.r rfl rfl rfl (WO.fieldL rfl rfl rfl (WO.nil ⟨rfl,rfl⟩)) (DT.r rfl rfl rfl (WO.indexArrE (i:=j) (o':=6+j*26) rfl rfl rfl rfl (by omega) rfl rfl (WO.nil ⟨rfl,rfl⟩)) (DT.nil [_] rfl (WO.indexArrE (i:=i) (o':=6+j*26+i*2) rfl rfl rfl rfl (by omega) rfl rfl ?_))))))
   refine WO.storeP (n:=2) (vs:=[.bool (g i j).isSome,.int .i64 ((g i j).getD 0)]) rfl rfl rfl rfl (by repeat exact .head) (by simp [netC,prC_len];omega) rfl ?_
   rw [mid_setO (i:=13*j+i) (by omega) (by simp;omega),upd_mk _ (by omega),gT_step]
   refine WO.nil (W.region (WO.ar rfl rfl rfl (by unfold in64;omega) rfl (WO.p rfl rfl (WO.nil ?_))))
   refine' ⟨j+1,?hp,?hmu,⟨rfl,rfl,rfl,rfl,rfl,rfl,rfl,trivial⟩,?hS⟩
   case hS=>repeat (first | exact Sub.nil | refine Sub.cons (by repeat exact .head) ?_)
   case hp=>omega
   case hmu=>omega
  ·refine W.exit (blk_same ?_)
   obtain rfl:j=ws.length+2:=by omega
   rw [gT_row hg]
   refine W.region (WO.ar rfl rfl rfl (by unfold in64;omega) rfl (WO.p rfl rfl (WO.nil ?_)))
   refine' ⟨i+1,?hp,?hmu,⟨rfl,rfl,rfl,rfl,trivial⟩,?hS⟩
   case hS=>repeat (first | exact Sub.nil | refine Sub.cons (by repeat exact .head) ?_)
   case hp=>omega
   case hmu=>omega
 ·refine W.exit (blk_same ?_)
  obtain rfl:i=ws.length+2:=by omega
  rw [gT_all hg]
  refine W.sreg (WO.p rfl rfl (WO.p rfl rfl (WO.nil (W.ret ?_))))
  exact fin.ret (Res.one rfl (RV.tmp rfl)) ⟨b1,rfl,fun h hs=>Sub.sat (by repeat (first | exact Sub.nil | refine Sub.cons (by repeat exact .head) ?_)) hs⟩
end Go.Proofs.YtoapkhkdnbcilaaGreat
namespace Go.Proofs.YtoapkhkdnbcilaaGreat
open Go Go.TH
attribute [local irreducible] W WO pt
set_option maxRecDepth 10000
set_option maxHeartbeats 4000000
theorem slLit {a:Option Addr} {n c:Nat} (h:n≤9223372036854775807) (hb:0<n→∃ b o,a=some ⟨b,o,none⟩):IsSl (.slice a n c) n:=⟨h,a,c,rfl,hb⟩
def zL (g:Nat→Int) (k n:Nat):List Int:=(List.range k).map g++List.replicate (n-k) 0
theorem zL_0 (g:Nat→Int) (n:Nat):List.replicate n 0=zL g 0 n:=by simp [zL]
theorem zL_len {g:Nat→Int} {k n:Nat} (h:k≤n):(zL g k n).length=n:=by simp [zL];omega
theorem zL_n (g:Nat→Int) (n:Nat):zL g n n=(List.range n).map g:=by simp [zL]
theorem zL_set {g:Nat→Int} {k n:Nat} (h:k<n):(zL g k n).set k (g k)=zL g (k+1) n:=by
 unfold zL
 obtain ⟨m,hm⟩:∃ m,n-k=m+1:=⟨n-k-1,by omega⟩
 rw [List.set_append_right _ _ (by simp),hm,show n-(k+1)=m by omega,List.replicate_succ,List.range_succ,List.map_append]
 simp
section
variable {P:Program} {C:Cx P} {E:Env} {H:List HP}
variable {ops:Array Oper} {K:KP} {rest:List Oper} {d:Nat} {ty:TypeId} {pos:String} {af:Array Edge} {x y:Operand} {T:TypeId}
theorem WO.sliceAt {e by' n l c lb:Nat} {k:IntKind} {zi:Int} (hT:C.tt.sl? T=some (e,1,by')) (hx:ev E x=some (.slice (some ⟨lb,0,none⟩) l c)) (hy:ev E y=some (.int k zi)) (hz:zi=(n:Int)) (hn:n≤l) (hc:n<c) (hN:Nat.blt d C.N=true)
 (h:WO C ops rest K ((d,.slice (some ⟨lb,n,none⟩) (l-n) (c-n))::E) H):WO C ops (⟨some d,.slice T x (some y) none none,ty,pos,af,none⟩::rest) K E H:=by
 subst hz
 refine WO.pure _ (by simp) (fun L ac w hf hi=>?_) hN h
 have hn':(n:Int)≤(l:Int):=by omega
 have hcn:¬ c=n:=by omega
 simp [execOp,hf.eval hx,hf.eval hy,Instr.sliceAt,Instr.slice,run_underlying (SlT.of hT).u,Instr.sliceBounds,run_sliceBound,hn',Go.TH.run_sizeOf (SlT.of hT).size,hcn,Addr.add]
 intro h;omega
theorem Cells_from {lb k:Nat} {cs:List Value} (h:Cells C H ⟨lb,0,none⟩ cs):Cells C H ⟨lb,k,none⟩ (cs.drop k):=by
 intro j v hv
 have e1:(Addr.add ⟨lb,k,none⟩ j)=⟨lb,k+j,none⟩:=by unfold Addr.add;split <;> simp_all
 have e2:(Addr.add ⟨lb,0,none⟩ (k+j))=⟨lb,k+j,none⟩:=by unfold Addr.add;split <;> simp_all
 rw [List.getElem?_drop] at hv
 have:=h (k+j) v hv
 rw [e1,← e2];exact this
end
theorem map_flat (g:Nat→Int) (l:List Nat):(l.map g).flatMap encI=l.map fun k=>Value.int .i64 (g k):=by
 induction l with
 | nil=>rfl
 | cons a l ih=>simp [List.map_cons,List.flatMap_cons,ih,encI]
theorem sub_cells {C:Cx Tryz.prog} {H:List HP} {lb m k:Nat} {g:Nat→Int} {c:Nat} (p:∃ H',Pick (OwE encI 2 1 (.slice (some ⟨lb,0,none⟩) m c) ((List.range m).map g)) H H'):Cells C H ⟨lb,k,none⟩ (((List.range m).map fun k=>Value.int .i64 (g k)).drop k):=by
 obtain ⟨H',p⟩:=p
 have h:Cells C H (base (.slice (some ⟨lb,0,none⟩) m c)) (((List.range m).map g).flatMap encI):=OwC.cells p
 rw [map_flat] at h
 exact Cells_from h
theorem Cells_take {C:Cx Tryz.prog} {H:List HP} {p:Addr} {vs:List Value} {k:Nat} (h:Cells C H p vs):Cells C H p (vs.take k):=fun j v hv=>by
 rw [List.getElem?_take] at hv
 split at hv
 ·exact h j v hv
 ·cases hv
theorem drop_take (g:Nat→Value) (n:Nat):(((List.range (n+2)).map g).drop 1).take n=(List.range n).map fun i=>g (i+1):=by
 apply List.ext_getElem?
 intro k
 rw [List.getElem?_take]
 by_cases h:k<n
 ·rw [if_pos h,List.getElem?_drop,List.getElem?_map,List.getElem?_map,List.getElem?_range (by omega),List.getElem?_range h]
  simp [Nat.add_comm]
 ·rw [if_neg h,List.getElem?_eq_none (by simp;omega)]
theorem sub_cell {C:Cx Tryz.prog} {H:List HP} {lb m k l' c':Nat} {g:Nat→Int} {c:Nat} (p:∃ H',Pick (OwE encI 2 1 (.slice (some ⟨lb,0,none⟩) m c) ((List.range m).map g)) H H') (hk:k<m):Cell C H (elt (.slice (some ⟨lb,k,none⟩) l' c') 0 1) (.int .i64 (g k)):=by
 have h:=sub_cells (C:=C) (k:=k) p 0 (.int .i64 (g k)) (by rw [List.getElem?_drop,List.getElem?_map,List.getElem?_range (by omega)];rfl)
 rw [elt_eq]
 exact h
theorem c_truth (w:World) (hb nb mb n:Nat) (a:Nat→Int) (sg:Int) (o:Value) (ws:Wss) (F:Nat→Option Int) (hsg:sg=1∨sg = -1) (hn:1≤n∧n≤6) (hw:ws.length=n) (ha:∀ i,i<n → -20000≤a i∧a i≤20000)
 (hH:RdO w.heap.size w hb (hgC nb (TT n a (n+1) n) mb (-1)) 136) (hN:RdO w.heap.size w nb (netC (hdW ws o) F) 131) :
 Ct Tryz.prog 34 [.pointer (some ⟨hb,0,none⟩),.int .i64 sg].toArray w fun r w'=>∃ Hq,(∃ x:Value × Value,(r=.agg #[x.1,x.2]∧x.1.oneCell'=true∧x.2.oneCell'=true)∧Hq=[OwE encI 2 1 x.2 [-(sg*((hv a n).getD 0))]])∧Inv w [] Hq w':=by
 refine Ct.ofI (X:=Value × Value) (p:=fun x r=>r=.agg #[x.1,x.2]∧x.1.oneCell'=true∧x.2.oneCell'=true) (Hx:=fun x=>[OwE encI 2 1 x.2 [-(sg*((hv a n).getD 0))]]) mixed tyTab Tryz.func34 rfl rfl ?_
 replace hH:RdO (fnCx mixed tyTab Tryz.f34.ntmps w).B (fnCx mixed tyTab Tryz.f34.ntmps w).w0 hb (hgC nb (TT n a (n+1) n) mb (-1)) 136:=hH
 replace hN:RdO (fnCx mixed tyTab Tryz.f34.ntmps w).B (fnCx mixed tyTab Tryz.f34.ntmps w).w0 nb (netC (hdW ws o) F) 131:=hN
 have hqh:∀ H,Cell (fnCx mixed tyTab Tryz.f34.ntmps w) H ⟨hb,0,none⟩ (.pointer (some ⟨nb,0,none⟩)):=fun H=>hH.cell rfl
 have hqn:∀ H,Cell (fnCx mixed tyTab Tryz.f34.ntmps w) H ⟨nb,0,none⟩ (.int .i64 (n:Int)):=fun H=>hN.cell (by rw [← hw];rfl)
 have hqm:∀ H,Cell (fnCx mixed tyTab Tryz.f34.ntmps w) H (prt ⟨nb,0,none⟩ 5) (.int .i64 ((n+2:Nat):Int)):=fun H=>by
  rw [prt_eq,show (Addr.add ⟨nb,0,none⟩ 5)=⟨nb,5,none⟩ by unfold Addr.add;split <;> simp_all]
  have:=hN.cell (H:=H) (off:=5) (v:=.int .i64 (1+(ws.length:Int)+1)) rfl
  rw [show 1+(ws.length:Int)+1=((n+2:Nat):Int) by omega] at this
  exact this
 obtain ⟨f,hf⟩:∃ f:Nat→Int,(fun i=>sg*((TT n a (n+1) n) i).getD 0)=f:=⟨_,rfl⟩
 have hft:∀ i,-20000≤((TT n a (n+1) n) i).getD 0∧((TT n a (n+1) n) i).getD 0≤20000:=fun i=>by
  unfold TT
  split
  ·simp
  ·split
   ·split <;> simp
   ·split
    ·cases h:hv a n with
     | none=>simp
     | some x =>
      obtain ⟨⟨j,hj,rfl⟩,_⟩:=hv_le a n x h
      have:=ha j hj
      simp
      omega
    ·simp
 have hfi:∀ i,sg*((TT n a (n+1) n) i).getD 0=f i:=fun i=>congrFun hf i
 have hfb:∀ i,-20000≤f i∧f i≤20000:=fun i=>by
  have:=hft i
  rw [← hfi i]
  rcases hsg with rfl | rfl <;> omega
 have hfe:f (n+1)=sg*((hv a n).getD 0):=by rw [← hfi];rw [TT_h]
 refine W.sreg (WO.alloc rfl rfl rfl (fun b1 hb1=>(WO.nil (W.sreg (WO.p rfl rfl (WO.p rfl rfl (WO.field0 rfl rfl rfl (WO.load (v:=_) rfl rfl (hqh _) rfl (WO.p rfl rfl (WO.field rfl rfl rfl (WO.load (v:=_) rfl rfl (hqm _) rfl (WO.makeI rfl rfl rfl rfl (by omega) (by omega) rfl (fun lb=>?_)))))))))))))
 rw [zL_0 f]
 have hlb:IsSl (.slice (some ⟨lb,0,none⟩) (n+2) (n+2)) (n+2):=slLit (by omega) (fun _=>⟨_,_,rfl⟩)
 refine WO.p rfl rfl (WO.nil (W.seq (W.sreg (WO.p rfl rfl (WO.len rfl rfl hlb rfl (WO.p rfl rfl (WO.nil (W.block ?_))))))))
 refine W.loop (fun (i:Nat)=>i≤n+2)
  (fun (i:Nat)=>[(0,.pointer (some (Addr.mk hb 0 none))),(1,.int .i64 sg),(5,.slice (some ⟨lb,0,none⟩) (n+2) (n+2)),(19,.int .i64 ((n+2:Nat):Int)),(20,.int .i64 (i:Int)),(4,.pointer (some ⟨b1,0,none⟩))])
  (fun (i:Nat)=>[pt b1 (.cells #[.slice none 0 0,.slice none 0 0] 56 (0,0)),OwE encI 2 1 (.slice (some ⟨lb,0,none⟩) (n+2) (n+2)) (zL f i (n+2))])
  (fun (i:Nat)=>n+2-i) 0
  (by omega) ⟨rfl,rfl,rfl,rfl,rfl,rfl,trivial⟩ (by repeat (first | exact Sub.nil | refine Sub.cons (by repeat first | exact .head | apply Pick.tail) ?_)) ?_
 rintro i hi0
 refine W.sreg (WO.p rfl rfl (WO.nil (W.seq ?_)))
 refine W.cond_bl rfl (fun c1=>?_) (fun c1=>?_)
 ·refine W.skip (W.seq (W.block (W.sreg (WO.p rfl rfl (WO.p rfl rfl (WO.nil (W.region (WO.p rfl rfl (WO.p rfl rfl (WO.p rfl rfl (WO.p rfl rfl (WO.p rfl rfl (WO.callR rfl Tryz.call79 (fun L w' hi=>c_at9 w' hb nb mb (TT n a (n+1) n) (-1) i (by omega) (hH.later hi)) rfl (WO.ar rfl rfl rfl (by (first | have q:=hfb i;have q2:=hfi i;unfold in64;omega)) rfl (WO.indexAddr rfl rfl rfl hlb (by omega) rfl (WO.storeE (n:=f i) encI_ok rfl (by rw [← hfi i];rfl) rfl rfl (by repeat first | exact .head | apply Pick.tail) (by rw [zL_len (by omega)];omega) ?_))))))))))))))))
  rw [zL_set (by omega)]
  refine WO.nil (W.region (WO.ar rfl rfl rfl (by unfold in64;omega) rfl (WO.p rfl rfl (WO.nil ?_))))
  refine' ⟨i+1,?hp,?hmu,⟨rfl,rfl,rfl,rfl,rfl,rfl,trivial⟩,?hS⟩
  case hS=>repeat (first | exact Sub.nil | refine Sub.cons (by repeat first | exact .head | apply Pick.tail) ?_)
  case hp=>omega
  case hmu=>omega
 ·refine W.exit (blk_same ?_)
  obtain rfl:i=n+2:=by omega
  rw [zL_n]
  refine W.sreg (WO.p rfl rfl (WO.p rfl rfl (WO.field0 rfl rfl rfl (WO.load (v:=_) rfl rfl (hqh _) rfl (WO.p rfl rfl (WO.field0 rfl rfl rfl (WO.field0 rfl rfl rfl (WO.load (v:=_) rfl rfl (hqn _) rfl (WO.makeI rfl rfl rfl rfl (by omega) (by omega) rfl (fun lc=>?_))))))))))
  have hlc:IsSl (.slice (some ⟨lc,0,none⟩) n n) n:=slLit (by omega) (fun _=>⟨_,_,rfl⟩)
  refine WO.build rfl rfl rfl rfl rfl (WO.alloc rfl rfl rfl (fun b2 hb2=>(WO.storeA rfl rfl rfl rfl Pick.head rfl rfl (WO.nil (W.seq ?_)))))
  refine W.drawD 4 [.r 0 [],.b 1 [],.r 2 [],.r 3 []] [] (A0:=[]) (Sub.refl _) (by kernel_rfl) ?_ ?_
  ·repeat constructor
  refine DT.r rfl rfl rfl (WO.field0 rfl rfl rfl (WO.nil ⟨rfl,rfl⟩)) (DT.b rfl rfl rfl (WO.load rfl rfl (Cell.own Pick.head rfl) rfl (WO.nil ⟨rfl,rfl⟩)) (DT.r rfl rfl rfl (WO.p rfl rfl (WO.nil ⟨rfl,rfl⟩)) (DT.r rfl rfl rfl (WO.sliceAt (n:=1) rfl rfl rfl rfl (by omega) (by omega) rfl (WO.nil ⟨rfl,rfl⟩)) (DT.nil [_,_,_,_] rfl ?_))))
  refine WO.copyEN (enc:=encI) (xs:=List.replicate n 0) (ys:=(List.range n).map fun i=>f (i+1)) (m:=n+2-1) encI_ok rfl rfl rfl (by repeat first | exact .head | apply Pick.tail) (slLit (by omega) (fun _=>⟨_,_,rfl⟩)) (by rw [List.length_replicate];omega) (by rw [List.length_replicate];omega) (by simp) (by rw [map_flat,← drop_take (fun i=>Value.int .i64 (f i)) n];exact Cells_take (sub_cells ⟨_,by repeat (first | exact Pick.head | apply Pick.tail)⟩)) rfl (WO.nil (W.seq (W.sreg (WO.p rfl rfl (WO.p rfl rfl (WO.p rfl rfl (WO.field0 rfl rfl rfl (WO.load (v:=_) rfl rfl (hqh _) rfl (WO.p rfl rfl (WO.field0 rfl rfl rfl (WO.field0 rfl rfl rfl ?_)))))))))))
  refine WO.load (v:=_) rfl rfl (hqn _) rfl (WO.ar rfl rfl rfl (by unfold in64;omega) rfl (WO.sliceAt (n:=n+1) rfl rfl rfl (by omega) (by omega) (by omega) rfl ?_))
  rw [show n+2-(n+1)=1 by omega]
  have hld:IsSl (.slice (some ⟨lb,n+1,none⟩) 1 1) 1:=slLit (by omega) (fun _=>⟨_,_,rfl⟩)
  refine WO.len rfl rfl hld rfl (WO.p rfl rfl (WO.nil (W.block (W.chg (owcNil (e:=2) (sz:=1)) ?_))))
  refine W.loop2 (fun (i:Nat) (hvv:Value)=>i≤1)
   (fun (i:Nat) (hvv:Value)=>[(4,.pointer (some ⟨b1,0,none⟩)),(7,.pointer (some ⟨b2,0,none⟩)),(57,.slice (some ⟨lb,n+1,none⟩) 1 1),(58,.int .i64 ((1:Nat):Int)),(59,.int .i64 (i:Int))])
   (fun (i:Nat) (hvv:Value)=>[pt b1 (.cells #[.slice none 0 0,.slice none 0 0] 56 (0,0)),pt b2 (.cells #[.slice (some ⟨lc,0,none⟩) n n,hvv] 56 (0,0)),OwE encI 2 1 (.slice (some ⟨lb,0,none⟩) (n+2) (n+2)) ((List.range (n+2)).map f),OwE encI 2 1 hvv ((List.range i).map fun _ => -(f (n+1)))])
   (fun (i:Nat) (hvv:Value)=>1-i) 0 (.slice none 0 0)
   (by omega) ⟨rfl,rfl,rfl,rfl,rfl,trivial⟩ (by repeat (first | exact Sub.nil | refine Sub.cons (by repeat first | exact .head | apply Pick.tail) ?_)) ?_
  rintro i hvv hi0
  refine W.sreg (WO.p rfl rfl (WO.nil (W.seq ?_)))
  refine W.cond_bl rfl (fun c2=>?_) (fun c2=>?_)
  ·refine W.skip (W.seq (W.block ?_))
   obtain rfl:i=0:=by omega
   refine W.sreg (WO.indexAddr rfl rfl rfl hld (by omega) rfl ?_)
   refine' WO.load (v:=_) rfl rfl ?hc rfl ?_
   case hc=>(first | (refine sub_cell (lb:=lb) (m:=n+2) (k:=n+1) (l':=1) (c':=1) (g:=f) (c:=n+2) ?_ (by omega);exact ⟨_,by repeat (first | exact Pick.head | apply Pick.tail)⟩))
   refine WO.p rfl rfl (WO.nil (W.region (WO.fieldL rfl rfl rfl (WO.load rfl rfl (Cell.own (Pick.tail (Pick.head)) rfl) rfl (WO.p rfl rfl (WO.neg rfl (by (first | have q:=hfb (n+1);unfold in64;omega)) rfl (WO.buildSl rfl rfl rfl rfl rfl rfl rfl rfl rfl (fun v3=>?_))))))))
   refine' WO.appendE (enc:=encI) (m:=1) (xs:=[]) (ys:=[-(f (n+1))]) encI_ok rfl rfl rfl rfl rfl (by repeat first | exact .head | apply Pick.tail) (slLit (by omega) (fun _=>⟨_,_,rfl⟩)) (by omega) rfl (OwC.cells .head) (by show (0+1)*8≤_;omega) (by show 0+1≤_;omega) rfl (fun gb c=>?_)
   refine WO.fieldL rfl rfl rfl (WO.store1 rfl rfl rfl (by rfl) (Pick.tail (Pick.tail (Pick.tail (Pick.head)))) rfl (WO.nil (W.region (WO.ar rfl rfl rfl (by unfold in64;omega) rfl (WO.p rfl rfl (WO.nil ?_))))))
   refine' ⟨0+1,_,?hp,?hmu,⟨rfl,rfl,rfl,rfl,rfl,trivial⟩,?hS⟩
   case hS=>repeat (first | exact Sub.nil | refine Sub.cons (by repeat first | exact .head | apply Pick.tail) ?_)
   case hp=>omega
   case hmu=>omega
  ·refine W.exit (blk_same ?_)
   obtain rfl:i=1:=by omega
   refine W.fact (OwE.sl (enc:=encI) (e:=2) (sz:=1) (v:=hvv) (xs:=(List.range 1).map fun _ => -(f (n+1))) (by repeat first | exact .head | apply Pick.tail)) (fun hvs=>?_)
   have hvo:=hvs.oc
   refine W.sreg (WO.loadA rfl rfl (Cells.own (Pick.tail (Pick.head))) rfl rfl (WO.storeA rfl rfl rfl rfl Pick.head rfl (by rw [List.all_cons,List.all_cons,hvo];rfl) (WO.nil (W.ret ?_))))
   exact fin.ret (Res.one rfl (RV.cell rfl rfl rfl (Cells.own (by repeat exact .head)))) ⟨(.slice (some ⟨lc,0,none⟩) n n,hvv),⟨rfl,rfl,hvo⟩,fun h hs=>by rw [← hfe];exact Sub.sat (.cons (by repeat first | exact .head | apply Pick.tail) .nil) hs⟩
end Go.Proofs.YtoapkhkdnbcilaaGreat
namespace Go.Proofs.YtoapkhkdnbcilaaGreat
open Go Go.TH
attribute [local irreducible] W WO pt
set_option maxRecDepth 10000
set_option maxHeartbeats 4000000
def aW (ws:Wss) (i:Nat):Int := -(ws.getD i (0,0)).1
def bW (ws:Wss) (i:Nat):Int:=(ws.getD i (0,0)).2
theorem g2_gG (ws:Wss):g2 ws ws.length ws.length=gG ws.length (aW ws) (bW ws):=rfl
theorem okG {ws:Wss} {v:Int} (h:OkW ws v):OkG ws.length (aW ws) (bW ws):=⟨h.n,fun i j hi hj=>by have:=h.lo i hi;have:=h.hi j hj;unfold aW bW;omega⟩
theorem okG' {ws:Wss} {v:Int} (h:OkW ws v):OkG ws.length (bW ws) (aW ws):=⟨h.n,fun i j hi hj=>by have:=h.lo j hj;have:=h.hi i hi;unfold aW bW;omega⟩
theorem aB {ws:Wss} {v:Int} (h:OkW ws v):∀ i,i<ws.length → -20000≤aW ws i∧aW ws i≤20000:=fun i hi=>by have:=h.lo i hi;have:=h.hi i hi;unfold aW;omega
theorem bB {ws:Wss} {v:Int} (h:OkW ws v):∀ i,i<ws.length → -20000≤bW ws i∧bW ws i≤20000:=fun i hi=>by have:=h.lo i hi;have:=h.hi i hi;unfold bW;omega
abbrev tbV (ws:Wss) (o:Value):Value:=.agg #[.int .i64 (ws.length:Int),.int .i64 1,.int .i64 0,.int .i64 0,o]
theorem hd5 (ws:Wss) (o:Value):(hdW ws o)[5]?=some (.int .i64 ((ws.length+2:Nat):Int)):=by
 show some (Value.int .i64 (1+(ws.length:Int)+1))=_
 rw [show 1+(ws.length:Int)+1=((ws.length+2:Nat):Int) by omega]
theorem c_Truth9 (w:World) (o:Value) (ws:Wss) (v:Int) (hw:OkW ws v) (hR:RdF encT 4 w.heap.size w o (tsW ws)):RetE Tryz.prog 13 [tbV ws o].toArray w (fun r=>∃ x y:Value,r=.tuple #[.agg #[x,y],.int .i64 0]∧x.oneCell'=true∧y.oneCell'=true):=by
 refine RetE.of mixed tyTab Tryz.func13 rfl rfl ?_
 replace hR:RdF encT 4 (fnCx mixed tyTab Tryz.f13.ntmps w).B (fnCx mixed tyTab Tryz.f13.ntmps w).w0 o (tsW ws):=hR
 have hoc:=hR.sl.oc
 have hn:=hw.n
 refine W.sreg (WO.boxA rfl rfl (fun b1 hb1=>(WO.alloc rfl rfl rfl (fun b2 hb2=>(WO.p rfl rfl (WO.nil (W.seq (W.sreg (WO.loadA rfl rfl (Cells.own (Pick.tail (Pick.head))) rfl rfl (WO.callR rfl Tryz.call29 (fun L w hi=>c_CheckTable9 w (ws.length:Int) 1 0 0 o (tsW ws) hw.tb (hR.later hi)) rfl (WO.p rfl rfl (WO.nil (W.sreg (WO.p rfl rfl (WO.neqF rfl rfl (by omega) rfl (WO.nil (W.cond_f rfl (W.skip (W.sreg (WO.loadA rfl rfl (Cells.own (Pick.tail (Pick.head))) rfl rfl ?_))))))))))))))))))))
 refine WO.call (Post:=fun r Hq=>∃ b:Nat,r=.pointer (some ⟨b,0,none⟩)∧Hq=[netP b (hdW ws o) (mkF (g2 ws ws.length ws.length))]) rfl Tryz.call32 (fun L w hi=>c_newNet w o ws v hw (hR.later hi)) rfl ?_
 rintro _ _ ⟨nb,rfl,rfl⟩
 rw [g2_gG]
 refine WO.call (Post:=fun r Hq=>∃ x:Nat × Nat,r=.tuple #[.pointer (some ⟨x.1,0,none⟩),.bool true]∧Hq=[hgT x.1 nb ws.length (aW ws) x.2,MpI x.2]) rfl Tryz.call33 (fun L w hi=>c_heights w nb ws.length (aW ws) (bW ws) (hdW ws o) (RdO.of (by repeat exact .head) hi) rfl (hd5 ws o) (okG hw) (aB hw) (bB hw)) rfl ?_
 rintro _ _ ⟨⟨hb,mb⟩,rfl,rfl⟩
 refine WO.p rfl rfl (WO.p rfl rfl (WO.p rfl rfl (WO.p rfl rfl (WO.p rfl rfl (WO.nil (W.seq (W.sreg (WO.p rfl rfl (WO.p rfl rfl (WO.nil (W.cond_f rfl (W.skip (W.sreg (WO.p rfl rfl (WO.call (Post:=fun r Hq=>∃ x:Value × Value,(r=.agg #[x.1,x.2]∧x.1.oneCell'=true∧x.2.oneCell'=true)∧Hq=[OwE encI 2 1 x.2 [-(1*((hv (aW ws) ws.length).getD 0))]]) rfl Tryz.call34 (fun L w hi=>c_truth w hb nb mb ws.length (aW ws) 1 o ws _ (.inl rfl) hw.n rfl (aB hw) (RdO.of (by repeat exact .head) hi) (RdO.of (by repeat first | exact .head | apply Pick.tail) hi)) rfl ?_)))))))))))))))
 rintro _ _ ⟨⟨x1,x2⟩,⟨rfl,ho1,ho2⟩,rfl⟩
 refine WO.storeA rfl rfl rfl rfl (Pick.tail (Pick.tail (Pick.tail (Pick.tail (Pick.head))))) rfl (by rw [List.all_cons,ho1,List.all_cons,ho2];rfl) (WO.p rfl rfl (WO.nil (W.ret ?_)))
 exact fin.ret (Res.two rfl (RV.cell rfl rfl rfl (Cells.own (by repeat exact .head))) (RV.tmp rfl)) ⟨x1,x2,rfl,ho1,ho2⟩
theorem c_Ring9 (w:World) (o:Value) (ws:Wss) (v:Int) (hw:OkW ws v) (hR:RdF encT 4 w.heap.size w o (tsW ws)):Ret Tryz.prog 14 [tbV ws o].toArray w (.tuple #[.slice none 0 0,.int .i64 5]):=by
 refine Ret.of mixed tyTab Tryz.func14 rfl rfl ?_
 replace hR:RdF encT 4 (fnCx mixed tyTab Tryz.f14.ntmps w).B (fnCx mixed tyTab Tryz.f14.ntmps w).w0 o (tsW ws):=hR
 have hoc:=hR.sl.oc
 have hn:=hw.n
 refine W.sreg (WO.boxA rfl rfl (fun b1 hb1=>(WO.p rfl rfl (WO.p rfl rfl (WO.nil (W.seq (W.sreg (WO.loadA rfl rfl (Cells.own Pick.head) rfl rfl (WO.callR rfl Tryz.call29 (fun L w hi=>c_CheckTable9 w (ws.length:Int) 1 0 0 o (tsW ws) hw.tb (hR.later hi)) rfl (WO.p rfl rfl (WO.nil (W.sreg (WO.p rfl rfl (WO.neqF rfl rfl (by omega) rfl (WO.nil (W.cond_f rfl (W.skip (W.sreg (WO.loadA rfl rfl (Cells.own Pick.head) rfl rfl (WO.call (Post:=fun r Hq=>∃ b:Nat,r=.pointer (some ⟨b,0,none⟩)∧Hq=[netP b (hdW ws o) (mkF (g2 ws ws.length ws.length))]) rfl Tryz.call32 (fun L w hi=>c_newNet w o ws v hw (hR.later hi)) rfl ?_))))))))))))))))))))
 rintro _ _ ⟨nb,rfl,rfl⟩
 rw [g2_gG]
 refine WO.call (Post:=fun r Hq=>∃ x:Nat × Nat,r=.tuple #[.pointer (some ⟨x.1,0,none⟩),.bool true]∧Hq=[hgT x.1 nb ws.length (aW ws) x.2,MpI x.2]) rfl Tryz.call33 (fun L w hi=>c_heights w nb ws.length (aW ws) (bW ws) (hdW ws o) (RdO.of (by repeat exact .head) hi) rfl (hd5 ws o) (okG hw) (aB hw) (bB hw)) rfl ?_
 rintro _ _ ⟨⟨hb,mb⟩,rfl,rfl⟩
 refine WO.p rfl rfl (WO.p rfl rfl (WO.p rfl rfl (WO.p rfl rfl (WO.p rfl rfl (WO.nil (W.seq (W.sreg (WO.p rfl rfl (WO.nil (W.cond_t rfl (W.sreg (WO.p rfl rfl (WO.p rfl rfl (WO.nil (W.ret ?_)))))))))))))))
 exact fin.ret (Res.two rfl (RV.tmp rfl) (RV.tmp rfl)) rfl
theorem c_hull1 (w:World) (x:Ts) (b:Nat) (hC:Cap w ⟨b,0,none⟩ (.int .i64 0)) (h:x.h=0):Ret Tryz.prog 82 [.agg #[.int .i64 x.k,.int .i64 x.h,.int .i64 x.lo,.int .i64 x.hi],.pointer (some ⟨b,0,none⟩)].toArray w (.bool true):=by
 refine Ret.of mixed tyTab Tryz.func82 rfl rfl ?_
 have hq0:∀ H,Cell (fnCx mixed tyTab Tryz.f82.ntmps w) H ⟨b,0,none⟩ (.int .i64 0):=fun H=>Cap.cell rfl hC
 refine W.sreg (WO.boxA rfl rfl (fun b1 hb1=>(WO.p rfl rfl (WO.nil (W.sreg (WO.fieldL rfl rfl rfl (WO.load rfl rfl (Cell.own Pick.head rfl) rfl (WO.load (v:=_) rfl rfl (hq0 _) rfl (WO.eqlT rfl rfl h rfl (WO.p rfl rfl (WO.nil (W.ret ?_))))))))))))
 exact fin.ret (Res.one rfl (RV.tmp rfl)) rfl
theorem c_IndexH (w:World) (o:Value) (l:List Ts) (b:Nat) (hR:RdF encT 4 w.heap.size w o l) (hl:0<l.length) (hC:Cap w ⟨b,0,none⟩ (.int .i64 0)) (h:(l.getD 0 ts0).h=0):Ret Tryz.prog 124 [o,.func (.func 82) #[] #[.pointer (some ⟨b,0,none⟩)]].toArray w (.int .i64 0):=by
 refine Ret.of mixed tyTab Tryz.func124 rfl rfl ?_
 replace hR:RdF encT 4 (fnCx mixed tyTab Tryz.f124.ntmps w).B (fnCx mixed tyTab Tryz.f124.ntmps w).w0 o l:=hR
 replace hC:Cap (fnCx mixed tyTab Tryz.f124.ntmps w).w0 ⟨b,0,none⟩ (.int .i64 0):=hC
 have hle:=hR.sl.le
 refine W.sreg (WO.p rfl rfl (WO.nil (W.seq (W.sreg (WO.p rfl rfl (WO.len rfl rfl hR.sl rfl (WO.p rfl rfl (WO.nil (W.block ?_)))))))))
 refine W.loop (fun (i:Nat)=>i≤0)
  (fun (i:Nat)=>[(8,.int .i64 (i:Int)),(7,.int .i64 (l.length:Int)),(0,o),(1,.func (.func 82) #[] #[.pointer (some ⟨b,0,none⟩)])])
  (fun (i:Nat)=>[])
  (fun (i:Nat)=>l.length-i) 0
  (by omega) ⟨rfl,rfl,rfl,rfl,trivial⟩ (by repeat (first | exact Sub.nil | refine Sub.cons (by repeat first | exact .head | apply Pick.tail) ?_)) ?_
 rintro i hi0
 refine W.sreg (WO.p rfl rfl (WO.nil (W.seq ?_)))
 refine W.cond_bl rfl (fun c1=>?_) (fun c1=>?_)
 ·refine W.skip (W.seq (W.block ?_))
  have hi00:i=0:=by omega
  subst hi00
  refine W.sreg (WO.p rfl rfl (WO.p rfl rfl (WO.nil (W.sreg (WO.p rfl rfl (WO.p rfl rfl (WO.p rfl rfl (WO.indexAddr rfl rfl rfl hR.sl (by omega) rfl (WO.loadA rfl rfl (cellsTs hR (i:=0) (by omega)) rfl rfl (WO.callCR (first:=[]) (captured:=[.pointer (some ⟨b,0,none⟩)]) (r:=.bool true) rfl rfl Tryz.call82 (fun L w' hi'=>c_hull1 w' (l.getD 0 ts0) b (hC.old rfl hi') h) rfl (WO.nil (W.cond_t rfl (W.sreg (WO.p rfl rfl (WO.p rfl rfl (WO.nil (W.ret ?_)))))))))))))))))
  exact fin.ret (Res.one rfl (RV.tmp rfl)) rfl
 ·exfalso;omega
theorem c_ContH (w:World) (o:Value) (l:List Ts) (b:Nat) (hR:RdF encT 4 w.heap.size w o l) (hl:0<l.length) (hC:Cap w ⟨b,0,none⟩ (.int .i64 0)) (h:(l.getD 0 ts0).h=0):Ret Tryz.prog 72 [o,.func (.func 82) #[] #[.pointer (some ⟨b,0,none⟩)]].toArray w (.bool true):=by
 refine Ret.of mixed tyTab Tryz.func72 rfl rfl ?_
 replace hR:RdF encT 4 (fnCx mixed tyTab Tryz.f72.ntmps w).B (fnCx mixed tyTab Tryz.f72.ntmps w).w0 o l:=hR
 replace hC:Cap (fnCx mixed tyTab Tryz.f72.ntmps w).w0 ⟨b,0,none⟩ (.int .i64 0):=hC
 refine W.sreg (WO.p rfl rfl (WO.nil (W.sreg (WO.p rfl rfl (WO.p rfl rfl (WO.callR rfl Tryz.call124 (fun L w' hi=>c_IndexH w' o l b (hR.later hi) hl (hC.old rfl hi) h) rfl (WO.p rfl rfl (WO.p rfl rfl (WO.nil (W.ret ?_))))))))))
 exact fin.ret (Res.one rfl (RV.tmp rfl)) (congrArg Value.bool (bl_t.2 (by omega)))
end Go.Proofs.YtoapkhkdnbcilaaGreat
