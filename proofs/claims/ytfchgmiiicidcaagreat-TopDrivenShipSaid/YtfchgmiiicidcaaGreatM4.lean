/-
  What is proved here: operations on the bits of numbers. Conditions: none; each rule states its own.
-/
import Derived.Test.YtfchgmiiicidcaaGreatM2
import Derived.Laws.Shifts
set_option linter.unusedVariables false
set_option linter.unusedSimpArgs false
namespace Go.TH
open Go
/-- how many bits a number of a kind has that is not below 0 -/
def room (k:IntKind):Nat:=if k.signed then k.bits-1 else k.bits
def Fits (k:IntKind) (a:Nat):Prop:=a<2 ^ room k
theorem wrap_nat {k:IntKind} {a:Nat} (h:Fits k a):k.wrap (a:Int)=(a:Int):=by
  unfold Fits room at h
  have e1:(a:Int)%(2 ^ k.bits:Int)=(a:Int):=by
    refine Int.emod_eq_of_lt (by omega) ?_
    have h2:a<2 ^ k.bits:=Nat.lt_of_lt_of_le h (Nat.pow_le_pow_right (by omega) (by split <;> omega))
    exact_mod_cast h2
  unfold IntKind.wrap
  simp only [e1]
  split
  · rename_i hs
    simp only [Bool.and_eq_true,decide_eq_true_eq] at hs
    rw [if_pos hs.1] at h
    have h3:(a:Int)<(2 ^ (k.bits-1):Int):=by exact_mod_cast h
    omega
  · rfl
theorem ofInt_nat {k:IntKind} {a:Nat} (h:Fits k a):(BitVec.ofInt k.bits (a:Int)).toNat=a:=by
  have h2:a<2 ^ k.bits:=Nat.lt_of_lt_of_le h (Nat.pow_le_pow_right (by omega) (by unfold room;split <;> omega))
  rw [show BitVec.ofInt k.bits (a:Int)=BitVec.ofNat k.bits a by simp,BitVec.toNat_ofNat]
  exact Nat.mod_eq_of_lt h2
theorem mod_fits {k:IntKind} {a:Nat} (h:Fits k a):a%2 ^ k.bits=a:=Nat.mod_eq_of_lt (Nat.lt_of_lt_of_le h (Nat.pow_le_pow_right (by omega) (by unfold room;split <;> omega)))
theorem Fits.and {k:IntKind} {a b:Nat} (h:Fits k a):Fits k (a&&&b):=Nat.lt_of_le_of_lt Nat.and_le_left h
theorem Fits.or {k:IntKind} {a b:Nat} (h:Fits k a) (h':Fits k b):Fits k (a|||b):=Nat.or_lt_two_pow h h'
theorem Fits.xor {k:IntKind} {a b:Nat} (h:Fits k a) (h':Fits k b):Fits k (a^^^b):=Nat.xor_lt_two_pow h h'
theorem Fits.shr {k:IntKind} {a s:Nat} (h:Fits k a):Fits k (a>>>s):=Nat.lt_of_le_of_lt (by rw [Nat.shiftRight_eq_div_pow];exact Nat.div_le_self _ _) h
section
variable {P:Program} {C:Cx P} {E:Env} {H:List HP}
variable {ops:Array Oper} {K:KP} {rest:List Oper} {d:Nat} {ty:TypeId} {pos:String} {af:Array Edge} {x y:Operand} {T T':TypeId} {k:IntKind} {a b:Nat}
theorem WO.shrN {k':IntKind} {s:Nat} (hx:ev E x=some (.int k (a:Int))) (hy:ev E y=some (.int k' (s:Int))) (hs:s≤k.bits) (hN:Nat.blt d C.N=true) (h:WO C ops rest K ((d,.int k ((a>>>s:Nat):Int))::E) H):WO C ops (⟨some d,.binOp .shr T x y T',ty,pos,af,none⟩::rest) K E H :=
  WO.pure _ (by simp) (fun L c w hf _=>by
    simp only [execOp,hf.eval hx,hf.eval hy]
    simp [binOp_shr,eqGuard_shr,shift_shr_any k k' a s (by omega),Nat.min_eq_left hs,Nat.shiftRight_eq_div_pow]) hN h
end
section
variable {P:Program} {C:Cx P} {E:Env} {H:List HP}
variable {ops:Array Oper} {K:KP} {rest:List Oper} {d:Nat} {ty:TypeId} {pos:String} {af:Array Edge} {x y:Operand} {T:TypeId}
end
end Go.TH
namespace Go.Proofs.YtfchgmiiicidcaaGreat
open Go Go.TH
attribute [local irreducible] W WO pt
set_option maxRecDepth 10000
set_option maxHeartbeats 1000000
abbrev xat (xs:List Int) (i:Nat):Int:=xs.getD i 0
structure OkLn (xs ys:List Int):Prop where
 n:2≤xs.length∧xs.length≤12
 len:ys.length=xs.length
 re:∀ i,i<xs.length→1≤xat xs i∧xat xs i≤1000000000
 cf:∀ i,i<xs.length→0≤xat ys i∧xat ys i≤100000
 up:∀ i,i+1<xs.length→xat xs i<xat xs (i+1)
 dn:∀ i,i+1<xs.length→xat ys (i+1)≤xat ys i
theorem OkLn.lt {xs ys:List Int} (h:OkLn xs ys) {i:Nat}:∀ {j:Nat},i<j→j<xs.length→xat xs i<xat xs j
 | 0,h1,_=>by omega
 | j+1,h1,h2=>by
  have h3:=h.up j h2
  rcases Nat.lt_or_ge i j with g | g
  ·have:=OkLn.lt h g (by omega);omega
  ·obtain rfl:i=j:=by omega
   exact h3
theorem OkLn.at_ {xs ys:List Int} (h:OkLn xs ys) {i:Nat} (hi:i<xs.length):(1≤xs.getD i 0∧xs.getD i 0≤1000000000)∧(0≤ys.getD i 0∧ys.getD i 0≤100000)∧(0<i→xs.getD ((i:Int)-1).toNat 0<xs.getD i 0∧ys.getD i 0≤ys.getD ((i:Int)-1).toNat 0):=by
 refine ⟨h.re i hi,h.cf i hi,fun h0=>?_⟩
 have h3:=h.up (i-1) (by omega)
 have h4:=h.dn (i-1) (by omega)
 rw [show i-1+1=i by omega] at h3 h4
 rw [show ((i:Int)-1).toNat=i-1 by omega]
 exact ⟨h3,h4⟩
structure LnTo (xs ys:List Int) (k:Nat):Prop where
 re:∀ i,i<k→1≤xat xs i∧xat xs i≤1000000000
 cf:∀ i,i<k→0≤xat ys i∧xat ys i≤100000
 up:∀ i,i+1<k→xat xs i<xat xs (i+1)
 dn:∀ i,i+1<k→xat ys (i+1)≤xat ys i
theorem LnTo.zero (xs ys:List Int):LnTo xs ys 0:=⟨fun i h=>by omega,fun i h=>by omega,fun i h=>by omega,fun i h=>by omega⟩
theorem LnTo.succ {xs ys:List Int} {k:Nat} (h:LnTo xs ys k) (h1:1≤xat xs k∧xat xs k≤1000000000) (h2:0≤xat ys k∧xat ys k≤100000) (h3:0<k→xat xs (k-1)<xat xs k∧xat ys k≤xat ys (k-1)):LnTo xs ys (k+1):=by
 refine ⟨fun i hi=>?_,fun i hi=>?_,fun i hi=>?_,fun i hi=>?_⟩
 ·rcases Nat.lt_or_ge i k with g | g
  ·exact h.re i g
  ·obtain rfl:i=k:=by omega
   exact h1
 ·rcases Nat.lt_or_ge i k with g | g
  ·exact h.cf i g
  ·obtain rfl:i=k:=by omega
   exact h2
 ·rcases Nat.lt_or_ge (i+1) k with g | g
  ·exact h.up i g
  ·have h4:=h3 (by omega)
   obtain rfl:k=i+1:=by omega
   exact h4.1
 ·rcases Nat.lt_or_ge (i+1) k with g | g
  ·exact h.dn i g
  ·have h4:=h3 (by omega)
   obtain rfl:k=i+1:=by omega
   exact h4.2
theorem ref_between (w:World) (n lo hi:Int):Ret Tryz.prog 43 [.int .i64 n,.int .i64 lo,.int .i64 hi].toArray w (.bool (bl (lo≤n∧n≤hi))):=by
 refine Ret.of mixed tyTab Tryz.func43 rfl rfl (W.sreg (WO.p rfl rfl (WO.nil (W.sreg (WO.p rfl rfl (WO.p rfl rfl (WO.p rfl rfl (WO.p rfl rfl ?_))))))))
 refine WO.guard_bl rfl rfl (fun c1=>?_) (fun c1=>?_)
 ·refine WO.pg rfl rfl rfl (WO.pg rfl rfl rfl (WO.pg rfl rfl rfl (WO.p rfl rfl (WO.p rfl rfl (WO.nil (W.ret (fin.ret (Res.one rfl (RV.tmp rfl)) (congrArg Value.bool ?_))))))))
  (rw [bl_eq,bl_eq,decide_eq_decide];omega)
 ·refine WO.no rfl rfl (WO.no rfl rfl (WO.no rfl rfl (WO.p rfl rfl (WO.p rfl rfl (WO.nil (W.ret (fin.ret (Res.one rfl (RV.tmp rfl)) (congrArg Value.bool ?_))))))))
  exact (bl_f.2 (by omega)).symm
theorem ref_CheckLine (w:World) (v u:Value) (xs ys:List Int) (hX:RdF encI 1 w.heap.size w v xs) (hY:RdF encI 1 w.heap.size w u ys):RetE Tryz.prog 110 [.agg #[v,u]].toArray w (fun r=>∃ z:Int,r=.int .i64 z∧(z=0→OkLn xs ys)∧(OkLn xs ys→z=0)):=by
 refine RetE.of mixed tyTab Tryz.func110 rfl rfl ?_
 replace hX:RdF encI 1 (fnCx mixed tyTab Tryz.f110.ntmps w).B (fnCx mixed tyTab Tryz.f110.ntmps w).w0 v xs:=hX
 replace hY:RdF encI 1 (fnCx mixed tyTab Tryz.f110.ntmps w).B (fnCx mixed tyTab Tryz.f110.ntmps w).w0 u ys:=hY
 have hxo:=hX.sl.oc
 have hyo:=hY.sl.oc
 have hxl:=hX.sl.le
 have hyl:=hY.sl.le
 refine W.sreg (WO.boxA rfl rfl (fun b1 hb1=>(WO.p rfl rfl (WO.nil (W.seq (W.sreg (WO.field0 rfl rfl rfl (WO.load rfl rfl (Cell.own Pick.head rfl) rfl ?_))))))))
 refine' WO.len (n:=_) rfl rfl ?hs rfl ?_
 case hs=>(first | exact hX.sl)
 refine WO.p rfl rfl (WO.p rfl rfl ?_)
 refine WO.guard_bl rfl rfl (fun c1=>?_) (fun c1=>?_)
 ·refine WO.no rfl rfl (WO.no rfl rfl (WO.no rfl rfl (WO.no rfl rfl (WO.p rfl rfl (WO.nil (W.cond_t rfl (W.sreg (WO.p rfl rfl (WO.nil (W.ret ?_))))))))))
  first
  | exact fin.ret (Res.one rfl (RV.tmp rfl)) ⟨_,rfl,fun h=>absurd h (by omega),fun h=>by have h1:=h.n;have h2:=h.len;omega⟩
  | exact fin.ret (Res.one rfl (RV.tmp rfl)) ⟨_,rfl,fun h=>absurd h (by omega),fun h=>by have h1:=h.at_ (i:=i) (by omega);omega⟩
  | exact fin.ret (Res.one rfl (RV.tmp rfl)) ⟨_,rfl,fun _=>by obtain rfl:i=xs.length:=(by omega);exact ⟨by omega,by omega,hln.re,hln.cf,hln.up,hln.dn⟩,fun _=>rfl⟩
 ·refine WO.go' rfl (WO.field0 rfl rfl rfl (WO.go' rfl (WO.load rfl rfl (Cell.own Pick.head rfl) rfl (WO.go' rfl ?_))))
  refine' WO.len (n:=_) rfl rfl ?hs rfl ?_
  case hs=>(first | exact hX.sl)
  refine WO.pg rfl rfl rfl (WO.p rfl rfl (WO.nil ?_))
  refine W.cond_bl rfl (fun c2=>?_) (fun c2=>?_)
  ·refine W.sreg (WO.p rfl rfl (WO.nil (W.ret ?_)))
   first
   | exact fin.ret (Res.one rfl (RV.tmp rfl)) ⟨_,rfl,fun h=>absurd h (by omega),fun h=>by have h1:=h.n;have h2:=h.len;omega⟩
   | exact fin.ret (Res.one rfl (RV.tmp rfl)) ⟨_,rfl,fun h=>absurd h (by omega),fun h=>by have h1:=h.at_ (i:=i) (by omega);omega⟩
   | exact fin.ret (Res.one rfl (RV.tmp rfl)) ⟨_,rfl,fun _=>by obtain rfl:i=xs.length:=(by omega);exact ⟨by omega,by omega,hln.re,hln.cf,hln.up,hln.dn⟩,fun _=>rfl⟩
  ·refine W.skip (W.seq (W.sreg (WO.fieldL rfl rfl rfl (WO.load rfl rfl (Cell.own Pick.head rfl) rfl ?_))))
   refine' WO.len (n:=_) rfl rfl ?hs rfl ?_
   case hs=>(first | exact hY.sl)
   refine WO.field0 rfl rfl rfl (WO.load rfl rfl (Cell.own Pick.head rfl) rfl ?_)
   refine' WO.len (n:=_) rfl rfl ?hs rfl ?_
   case hs=>(first | exact hX.sl)
   refine WO.p rfl rfl (WO.nil ?_)
   refine W.cond_bl rfl (fun c3=>?_) (fun c3=>?_)
   ·refine W.sreg (WO.p rfl rfl (WO.nil (W.ret ?_)))
    first
    | exact fin.ret (Res.one rfl (RV.tmp rfl)) ⟨_,rfl,fun h=>absurd h (by omega),fun h=>by have h1:=h.n;have h2:=h.len;omega⟩
    | exact fin.ret (Res.one rfl (RV.tmp rfl)) ⟨_,rfl,fun h=>absurd h (by omega),fun h=>by have h1:=h.at_ (i:=i) (by omega);omega⟩
    | exact fin.ret (Res.one rfl (RV.tmp rfl)) ⟨_,rfl,fun _=>by obtain rfl:i=xs.length:=(by omega);exact ⟨by omega,by omega,hln.re,hln.cf,hln.up,hln.dn⟩,fun _=>rfl⟩
   ·refine W.skip (W.seq (W.sreg (WO.p rfl rfl (WO.nil (W.block ?_)))))
    refine W.loop (fun (i:Nat)=>i≤xs.length∧LnTo xs ys i)
     (fun (i:Nat)=>[(1,.pointer (some ⟨b1,0,none⟩)),(2,.int .i64 0),(3,.int .i64 (i:Int))])
     (fun (i:Nat)=>[pt b1 (.cells #[v,u] 65 (0,0))])
     (fun (i:Nat)=>xs.length-i) 0
     (by exact ⟨by omega,LnTo.zero _ _⟩) ⟨rfl,rfl,rfl,trivial⟩ (by repeat (first | exact Sub.nil | refine Sub.cons (by repeat exact .head) ?_)) ?_
    rintro i ⟨hi0,hln⟩
    refine W.seq (W.sreg (WO.p rfl rfl (WO.field0 rfl rfl rfl (WO.load rfl rfl (Cell.own Pick.head rfl) rfl ?_))))
    refine' WO.len (n:=_) rfl rfl ?hs rfl ?_
    case hs=>(first | exact hX.sl)
    refine WO.p rfl rfl (WO.nil ?_)
    refine W.cond_bl rfl (fun c4=>?_) (fun c4=>?_)
    ·refine W.skip (W.seq (W.block (W.seq ?_)))
     refine W.drawD 44 [.r 0 [],.b 1 [],.r 2 [],.r 3 [],.b 4 [],.b 5 [],.r 6 [],.r 7 [],.r 8 [],.b 9 [],.r 10 [],.r 11 [],.b 12 [],.b 13 [],.r 14 [],.r 15 [],.r 16 [],.r 17 [],.r 18 [],.r 19 [],.r 20 [],.b 21 [],.r 22 [],.r 23 [],.b 24 [],.r 25 [],.b 26 [],.r 27 [],.r 28 [],.r 29 [],.b 30 [],.r 31 [],.r 32 [],.r 33 [],.b 34 [],.r 35 [],.r 36 [],.b 37 [],.r 38 [],.b 39 [],.r 40 [],.r 41 [],.r 42 [],.b 43 []] [] (A0:=[]) (Sub.refl _) (by kernel_rfl) ?_ ?_
     ·repeat constructor
     refine DT.r rfl rfl rfl (WO.field0 rfl rfl rfl (WO.nil ⟨rfl,rfl⟩)) (DT.b rfl rfl rfl (WO.load rfl rfl (Cell.own Pick.head rfl) rfl (WO.nil ⟨rfl,rfl⟩)) (DT.r rfl rfl rfl (WO.p rfl rfl (WO.nil ⟨rfl,rfl⟩)) ?_))
     refine' DT.r rfl rfl rfl ?hq ?_
     case hq =>
      refine' WO.indexAddr (n:=_) (i:=_) rfl rfl rfl ?hs ?h1 rfl ?_
      case hs=>(first | exact hX.sl)
      case h1=>(omega)
      exact WO.nil ⟨rfl,rfl⟩
     refine' DT.b rfl rfl rfl ?hq ?_
     case hq =>
      refine' WO.load (v:=_) rfl rfl ?hc rfl ?_
      case hc=>((refine hX.cell0 (i:=i) (by omega) 0 ?_;rfl))
      exact WO.nil ⟨rfl,rfl⟩
     refine DT.b rfl rfl rfl (WO.callR rfl Tryz.call43 (fun L w hi=>ref_between w _ _ _) rfl (WO.nil ⟨rfl,rfl⟩)) (DT.r rfl rfl rfl (WO.p rfl rfl (WO.nil ⟨rfl,rfl⟩)) ?_)
     refine DT.rNB rfl rfl rfl (WO.p rfl rfl (WO.nil ⟨rfl,rfl⟩)) (fun c5=>?_) (fun c5=>?_)
     ·refine DT.r rfl rfl rfl (WO.no rfl rfl (WO.nil ⟨rfl,rfl⟩)) (DT.b rfl rfl rfl (WO.no rfl rfl (WO.nil ⟨rfl,rfl⟩)) (DT.r rfl rfl rfl (WO.no rfl rfl (WO.nil ⟨rfl,rfl⟩)) (DT.r rfl rfl rfl (WO.no rfl rfl (WO.nil ⟨rfl,rfl⟩)) (DT.b rfl rfl rfl (WO.no rfl rfl (WO.nil ⟨rfl,rfl⟩)) (DT.b rfl rfl rfl (WO.no rfl rfl (WO.nil ⟨rfl,rfl⟩)) (DT.r rfl rfl rfl (WO.no rfl rfl (WO.nil ⟨rfl,rfl⟩)) (DT.r rfl rfl rfl (WO.p rfl rfl (WO.nil ⟨rfl,rfl⟩)) (DT.r rfl rfl rfl (WO.p rfl rfl (WO.nil ⟨rfl,rfl⟩)) (DT.r rfl rfl rfl (WO.no rfl rfl (WO.nil ⟨rfl,rfl⟩)) (DT.r rfl rfl rfl (WO.no rfl rfl (WO.nil ⟨rfl,rfl⟩)) (DT.r rfl rfl rfl (WO.no rfl rfl (WO.nil ⟨rfl,rfl⟩)) ?_)))))))))))
      refine DT.r rfl rfl rfl (WO.no rfl rfl (WO.nil ⟨rfl,rfl⟩)) (DT.b rfl rfl rfl (WO.no rfl rfl (WO.nil ⟨rfl,rfl⟩)) (DT.r rfl rfl rfl (WO.no rfl rfl (WO.nil ⟨rfl,rfl⟩)) (DT.r rfl rfl rfl (WO.no rfl rfl (WO.nil ⟨rfl,rfl⟩)) (DT.b rfl rfl rfl (WO.no rfl rfl (WO.nil ⟨rfl,rfl⟩)) (DT.r rfl rfl rfl (WO.no rfl rfl (WO.nil ⟨rfl,rfl⟩)) (DT.b rfl rfl rfl (WO.no rfl rfl (WO.nil ⟨rfl,rfl⟩)) (DT.r rfl rfl rfl (WO.no rfl rfl (WO.nil ⟨rfl,rfl⟩)) (DT.r rfl rfl rfl (WO.no rfl rfl (WO.nil ⟨rfl,rfl⟩)) (DT.r rfl rfl rfl (WO.no rfl rfl (WO.nil ⟨rfl,rfl⟩)) (DT.b rfl rfl rfl (WO.no rfl rfl (WO.nil ⟨rfl,rfl⟩)) (DT.r rfl rfl rfl (WO.no rfl rfl (WO.nil ⟨rfl,rfl⟩)) ?_)))))))))))
      refine DT.r rfl rfl rfl (WO.no rfl rfl (WO.nil ⟨rfl,rfl⟩)) (DT.r rfl rfl rfl (WO.no rfl rfl (WO.nil ⟨rfl,rfl⟩)) (DT.b rfl rfl rfl (WO.no rfl rfl (WO.nil ⟨rfl,rfl⟩)) (DT.r rfl rfl rfl (WO.no rfl rfl (WO.nil ⟨rfl,rfl⟩)) (DT.r rfl rfl rfl (WO.no rfl rfl (WO.nil ⟨rfl,rfl⟩)) (DT.b rfl rfl rfl (WO.no rfl rfl (WO.nil ⟨rfl,rfl⟩)) (DT.r rfl rfl rfl (WO.no rfl rfl (WO.nil ⟨rfl,rfl⟩)) (DT.b rfl rfl rfl (WO.no rfl rfl (WO.nil ⟨rfl,rfl⟩)) (DT.r rfl rfl rfl (WO.no rfl rfl (WO.nil ⟨rfl,rfl⟩)) (DT.r rfl rfl rfl (WO.no rfl rfl (WO.nil ⟨rfl,rfl⟩)) (DT.r rfl rfl rfl (WO.no rfl rfl (WO.nil ⟨rfl,rfl⟩)) (DT.b rfl rfl rfl (WO.no rfl rfl (WO.nil ⟨rfl,rfl⟩)) ?_)))))))))))
      refine DT.nil [_] rfl (WO.no rfl rfl (WO.no rfl rfl (WO.no rfl rfl (WO.p rfl rfl (WO.nil (W.cond_t rfl (W.sreg (WO.p rfl rfl (WO.nil (W.ret ?_))))))))))
      first
      | exact fin.ret (Res.one rfl (RV.tmp rfl)) ⟨_,rfl,fun h=>absurd h (by omega),fun h=>by have h1:=h.n;have h2:=h.len;omega⟩
      | exact fin.ret (Res.one rfl (RV.tmp rfl)) ⟨_,rfl,fun h=>absurd h (by omega),fun h=>by have h1:=h.at_ (i:=i) (by omega);omega⟩
      | exact fin.ret (Res.one rfl (RV.tmp rfl)) ⟨_,rfl,fun _=>by obtain rfl:i=xs.length:=(by omega);exact ⟨by omega,by omega,hln.re,hln.cf,hln.up,hln.dn⟩,fun _=>rfl⟩
     ·refine DT.r rfl rfl rfl (WO.go' rfl (WO.fieldL rfl rfl rfl (WO.nil ⟨rfl,rfl⟩))) (DT.b rfl rfl rfl (WO.go' rfl (WO.load rfl rfl (Cell.own Pick.head rfl) rfl (WO.nil ⟨rfl,rfl⟩))) (DT.r rfl rfl rfl (WO.pg rfl rfl rfl (WO.nil ⟨rfl,rfl⟩)) ?_))
      refine' DT.r rfl rfl rfl ?hq ?_
      case hq =>
       refine WO.go' rfl ?_
       refine' WO.indexAddr (n:=_) (i:=_) rfl rfl rfl ?hs ?h1 rfl ?_
       case hs=>(first | exact hY.sl)
       case h1=>(omega)
       exact WO.nil ⟨rfl,rfl⟩
      refine' DT.b rfl rfl rfl ?hq ?_
      case hq =>
       refine WO.go' rfl ?_
       refine' WO.load (v:=_) rfl rfl ?hc rfl ?_
       case hc=>((refine hY.cell0 (i:=i) (by omega) 0 ?_;rfl))
       exact WO.nil ⟨rfl,rfl⟩
      refine DT.b rfl rfl rfl (WO.go' rfl (WO.callR rfl Tryz.call43 (fun L w hi=>ref_between w _ _ _) rfl (WO.nil ⟨rfl,rfl⟩))) (DT.r rfl rfl rfl (WO.pg rfl rfl rfl (WO.nil ⟨rfl,rfl⟩)) (DT.r rfl rfl rfl (WO.p rfl rfl (WO.nil ⟨rfl,rfl⟩)) ?_))
      refine DT.rNB rfl rfl rfl (WO.p rfl rfl (WO.nil ⟨rfl,rfl⟩)) (fun c6=>?_) (fun c6=>?_)
      ·refine DT.r rfl rfl rfl (WO.no rfl rfl (WO.nil ⟨rfl,rfl⟩)) (DT.r rfl rfl rfl (WO.no rfl rfl (WO.nil ⟨rfl,rfl⟩)) (DT.r rfl rfl rfl (WO.no rfl rfl (WO.nil ⟨rfl,rfl⟩)) (DT.r rfl rfl rfl (WO.no rfl rfl (WO.nil ⟨rfl,rfl⟩)) (DT.b rfl rfl rfl (WO.no rfl rfl (WO.nil ⟨rfl,rfl⟩)) (DT.r rfl rfl rfl (WO.no rfl rfl (WO.nil ⟨rfl,rfl⟩)) (DT.r rfl rfl rfl (WO.no rfl rfl (WO.nil ⟨rfl,rfl⟩)) (DT.b rfl rfl rfl (WO.no rfl rfl (WO.nil ⟨rfl,rfl⟩)) (DT.r rfl rfl rfl (WO.no rfl rfl (WO.nil ⟨rfl,rfl⟩)) (DT.b rfl rfl rfl (WO.no rfl rfl (WO.nil ⟨rfl,rfl⟩)) (DT.r rfl rfl rfl (WO.no rfl rfl (WO.nil ⟨rfl,rfl⟩)) (DT.r rfl rfl rfl (WO.no rfl rfl (WO.nil ⟨rfl,rfl⟩)) ?_)))))))))))
       refine DT.r rfl rfl rfl (WO.no rfl rfl (WO.nil ⟨rfl,rfl⟩)) (DT.b rfl rfl rfl (WO.no rfl rfl (WO.nil ⟨rfl,rfl⟩)) (DT.r rfl rfl rfl (WO.no rfl rfl (WO.nil ⟨rfl,rfl⟩)) (DT.r rfl rfl rfl (WO.no rfl rfl (WO.nil ⟨rfl,rfl⟩)) (DT.r rfl rfl rfl (WO.no rfl rfl (WO.nil ⟨rfl,rfl⟩)) (DT.b rfl rfl rfl (WO.no rfl rfl (WO.nil ⟨rfl,rfl⟩)) (DT.r rfl rfl rfl (WO.no rfl rfl (WO.nil ⟨rfl,rfl⟩)) (DT.r rfl rfl rfl (WO.no rfl rfl (WO.nil ⟨rfl,rfl⟩)) (DT.b rfl rfl rfl (WO.no rfl rfl (WO.nil ⟨rfl,rfl⟩)) (DT.r rfl rfl rfl (WO.no rfl rfl (WO.nil ⟨rfl,rfl⟩)) (DT.b rfl rfl rfl (WO.no rfl rfl (WO.nil ⟨rfl,rfl⟩)) (DT.r rfl rfl rfl (WO.no rfl rfl (WO.nil ⟨rfl,rfl⟩)) ?_)))))))))))
       refine DT.r rfl rfl rfl (WO.no rfl rfl (WO.nil ⟨rfl,rfl⟩)) (DT.r rfl rfl rfl (WO.no rfl rfl (WO.nil ⟨rfl,rfl⟩)) (DT.b rfl rfl rfl (WO.no rfl rfl (WO.nil ⟨rfl,rfl⟩)) (DT.nil [_] rfl (WO.no rfl rfl (WO.no rfl rfl (WO.no rfl rfl (WO.p rfl rfl (WO.nil (W.cond_t rfl (W.sreg (WO.p rfl rfl (WO.nil (W.ret ?_)))))))))))))
       first
       | exact fin.ret (Res.one rfl (RV.tmp rfl)) ⟨_,rfl,fun h=>absurd h (by omega),fun h=>by have h1:=h.n;have h2:=h.len;omega⟩
       | exact fin.ret (Res.one rfl (RV.tmp rfl)) ⟨_,rfl,fun h=>absurd h (by omega),fun h=>by have h1:=h.at_ (i:=i) (by omega);omega⟩
       | exact fin.ret (Res.one rfl (RV.tmp rfl)) ⟨_,rfl,fun _=>by obtain rfl:i=xs.length:=(by omega);exact ⟨by omega,by omega,hln.re,hln.cf,hln.up,hln.dn⟩,fun _=>rfl⟩
      ·refine DT.r rfl rfl rfl (WO.pg rfl rfl rfl (WO.nil ⟨rfl,rfl⟩)) (DT.r rfl rfl rfl (WO.pg rfl rfl rfl (WO.nil ⟨rfl,rfl⟩)) ?_)
       refine DT.rB rfl rfl rfl (WO.pg rfl rfl rfl (WO.nil ⟨rfl,rfl⟩)) (fun c7=>?_) (fun c7=>?_)
       ·refine DT.r rfl rfl rfl (WO.go' rfl (WO.field0 rfl rfl rfl (WO.nil ⟨rfl,rfl⟩))) (DT.b rfl rfl rfl (WO.go' rfl (WO.load rfl rfl (Cell.own Pick.head rfl) rfl (WO.nil ⟨rfl,rfl⟩))) (DT.r rfl rfl rfl (WO.pg rfl rfl rfl (WO.nil ⟨rfl,rfl⟩)) ?_))
        refine' DT.r rfl rfl rfl ?hq ?_
        case hq =>
         refine WO.go' rfl ?_
         refine' WO.indexAddr (n:=_) (i:=_) rfl rfl rfl ?hs ?h1 rfl ?_
         case hs=>(first | exact hX.sl)
         case h1=>(omega)
         exact WO.nil ⟨rfl,rfl⟩
        refine' DT.b rfl rfl rfl ?hq ?_
        case hq =>
         refine WO.go' rfl ?_
         refine' WO.load (v:=_) rfl rfl ?hc rfl ?_
         case hc=>((refine hX.cell0 (i:=i) (by omega) 0 ?_;rfl))
         exact WO.nil ⟨rfl,rfl⟩
        refine DT.r rfl rfl rfl (WO.go' rfl (WO.field0 rfl rfl rfl (WO.nil ⟨rfl,rfl⟩))) (DT.b rfl rfl rfl (WO.go' rfl (WO.load rfl rfl (Cell.own Pick.head rfl) rfl (WO.nil ⟨rfl,rfl⟩))) (DT.r rfl rfl rfl (WO.pg rfl rfl rfl (WO.nil ⟨rfl,rfl⟩)) (DT.r rfl rfl rfl (WO.go' rfl (WO.ar rfl rfl rfl (by unfold in64;omega) rfl (WO.nil ⟨rfl,rfl⟩))) ?_)))
        refine' DT.r rfl rfl rfl ?hq ?_
        case hq =>
         refine WO.go' rfl ?_
         refine' WO.indexAddrZ (n:=_) rfl rfl rfl ?hs ?h00 ?h1 rfl ?_
         case hs=>(first | exact hX.sl)
         case h00=>omega
         case h1=>(omega)
         exact WO.nil ⟨rfl,rfl⟩
        refine' DT.b rfl rfl rfl ?hq ?_
        case hq =>
         refine WO.go' rfl ?_
         refine' WO.load (v:=_) rfl rfl ?hc rfl ?_
         case hc=>((refine hX.cell0 (i:=((i:Int)-1).toNat) (by omega) 0 ?_;rfl))
         exact WO.nil ⟨rfl,rfl⟩
        refine DT.r rfl rfl rfl (WO.pg rfl rfl rfl (WO.nil ⟨rfl,rfl⟩)) ?_
        refine DT.rB rfl rfl rfl (WO.pg rfl rfl rfl (WO.nil ⟨rfl,rfl⟩)) (fun c8=>?_) (fun c8=>?_)
        ·refine DT.r rfl rfl rfl (WO.no rfl rfl (WO.nil ⟨rfl,rfl⟩)) (DT.b rfl rfl rfl (WO.no rfl rfl (WO.nil ⟨rfl,rfl⟩)) (DT.r rfl rfl rfl (WO.no rfl rfl (WO.nil ⟨rfl,rfl⟩)) (DT.r rfl rfl rfl (WO.no rfl rfl (WO.nil ⟨rfl,rfl⟩)) (DT.b rfl rfl rfl (WO.no rfl rfl (WO.nil ⟨rfl,rfl⟩)) (DT.r rfl rfl rfl (WO.no rfl rfl (WO.nil ⟨rfl,rfl⟩)) (DT.b rfl rfl rfl (WO.no rfl rfl (WO.nil ⟨rfl,rfl⟩)) (DT.r rfl rfl rfl (WO.no rfl rfl (WO.nil ⟨rfl,rfl⟩)) (DT.r rfl rfl rfl (WO.no rfl rfl (WO.nil ⟨rfl,rfl⟩)) (DT.r rfl rfl rfl (WO.no rfl rfl (WO.nil ⟨rfl,rfl⟩)) (DT.b rfl rfl rfl (WO.no rfl rfl (WO.nil ⟨rfl,rfl⟩)) (DT.nil [_] rfl ?_)))))))))))
         refine WO.no rfl rfl (WO.pg rfl rfl rfl (WO.pg rfl rfl rfl (WO.p rfl rfl (WO.nil (W.cond_t rfl (W.sreg (WO.p rfl rfl (WO.nil (W.ret ?_)))))))))
         first
         | exact fin.ret (Res.one rfl (RV.tmp rfl)) ⟨_,rfl,fun h=>absurd h (by omega),fun h=>by have h1:=h.n;have h2:=h.len;omega⟩
         | exact fin.ret (Res.one rfl (RV.tmp rfl)) ⟨_,rfl,fun h=>absurd h (by omega),fun h=>by have h1:=h.at_ (i:=i) (by omega);omega⟩
         | exact fin.ret (Res.one rfl (RV.tmp rfl)) ⟨_,rfl,fun _=>by obtain rfl:i=xs.length:=(by omega);exact ⟨by omega,by omega,hln.re,hln.cf,hln.up,hln.dn⟩,fun _=>rfl⟩
        ·refine DT.r rfl rfl rfl (WO.go' rfl (WO.fieldL rfl rfl rfl (WO.nil ⟨rfl,rfl⟩))) (DT.b rfl rfl rfl (WO.go' rfl (WO.load rfl rfl (Cell.own Pick.head rfl) rfl (WO.nil ⟨rfl,rfl⟩))) (DT.r rfl rfl rfl (WO.pg rfl rfl rfl (WO.nil ⟨rfl,rfl⟩)) ?_))
         refine' DT.r rfl rfl rfl ?hq ?_
         case hq =>
          refine WO.go' rfl ?_
          refine' WO.indexAddr (n:=_) (i:=_) rfl rfl rfl ?hs ?h1 rfl ?_
          case hs=>(first | exact hY.sl)
          case h1=>(omega)
          exact WO.nil ⟨rfl,rfl⟩
         refine' DT.b rfl rfl rfl ?hq ?_
         case hq =>
          refine WO.go' rfl ?_
          refine' WO.load (v:=_) rfl rfl ?hc rfl ?_
          case hc=>((refine hY.cell0 (i:=i) (by omega) 0 ?_;rfl))
          exact WO.nil ⟨rfl,rfl⟩
         refine DT.r rfl rfl rfl (WO.go' rfl (WO.fieldL rfl rfl rfl (WO.nil ⟨rfl,rfl⟩))) (DT.b rfl rfl rfl (WO.go' rfl (WO.load rfl rfl (Cell.own Pick.head rfl) rfl (WO.nil ⟨rfl,rfl⟩))) (DT.r rfl rfl rfl (WO.pg rfl rfl rfl (WO.nil ⟨rfl,rfl⟩)) (DT.r rfl rfl rfl (WO.go' rfl (WO.ar rfl rfl rfl (by unfold in64;omega) rfl (WO.nil ⟨rfl,rfl⟩))) ?_)))
         refine' DT.r rfl rfl rfl ?hq ?_
         case hq =>
          refine WO.go' rfl ?_
          refine' WO.indexAddrZ (n:=_) rfl rfl rfl ?hs ?h00 ?h1 rfl ?_
          case hs=>(first | exact hY.sl)
          case h00=>omega
          case h1=>(omega)
          exact WO.nil ⟨rfl,rfl⟩
         refine' DT.b rfl rfl rfl ?hq ?_
         case hq =>
          refine WO.go' rfl ?_
          refine' WO.load (v:=_) rfl rfl ?hc rfl ?_
          case hc=>((refine hY.cell0 (i:=((i:Int)-1).toNat) (by omega) 0 ?_;rfl))
          exact WO.nil ⟨rfl,rfl⟩
         refine DT.nil [_] rfl (WO.pg rfl rfl rfl (WO.pg rfl rfl rfl (WO.pg rfl rfl rfl (WO.p rfl rfl (WO.nil ?_)))))
         refine W.cond_bl rfl (fun c9=>?_) (fun c9=>?_)
         ·refine W.sreg (WO.p rfl rfl (WO.nil (W.ret ?_)))
          first
          | exact fin.ret (Res.one rfl (RV.tmp rfl)) ⟨_,rfl,fun h=>absurd h (by omega),fun h=>by have h1:=h.n;have h2:=h.len;omega⟩
          | exact fin.ret (Res.one rfl (RV.tmp rfl)) ⟨_,rfl,fun h=>absurd h (by omega),fun h=>by have h1:=h.at_ (i:=i) (by omega);omega⟩
          | exact fin.ret (Res.one rfl (RV.tmp rfl)) ⟨_,rfl,fun _=>by obtain rfl:i=xs.length:=(by omega);exact ⟨by omega,by omega,hln.re,hln.cf,hln.up,hln.dn⟩,fun _=>rfl⟩
         ·refine W.skip (W.region (WO.p rfl rfl (WO.ar rfl rfl rfl (by unfold in64;omega) rfl (WO.p rfl rfl (WO.nil ?_)))))
          refine' ⟨i+1,?hp,?hmu,⟨rfl,rfl,rfl,trivial⟩,?hS⟩
          case hS=>repeat (first | exact Sub.nil | refine Sub.cons (by repeat exact .head) ?_)
          case hp=>exact ⟨by omega,hln.succ (by omega) (by omega) (fun h=>by show xs.getD (i-1) 0<xs.getD i 0∧ys.getD i 0≤ys.getD (i-1) 0;rw [show i-1=((i:Int)-1).toNat by omega];omega)⟩
          case hmu=>omega
       ·refine DT.r rfl rfl rfl (WO.no rfl rfl (WO.nil ⟨rfl,rfl⟩)) (DT.b rfl rfl rfl (WO.no rfl rfl (WO.nil ⟨rfl,rfl⟩)) (DT.r rfl rfl rfl (WO.no rfl rfl (WO.nil ⟨rfl,rfl⟩)) (DT.r rfl rfl rfl (WO.no rfl rfl (WO.nil ⟨rfl,rfl⟩)) (DT.b rfl rfl rfl (WO.no rfl rfl (WO.nil ⟨rfl,rfl⟩)) (DT.r rfl rfl rfl (WO.no rfl rfl (WO.nil ⟨rfl,rfl⟩)) (DT.b rfl rfl rfl (WO.no rfl rfl (WO.nil ⟨rfl,rfl⟩)) (DT.r rfl rfl rfl (WO.no rfl rfl (WO.nil ⟨rfl,rfl⟩)) (DT.r rfl rfl rfl (WO.no rfl rfl (WO.nil ⟨rfl,rfl⟩)) (DT.r rfl rfl rfl (WO.no rfl rfl (WO.nil ⟨rfl,rfl⟩)) (DT.b rfl rfl rfl (WO.no rfl rfl (WO.nil ⟨rfl,rfl⟩)) (DT.r rfl rfl rfl (WO.no rfl rfl (WO.nil ⟨rfl,rfl⟩)) ?_)))))))))))
        refine DT.r rfl rfl rfl (WO.no rfl rfl (WO.nil ⟨rfl,rfl⟩)) (DT.r rfl rfl rfl (WO.no rfl rfl (WO.nil ⟨rfl,rfl⟩)) (DT.b rfl rfl rfl (WO.no rfl rfl (WO.nil ⟨rfl,rfl⟩)) (DT.r rfl rfl rfl (WO.no rfl rfl (WO.nil ⟨rfl,rfl⟩)) (DT.r rfl rfl rfl (WO.no rfl rfl (WO.nil ⟨rfl,rfl⟩)) (DT.b rfl rfl rfl (WO.no rfl rfl (WO.nil ⟨rfl,rfl⟩)) (DT.r rfl rfl rfl (WO.no rfl rfl (WO.nil ⟨rfl,rfl⟩)) (DT.b rfl rfl rfl (WO.no rfl rfl (WO.nil ⟨rfl,rfl⟩)) (DT.r rfl rfl rfl (WO.no rfl rfl (WO.nil ⟨rfl,rfl⟩)) (DT.r rfl rfl rfl (WO.no rfl rfl (WO.nil ⟨rfl,rfl⟩)) (DT.r rfl rfl rfl (WO.no rfl rfl (WO.nil ⟨rfl,rfl⟩)) (DT.b rfl rfl rfl (WO.no rfl rfl (WO.nil ⟨rfl,rfl⟩)) ?_)))))))))))
        refine DT.nil [_] rfl (WO.no rfl rfl (WO.no rfl rfl (WO.pg rfl rfl rfl (WO.p rfl rfl (WO.nil (W.cond_f rfl (W.skip (W.region (WO.p rfl rfl (WO.ar rfl rfl rfl (by unfold in64;omega) rfl (WO.p rfl rfl (WO.nil ?_))))))))))))
        refine' ⟨i+1,?hp,?hmu,⟨rfl,rfl,rfl,trivial⟩,?hS⟩
        case hS=>repeat (first | exact Sub.nil | refine Sub.cons (by repeat exact .head) ?_)
        case hp=>exact ⟨by omega,hln.succ (by omega) (by omega) (fun h=>by show xs.getD (i-1) 0<xs.getD i 0∧ys.getD i 0≤ys.getD (i-1) 0;rw [show i-1=((i:Int)-1).toNat by omega];omega)⟩
        case hmu=>omega
    ·refine W.exit (blk_same (W.sreg (WO.p rfl rfl (WO.nil (W.ret ?_)))))
     first
     | exact fin.ret (Res.one rfl (RV.tmp rfl)) ⟨_,rfl,fun h=>absurd h (by omega),fun h=>by have h1:=h.n;have h2:=h.len;omega⟩
     | exact fin.ret (Res.one rfl (RV.tmp rfl)) ⟨_,rfl,fun h=>absurd h (by omega),fun h=>by have h1:=h.at_ (i:=i) (by omega);omega⟩
     | exact fin.ret (Res.one rfl (RV.tmp rfl)) ⟨_,rfl,fun _=>by obtain rfl:i=xs.length:=(by omega);exact ⟨by omega,by omega,hln.re,hln.cf,hln.up,hln.dn⟩,fun _=>rfl⟩
structure Bd where
 n:Int
 m:Int
 lo:Int
 hi:Int
def encBd (b:Bd):List Value:=[.int .i64 b.n,.int .i64 b.m,.int .i64 b.lo,.int .i64 b.hi]
theorem encBd_ok:EncOk encBd 4:=⟨fun _=>rfl,fun x u hu=>by simp [encBd] at hu;rcases hu with rfl | rfl | rfl | rfl <;> rfl,by omega⟩
def bd0:Bd:=⟨0,0,0,0⟩
abbrev bdV (b:Bd):Value:=.agg #[.int .i64 b.n,.int .i64 b.m,.int .i64 b.lo,.int .i64 b.hi]
def OkBd (b:Bd):Prop:=b.lo≤b.n∧b.n≤b.m∧b.m≤b.hi
theorem RdF.cellsB {C:Cx Tryz.prog} {H:List HP} {o:Value} {l:List Bd} (h:RdF encBd 4 C.B C.w0 o l) {i:Nat} (h1:i<l.length):Cells C H (elt o i 4) [.int .i64 (l.getD i bd0).n,.int .i64 (l.getD i bd0).m,.int .i64 (l.getD i bd0).lo,.int .i64 (l.getD i bd0).hi]:=RdF.cells h h1 bd0
theorem c_exactly (w:World) (n lo hi:Int):Ret Tryz.prog 53 [.int .i64 n,.int .i64 lo,.int .i64 hi].toArray w (bdV ⟨n,n,lo,hi⟩):=by
 refine Ret.of mixed tyTab Tryz.func53 rfl rfl (W.sreg (WO.alloc rfl rfl rfl (fun b1 hb1=>(WO.nil (W.sreg (WO.p rfl rfl (WO.p rfl rfl (WO.build rfl rfl rfl rfl rfl (WO.p rfl rfl (WO.p rfl rfl (WO.build rfl rfl rfl rfl rfl (WO.storeA rfl rfl rfl rfl Pick.head rfl rfl (WO.nil (W.ret ?_))))))))))))))
 exact fin.ret (Res.one rfl (RV.cell rfl rfl rfl (Cells.own (by repeat exact .head)))) rfl
theorem c_Values (w:World) (v:Value) (ho:v.oneCell'=true):Ct Tryz.prog 116 [v].toArray w fun r w'=>∃ Hq,(∃ b,r=.func (.func 201) #[] #[.pointer (some ⟨b,0,none⟩)]∧Hq=[pt b (.cells #[v] 201 (0,0))])∧Inv w [] Hq w':=by
 refine Ct.of mixed tyTab Tryz.func116 rfl rfl (W.sreg (WO.box1 rfl (by assumption) rfl (fun b1 hb1=>(WO.p rfl rfl (WO.nil (W.sreg (WO.p rfl rfl (WO.p rfl rfl (WO.nil (W.ret ?_))))))))))
 exact fin.ret (Res.one rfl (RV.tmp rfl)) ⟨b1,rfl,rfl⟩
theorem c_bounds (w:World) (v:Value) (ho:v.oneCell'=true):Ct Tryz.prog 52 [v].toArray w fun r w'=>∃ Hq,(∃ b,r=.func (.func 201) #[] #[.pointer (some ⟨b,0,none⟩)]∧Hq=[pt b (.cells #[v] 201 (0,0))])∧Inv w [] Hq w':=by
 refine Ct.of mixed tyTab Tryz.func52 rfl rfl (W.sreg (WO.p rfl rfl (WO.nil (W.sreg (WO.p rfl rfl (WO.call (Post:=fun r Hq=>∃ b,r=.func (.func 201) #[] #[.pointer (some ⟨b,0,none⟩)]∧Hq=[pt b (.cells #[v] 201 (0,0))]) rfl Tryz.call116 (fun L w hi=>c_Values w v ho) rfl ?_))))))
 rintro _ _ ⟨b9,rfl,rfl⟩
 refine WO.p rfl rfl (WO.nil (W.ret ?_))
 exact fin.ret (Res.one rfl (RV.tmp rfl)) ⟨b9,rfl,rfl⟩
theorem bds_get {l:List Bd} {i:Nat} (h:i<l.length):(l.map bdV)[i]?=some (bdV (l.getD i bd0)):=by
 rw [List.getElem?_map,List.getD_eq_getElem?_getD,List.getElem?_eq_getElem h];rfl
theorem c_vals1 (B:Nat) (wr:World) (p:Addr) (v:Value) (l:List Bd) (hlt:p.block<B) (hat:wr.cell? p=some v) (hR:RdF encBd 4 B wr v l)
 (ll:Nat) (Hc:Nat→List HP) (hy:∀ k x,(l.map bdV)[k]?=some x→YieldOK Tryz.prog B wr ll #[x] (Hc k) (Hc (k+1))) (w:World) (M':List Nat) (hB:B≤w.heap.size) (hk:∀ k,k<B→w.heap[k]?=wr.heap[k]?) (hM:∀ b∈M',B≤b)
 (hi:Inv w M' ([]++Hc 0) w) :
 Ct Tryz.prog 201 ([.func (.yield ll) #[] #[],.pointer (some p)]:List Value).toArray w fun _ w'=>Inv w M' ([]++Hc (l.map bdV).length) w':=by
 refine Iter.of mixed tyTab hB hM Tryz.func201 rfl rfl hi ?_
 replace hR:RdF encBd 4 (itCx mixed tyTab Tryz.f201.ntmps w M' B hB hM).B (itCx mixed tyTab Tryz.f201.ntmps w M' B hB hM).w0 v l:=hR.agree hk
 have hle:=hR.sl.le
 have hat2:w.cell? p=some v:=by rw [cell_agree hk hlt];exact hat
 refine W.sreg ?_
 refine' WO.load (v:=_) rfl rfl ?hc rfl ?_
 case hc=>((refine Cell.old (v:=v) (C:=itCx mixed tyTab Tryz.f201.ntmps w M' B hB hM) hlt ?_;exact hat2))
 refine WO.len rfl rfl hR.sl rfl (WO.p rfl rfl (WO.nil (W.block ?_)))
 refine W.loop (fun (i:Nat)=>i≤l.length)
  (fun (i:Nat)=>[(0,.func (.yield ll) #[] #[]),(1,.pointer (some p)),(5,v),(6,.int .i64 (l.length:Int)),(7,.int .i64 (i:Int))])
  (fun (i:Nat)=>[sat (Hc i)])
  (fun (i:Nat)=>l.length-i) 0
  (by exact Nat.zero_le _) ⟨rfl,rfl,rfl,rfl,rfl,trivial⟩ (by repeat (first | exact Sub.nil | refine Sub.cons (by repeat exact .head) ?_)) ?_
 rintro i hi'
 refine W.sreg (WO.p rfl rfl (WO.nil (W.seq ?_)))
 refine W.cond_bl rfl (fun c1=>?_) (fun c1=>?_)
 ·refine W.skip (W.seq (W.block (W.sreg (WO.indexAddr rfl rfl rfl hR.sl (by omega) rfl (WO.loadA rfl rfl (RdF.cellsB hR (i:=i) (by omega)) rfl rfl (WO.alloc rfl rfl rfl (fun b1 hb1=>(WO.storeA rfl rfl rfl rfl Pick.head rfl rfl (WO.nil (W.sreg (WO.p rfl rfl (WO.loadA rfl rfl (Cells.own Pick.head) rfl rfl (WO.yield rfl rfl (by repeat first | exact .head | apply Pick.tail) ((hy _ _ (bds_get (by omega))).one.agree hk) rfl (WO.p rfl rfl (WO.nil (W.cond_f rfl (W.skip (W.region (WO.ar rfl rfl rfl (by unfold in64;omega) rfl (WO.p rfl rfl (WO.nil ?_)))))))))))))))))))))
  refine' ⟨i+1,?hp,?hmu,⟨rfl,rfl,rfl,rfl,rfl,trivial⟩,?hS⟩
  case hS=>repeat (first | exact Sub.nil | refine Sub.cons (by repeat exact .head) ?_)
  case hp=>omega
  case hmu=>omega
 ·refine W.exit (blk_same ?_)
  obtain rfl:i=l.length:=by omega
  refine fin.normal (Res.none rfl) ?_
  rw [List.length_map]
  exact .cons (by repeat exact .head) .nil
theorem c_good (w:World) (p:Addr) (v:Value) (l:List Bd) (hC:Cap w p v) (hR:RdF encBd 4 w.heap.size w v l) (hl:∀ b∈l,OkBd b):Ret Tryz.prog 51 [.func (.func 201) #[] #[.pointer (some p)]].toArray w (.bool true):=by
 refine Ret.of mixed tyTab Tryz.func51 rfl rfl ?_
 replace hR:RdF encBd 4 (fnCx mixed tyTab Tryz.f51.ntmps w).B (fnCx mixed tyTab Tryz.f51.ntmps w).w0 v l:=hR
 refine W.sreg (WO.alloc rfl rfl rfl (fun b1 hb1=>(WO.nil (W.seq (W.sreg (WO.p rfl rfl (WO.nil (W.block ?_))))))))
 refine W.rangeFunc [] (fun t=>[pt b1 (.cells #[.bool false] 4 (0,0))]) (l.map bdV) rfl rfl rfl Tryz.call201 (by repeat (first | exact Sub.nil | refine Sub.cons (by repeat exact .head) ?_)) ?_ ?_ ?_
 ·intro ll Hc hy w1 M1 hB1 hk1 hM1 hi1
  exact c_vals1 _ _ p v l hC.lt hC.at_ hR ll Hc hy w1 M1 hB1 hk1 hM1 hi1
 ·intro ll w1 M1 hB1 hM1 hk1 t x hx
  obtain ⟨b,hb,rfl⟩:∃ b:Bd,b∈l∧bdV b=x:=by obtain ⟨b,hb⟩:=List.getElem?_eq_some_iff.1 hx;simp at b;exact ⟨l[t],List.getElem_mem _,by simpa using hb⟩
  have hob:=hl b hb
  unfold OkBd at hob
  refine W.region (WO.alloc rfl rfl rfl (fun b2 hb2=>(WO.storeA rfl rfl rfl rfl Pick.head rfl rfl (WO.nil (W.block (W.sreg (WO.field0 rfl rfl rfl (WO.field0 rfl rfl rfl (WO.load rfl rfl (Cell.own Pick.head rfl) rfl (WO.fieldL rfl rfl rfl (WO.load rfl rfl (Cell.own Pick.head rfl) rfl (WO.p rfl rfl (WO.p rfl rfl ?_)))))))))))))
  refine WO.guard_bl rfl rfl (fun c1=>?_) (fun c1=>?_)
  ·exfalso;omega
  ·refine WO.go' rfl (WO.field0 rfl rfl rfl (WO.go' rfl (WO.field0 rfl rfl rfl (WO.go' rfl (WO.load rfl rfl (Cell.own Pick.head rfl) rfl (WO.go' rfl (WO.field0 rfl rfl rfl (WO.go' rfl (WO.fieldL rfl rfl rfl (WO.go' rfl (WO.load rfl rfl (Cell.own Pick.head rfl) rfl (WO.pg rfl rfl rfl (WO.p rfl rfl (WO.p rfl rfl ?_))))))))))))))
   refine WO.guard_bl rfl rfl (fun c2=>?_) (fun c2=>?_)
   ·exfalso;omega
   ·refine WO.go' rfl (WO.field0 rfl rfl rfl (WO.go' rfl (WO.fieldL rfl rfl rfl (WO.go' rfl (WO.load rfl rfl (Cell.own Pick.head rfl) rfl (WO.go' rfl (WO.fieldL rfl rfl rfl (WO.go' rfl (WO.load rfl rfl (Cell.own Pick.head rfl) rfl (WO.pg rfl rfl rfl (WO.p rfl rfl (WO.nil ?_))))))))))))
    refine W.cond_bl rfl (fun c3=>?_) (fun c3=>?_)
    ·exfalso;omega
    ·refine W.skip ?_
     (repeat (first | exact Sub.nil | refine Sub.cons (by repeat first | exact .head | apply Pick.tail) ?_))
 refine W.sreg (WO.store1 rfl rfl rfl (by rfl) Pick.head rfl (WO.nil (W.ret ?_)))
 exact fin.ret (Res.one rfl (RV.cell1 rfl rfl (Cell.own (by repeat exact .head) rfl))) rfl
end Go.Proofs.YtfchgmiiicidcaaGreat
namespace Go.Proofs.YtfchgmiiicidcaaGreat
open Go Go.TH
set_option maxRecDepth 10000
/-- what is told at a number -/
def FrR (xs ys:List Int) (x f:Int):Prop:=∃ i:Nat,i<xs.length∧((xs.getD i 0=x∧f=ys.getD i 0)∨(0<i∧xs.getD (i-1) 0<x∧x<xs.getD i 0∧f=ys.getD (i-1) 0-((ys.getD (i-1) 0-ys.getD i 0)*(x-xs.getD (i-1) 0)).tdiv (xs.getD i 0-xs.getD (i-1) 0)))
theorem OkLn.fall {xs ys:List Int} (h:OkLn xs ys) {i:Nat}:∀ {j:Nat},i≤j→j<xs.length→ys.getD j 0≤ys.getD i 0
  | 0,h1,_=>by obtain rfl:i=0:=(by omega);exact Int.le_refl _
  | j+1,h1,h2=>by
    rcases Nat.lt_or_ge i (j+1) with g | g
    · have h3:=h.dn j h2
      have:=OkLn.fall h (i:=i) (j:=j) (by omega) (by omega)
      unfold xat at h3;omega
    · obtain rfl:i=j+1:=by omega
      exact Int.le_refl _
/-- what is between two points -/
theorem mid {c d x m:Int} (h:d≤c) (h0:0≤x) (h1:x≤m) (hm:0<m):0≤((c-d)*x).tdiv m∧((c-d)*x).tdiv m≤c-d:=by
  have hn:=Int.mul_nonneg (show 0≤c-d by omega) h0
  rw [Int.tdiv_eq_ediv_of_nonneg hn]
  exact ⟨Int.ediv_nonneg hn (by omega),Int.ediv_le_of_le_mul hm (Int.mul_le_mul_of_nonneg_left h1 (by omega))⟩
theorem tdiv_mono {a b m:Int} (h0:0≤a) (h:a≤b) (hm:0<m):a.tdiv m≤b.tdiv m:=by
  rw [Int.tdiv_eq_ediv_of_nonneg h0,Int.tdiv_eq_ediv_of_nonneg (by omega)]
  exact Int.ediv_le_ediv hm h
theorem FrR.bd {xs ys:List Int} {x f:Int} (hL:OkLn xs ys) (h:FrR xs ys x f):∃ i,i<xs.length∧ys.getD i 0≤f∧((xs.getD i 0=x∧f=ys.getD i 0)∨(0<i∧xs.getD (i-1) 0<x∧x<xs.getD i 0∧f≤ys.getD (i-1) 0∧f=ys.getD (i-1) 0-((ys.getD (i-1) 0-ys.getD i 0)*(x-xs.getD (i-1) 0)).tdiv (xs.getD i 0-xs.getD (i-1) 0))):=by
  obtain ⟨i,hi,h⟩:=h
  refine ⟨i,hi,?_⟩
  rcases h with ⟨h1,h2⟩ | ⟨h1,h2,h3,h4⟩
  · exact ⟨by omega,.inl ⟨h1,h2⟩⟩
  · have hd:=hL.dn (i-1) (by omega)
    rw [show i-1+1=i by omega] at hd
    unfold xat at hd
    have:=mid hd (show 0≤x-xs.getD (i-1) 0 by omega) (show x-xs.getD (i-1) 0≤xs.getD i 0-xs.getD (i-1) 0 by omega) (by omega)
    exact ⟨by omega,.inr ⟨h1,h2,h3,by omega,h4⟩⟩
theorem fr_mono {xs ys:List Int} {x x' f f':Int} (hL:OkLn xs ys) (h:FrR xs ys x f) (h':FrR xs ys x' f') (hx:x≤x'):f'≤f:=by
  obtain ⟨i,hi,b,c⟩:=h.bd hL
  obtain ⟨j,hj,b',c'⟩:=h'.bd hL
  have lt:∀ {a b:Nat},a<b→b<xs.length→xs.getD a 0<xs.getD b 0:=fun h1 h2=>hL.lt h1 h2
  have fall:∀ {a b:Nat},a≤b→b<xs.length→ys.getD b 0≤ys.getD a 0:=fun h1 h2=>hL.fall h1 h2
  rcases c with ⟨e1,e2⟩ | ⟨e0,e1,e2,e3,e4⟩ <;> rcases c' with ⟨d1,d2⟩ | ⟨d0,d1,d2,d3,d4⟩
  · rcases Nat.lt_or_ge j i with g | g
    · have:=lt g hi;omega
    · have:=fall g hj;omega
  · rcases Nat.lt_or_ge (j-1) i with g | g
    · rcases Nat.lt_or_ge j (i+1) with g2 | g2
      · rcases Nat.lt_or_ge j i with g3 | g3
        · have:=lt g3 hi;omega
        · obtain rfl:i=j:=by omega
          omega
      · have:=fall (show i≤j-1 by omega) (by omega);omega
    · have:=fall g (by omega);omega
  · rcases Nat.lt_or_ge (i-1) j with g | g
    · have:=fall (show i≤j by omega) hj;omega
    · rcases Nat.lt_or_ge j (i-1) with g2 | g2
      · have:=lt g2 (by omega);omega
      · obtain rfl:j=i-1:=by omega
        omega
  · rcases Nat.lt_or_ge (j-1) i with g | g
    · rcases Nat.lt_or_ge i j with g2 | g2
      · omega
      · rcases Nat.lt_or_ge j i with g3 | g3
        · have:xs.getD j 0≤xs.getD (i-1) 0:=by
            rcases Nat.lt_or_ge j (i-1) with g4 | g4
            · exact Int.le_of_lt (lt g4 (by omega))
            · rw [show i-1=j by omega];exact Int.le_refl _
          omega
        · obtain rfl:i=j:=by omega
          have hd:=hL.dn (i-1) (by omega)
          rw [show i-1+1=i by omega] at hd
          unfold xat at hd
          have:=tdiv_mono (a:=(ys.getD (i-1) 0-ys.getD i 0)*(x-xs.getD (i-1) 0)) (b:=(ys.getD (i-1) 0-ys.getD i 0)*(x'-xs.getD (i-1) 0)) (m:=xs.getD i 0-xs.getD (i-1) 0) (Int.mul_nonneg (by omega) (by omega)) (Int.mul_le_mul_of_nonneg_left (by omega) (by omega)) (by omega)
          omega
    · have:=fall g (by omega);omega
/-- the friction -/
noncomputable def frV (xs ys:List Int) (x:Int):Int:=open Classical in if h:∃ f,FrR xs ys x f then h.choose else 0
theorem frV_eq {xs ys:List Int} {x f:Int} (hL:OkLn xs ys) (h:FrR xs ys x f):frV xs ys x=f:=by
  have he:∃ f,FrR xs ys x f:=⟨f,h⟩
  unfold frV
  rw [dif_pos he]
  have h1:=fr_mono hL he.choose_spec h (Int.le_refl _)
  have h2:=fr_mono hL h he.choose_spec (Int.le_refl _)
  omega
theorem fr_at {xs:List Int} {x:Int}:∀ k,k<xs.length→x≤xs.getD k 0→∃ i,i≤k∧x≤xs.getD i 0∧(i=0∨xs.getD (i-1) 0<x)
  | 0,_,h=>⟨0,Nat.le_refl _,h,.inl rfl⟩
  | k+1,hk,h=>by
    rcases Int.lt_or_le (xs.getD k 0) x with g | g
    · exact ⟨k+1,Nat.le_refl _,h,.inr (by rw [Nat.add_sub_cancel];exact g)⟩
    · obtain ⟨i,h1,h2,h3⟩:=fr_at k (by omega) g
      exact ⟨i,by omega,h2,h3⟩
theorem fr_ex {xs ys:List Int} {x:Int} (hL:OkLn xs ys) (h0:xs.getD 0 0≤x) (h1:x≤xs.getD (xs.length-1) 0):FrR xs ys x (frV xs ys x):=by
  have hn:=hL.n
  obtain ⟨i,hi,a,b⟩:=fr_at (xs.length-1) (by omega) h1
  have:∃ f,FrR xs ys x f:=by
    rcases Int.lt_or_le x (xs.getD i 0) with g | g
    · rcases b with rfl | b
      · omega
      · refine ⟨_,i,by omega,.inr ⟨?_,b,g,rfl⟩⟩
        rcases Nat.eq_zero_or_pos i with rfl | g2
        · omega
        · exact g2
    · exact ⟨_,i,by omega,.inl ⟨by omega,rfl⟩⟩
  obtain ⟨f,hf⟩:=this
  rw [frV_eq hL hf];exact hf
theorem frV_bd {xs ys:List Int} {x:Int} (hL:OkLn xs ys) (h0:xs.getD 0 0≤x) (h1:x≤xs.getD (xs.length-1) 0):0≤frV xs ys x∧frV xs ys x≤100000:=by
  obtain ⟨i,hi,b,c⟩:=(fr_ex hL h0 h1).bd hL
  have q:=hL.cf i hi
  unfold xat at q
  rcases c with ⟨_,c⟩ | ⟨c0,_,_,c,_⟩
  · omega
  · have q2:=hL.cf (i-1) (by omega)
    unfold xat at q2;omega
theorem frV_le {xs ys:List Int} {x y:Int} (hL:OkLn xs ys) (h0:xs.getD 0 0≤x) (h:x≤y) (h1:y≤xs.getD (xs.length-1) 0):frV xs ys y≤frV xs ys x:=fr_mono hL (fr_ex hL h0 (by omega)) (fr_ex hL (by omega) h1) h
end Go.Proofs.YtfchgmiiicidcaaGreat
namespace Go.Proofs.YtfchgmiiicidcaaGreat
open Go Go.TH
attribute [local irreducible] W WO pt
set_option maxRecDepth 10000
set_option maxHeartbeats 2000000
structure Tst where
 sp:Int
 lo:Int
 we:Int
 al:Int
 f0:Int
 f1:Int
 t0:Int
 t1:Int
 s0:Int
 s1:Int
 m0:Int
 m1:Int
 b0:Int
 b1:Int
 r0:Int
 r1:Int
abbrev tstV (t:Tst):Value:=.agg #[.int .i64 t.sp,.int .i64 t.lo,.int .i64 t.we,.int .i64 t.al,.int .i64 t.f0,.int .i64 t.f1,.int .i64 t.t0,.int .i64 t.t1,.int .i64 t.s0,.int .i64 t.s1,.int .i64 t.m0,.int .i64 t.m1,.int .i64 t.b0,.int .i64 t.b1,.int .i64 t.r0,.int .i64 t.r1]
structure OkTst (t:Tst):Prop where
 sp:1≤t.sp∧t.sp≤10000
 lo:1≤t.lo∧t.lo≤10000
 we:1≤t.we∧t.we≤1000000
 al:1≤t.al∧t.al≤10
 f:0≤t.f0∧t.f0≤t.f1∧t.f1≤100000000
 ta:500≤t.t0∧t.t0≤t.t1∧t.t1≤3000
 se:500≤t.s0∧t.s0≤t.s1∧t.s1≤3000
 m:0≤t.m0∧t.m0≤t.m1∧t.m1≤1000
 b:0≤t.b0∧t.b0≤t.b1∧t.b1≤200
 r:0≤t.r0∧t.r0≤t.r1∧t.r1≤2000
def moV (t:Tst) (w:Int):Int:=(t.sp*t.lo).tdiv w
def shV (t:Tst) (w:Int):Int:=(t.sp*t.lo*t.al*t.al*t.al).tdiv w
theorem mulB {a b A B:Int} (ha:0≤a∧a≤A) (hb:0≤b∧b≤B):0≤a*b∧a*b≤A*B:=⟨Int.mul_nonneg ha.1 hb.1,Int.mul_le_mul ha.2 hb.2 hb.1 (by omega)⟩
structure NumB (t:Tst):Prop where
 a:0≤t.sp*t.lo∧t.sp*t.lo≤100000000
 b:0≤t.sp*t.lo*t.al∧t.sp*t.lo*t.al≤1000000000
 c:0≤t.sp*t.lo*t.al*t.al∧t.sp*t.lo*t.al*t.al≤10000000000
 d:0≤t.sp*t.lo*t.al*t.al*t.al∧t.sp*t.lo*t.al*t.al*t.al≤100000000000
theorem OkTst.nums {t:Tst} (h:OkTst t):NumB t:=by
 have h1:=h.sp
 have h2:=h.lo
 have h3:=h.al
 have a:=mulB (a:=t.sp) (b:=t.lo) (A:=10000) (B:=10000) (by omega) (by omega)
 have b:=mulB (b:=t.al) (B:=10) a (by omega)
 have c:=mulB (b:=t.al) (B:=10) b (by omega)
 have d:=mulB (b:=t.al) (B:=10) c (by omega)
 exact ⟨by omega,by omega,by omega,by omega⟩
theorem tdivB {a b A:Int} (ha:0≤a∧a≤A) (hb:0<b):0≤a.tdiv b∧a.tdiv b≤A:=by
 have h1:=Int.tdiv_nonneg (a:=a) (b:=b) ha.1 (by omega)
 have h2:=Int.tdiv_le_self (a:=a) b ha.1
 omega
theorem moB {t:Tst} (h:OkTst t) {w:Int} (hw:500≤w):0≤moV t w∧moV t w≤100000000:=tdivB h.nums.a (by omega)
theorem shB {t:Tst} (h:OkTst t) {w:Int} (hw:500≤w):0≤shV t w∧shV t w≤100000000000:=tdivB h.nums.d (by omega)
theorem ref_within4 (w:World) (a b lo hi:Int):Ret Tryz.prog 44 [.agg #[.int .i64 a,.int .i64 b],.int .i64 lo,.int .i64 hi].toArray w (.bool (bl (lo≤a∧a≤b∧b≤hi))):=by
 refine Ret.of mixed tyTab Tryz.func44 rfl rfl (W.sreg (WO.boxA rfl rfl (fun b1 hb1=>(WO.p rfl rfl (WO.nil (W.sreg (WO.field0 rfl rfl rfl (WO.load rfl rfl (Cell.own Pick.head rfl) rfl (WO.p rfl rfl (WO.p rfl rfl (WO.p rfl rfl ?_)))))))))))
 refine WO.guard_bl rfl rfl (fun c1=>?_) (fun c1=>?_)
 ·refine WO.go' rfl (WO.field0 rfl rfl rfl (WO.go' rfl (WO.load rfl rfl (Cell.own Pick.head rfl) rfl (WO.go' rfl (WO.fieldL rfl rfl rfl (WO.go' rfl (WO.load rfl rfl (Cell.own Pick.head rfl) rfl (WO.pg rfl rfl rfl (WO.p rfl rfl (WO.p rfl rfl ?_))))))))))
  refine WO.guard_bl rfl rfl (fun c2=>?_) (fun c2=>?_)
  ·refine WO.go' rfl (WO.fieldL rfl rfl rfl (WO.go' rfl (WO.load rfl rfl (Cell.own Pick.head rfl) rfl (WO.pg rfl rfl rfl (WO.pg rfl rfl rfl (WO.p rfl rfl (WO.p rfl rfl (WO.nil (W.ret (fin.ret (Res.one rfl (RV.tmp rfl)) (congrArg Value.bool ?_)))))))))))
   (rw [bl_eq,bl_eq,decide_eq_decide];omega)
  ·refine WO.no rfl rfl (WO.no rfl rfl (WO.no rfl rfl (WO.no rfl rfl (WO.p rfl rfl (WO.p rfl rfl (WO.nil (W.ret (fin.ret (Res.one rfl (RV.tmp rfl)) (congrArg Value.bool ?_)))))))))
   exact (bl_f.2 (by omega)).symm
 ·refine WO.no rfl rfl (WO.no rfl rfl (WO.no rfl rfl (WO.no rfl rfl (WO.no rfl rfl (WO.p rfl rfl (WO.p rfl rfl (WO.no rfl rfl (WO.no rfl rfl (WO.no rfl rfl (WO.no rfl rfl (WO.p rfl rfl (WO.p rfl rfl (WO.nil (W.ret (fin.ret (Res.one rfl (RV.tmp rfl)) (congrArg Value.bool ?_))))))))))))))))
  exact (bl_f.2 (by omega)).symm
noncomputable def ckT (t:Tst):Int:=open Classical in if OkTst t then 0 else 2
theorem ckT0 {t:Tst}:ckT t=0↔OkTst t:=by
 unfold ckT
 split
 ·simp;assumption
 ·simp;assumption
theorem ckT_y {t:Tst} (h:OkTst t):ckT t=0:=ckT0.2 h
theorem ckT_n {t:Tst} (h:¬ OkTst t):ckT t=2:=by unfold ckT;rw [if_neg h]
theorem ref_CheckTest (w:World) (t:Tst):Ret Tryz.prog 14 [tstV t].toArray w (.int .i64 (ckT t)):=by
 refine Ret.of mixed tyTab Tryz.func14 rfl rfl (W.sreg (WO.boxA rfl rfl (fun b1 hb1=>(WO.p rfl rfl (WO.nil (W.seq (W.sreg (WO.field0 rfl rfl rfl (WO.load rfl rfl (Cell.own Pick.head rfl) rfl (WO.callR rfl Tryz.call43 (fun L w hi=>ref_between w _ _ _) rfl (WO.p rfl rfl (WO.p rfl rfl ?_))))))))))))
 refine WO.guard_nbl rfl rfl (fun c1=>?_) (fun c1=>?_)
 ·refine WO.no rfl rfl (WO.no rfl rfl (WO.no rfl rfl (WO.no rfl rfl (WO.p rfl rfl (WO.p rfl rfl (WO.no rfl rfl (WO.no rfl rfl (WO.no rfl rfl (WO.no rfl rfl (WO.p rfl rfl (WO.p rfl rfl (WO.no rfl rfl (WO.no rfl rfl (WO.no rfl rfl (WO.no rfl rfl (WO.p rfl rfl (WO.p rfl rfl (WO.no rfl rfl (WO.no rfl rfl (WO.no rfl rfl (WO.no rfl rfl (WO.p rfl rfl (WO.p rfl rfl (WO.no rfl rfl (WO.no rfl rfl (WO.no rfl rfl (WO.no rfl rfl (WO.p rfl rfl (WO.p rfl rfl (WO.no rfl rfl (WO.no rfl rfl (WO.no rfl rfl (WO.no rfl rfl (WO.p rfl rfl (WO.p rfl rfl ?_)))))))))))))))))))))))))))))))))))
  refine WO.no rfl rfl (WO.no rfl rfl (WO.no rfl rfl (WO.no rfl rfl (WO.p rfl rfl (WO.p rfl rfl (WO.no rfl rfl (WO.no rfl rfl (WO.no rfl rfl (WO.no rfl rfl (WO.p rfl rfl (WO.p rfl rfl (WO.no rfl rfl (WO.no rfl rfl (WO.no rfl rfl (WO.no rfl rfl (WO.p rfl rfl (WO.nil (W.cond_t rfl (W.sreg (WO.p rfl rfl (WO.nil (W.ret (fin.ret (Res.one rfl (RV.tmp rfl)) (congrArg (Value.int .i64) ?_))))))))))))))))))))))))
  exact (ckT_n (fun h=>by obtain ⟨h1,h2,h3,h4,h5,h6,h7,h8,h9,h10⟩:=h;omega)).symm
 ·refine WO.go' rfl (WO.fieldL rfl rfl rfl (WO.go' rfl (WO.load rfl rfl (Cell.own Pick.head rfl) rfl (WO.go' rfl (WO.callR rfl Tryz.call43 (fun L w hi=>ref_between w _ _ _) rfl (WO.pg rfl rfl rfl (WO.p rfl rfl (WO.p rfl rfl ?_))))))))
  refine WO.guard_nbl rfl rfl (fun c2=>?_) (fun c2=>?_)
  ·refine WO.no rfl rfl (WO.no rfl rfl (WO.no rfl rfl (WO.no rfl rfl (WO.p rfl rfl (WO.p rfl rfl (WO.no rfl rfl (WO.no rfl rfl (WO.no rfl rfl (WO.no rfl rfl (WO.p rfl rfl (WO.p rfl rfl (WO.no rfl rfl (WO.no rfl rfl (WO.no rfl rfl (WO.no rfl rfl (WO.p rfl rfl (WO.p rfl rfl (WO.no rfl rfl (WO.no rfl rfl (WO.no rfl rfl (WO.no rfl rfl (WO.p rfl rfl (WO.p rfl rfl (WO.no rfl rfl (WO.no rfl rfl (WO.no rfl rfl (WO.no rfl rfl (WO.p rfl rfl (WO.p rfl rfl (WO.no rfl rfl (WO.no rfl rfl (WO.no rfl rfl (WO.no rfl rfl (WO.p rfl rfl (WO.p rfl rfl ?_)))))))))))))))))))))))))))))))))))
   refine WO.no rfl rfl (WO.no rfl rfl (WO.no rfl rfl (WO.no rfl rfl (WO.p rfl rfl (WO.p rfl rfl (WO.no rfl rfl (WO.no rfl rfl (WO.no rfl rfl (WO.no rfl rfl (WO.p rfl rfl (WO.nil (W.cond_t rfl (W.sreg (WO.p rfl rfl (WO.nil (W.ret (fin.ret (Res.one rfl (RV.tmp rfl)) (congrArg (Value.int .i64) ?_))))))))))))))))))
   exact (ckT_n (fun h=>by obtain ⟨h1,h2,h3,h4,h5,h6,h7,h8,h9,h10⟩:=h;omega)).symm
  ·refine WO.go' rfl (WO.fieldL rfl rfl rfl (WO.go' rfl (WO.load rfl rfl (Cell.own Pick.head rfl) rfl (WO.go' rfl (WO.callR rfl Tryz.call43 (fun L w hi=>ref_between w _ _ _) rfl (WO.pg rfl rfl rfl (WO.p rfl rfl (WO.p rfl rfl ?_))))))))
   refine WO.guard_nbl rfl rfl (fun c3=>?_) (fun c3=>?_)
   ·refine WO.no rfl rfl (WO.no rfl rfl (WO.no rfl rfl (WO.no rfl rfl (WO.p rfl rfl (WO.p rfl rfl (WO.no rfl rfl (WO.no rfl rfl (WO.no rfl rfl (WO.no rfl rfl (WO.p rfl rfl (WO.p rfl rfl (WO.no rfl rfl (WO.no rfl rfl (WO.no rfl rfl (WO.no rfl rfl (WO.p rfl rfl (WO.p rfl rfl (WO.no rfl rfl (WO.no rfl rfl (WO.no rfl rfl (WO.no rfl rfl (WO.p rfl rfl (WO.p rfl rfl (WO.no rfl rfl (WO.no rfl rfl (WO.no rfl rfl (WO.no rfl rfl (WO.p rfl rfl (WO.p rfl rfl (WO.no rfl rfl (WO.no rfl rfl (WO.no rfl rfl (WO.no rfl rfl (WO.p rfl rfl (WO.p rfl rfl (WO.no rfl rfl (WO.no rfl rfl (WO.no rfl rfl (WO.no rfl rfl (WO.p rfl rfl (WO.nil (W.cond_t rfl (W.sreg ?_)))))))))))))))))))))))))))))))))))))))))))
    refine WO.p rfl rfl (WO.nil (W.ret (fin.ret (Res.one rfl (RV.tmp rfl)) (congrArg (Value.int .i64) ?_))))
    exact (ckT_n (fun h=>by obtain ⟨h1,h2,h3,h4,h5,h6,h7,h8,h9,h10⟩:=h;omega)).symm
   ·refine WO.go' rfl (WO.fieldL rfl rfl rfl (WO.go' rfl (WO.load rfl rfl (Cell.own Pick.head rfl) rfl (WO.go' rfl (WO.callR rfl Tryz.call43 (fun L w hi=>ref_between w _ _ _) rfl (WO.pg rfl rfl rfl (WO.p rfl rfl (WO.p rfl rfl ?_))))))))
    refine WO.guard_nbl rfl rfl (fun c4=>?_) (fun c4=>?_)
    ·refine WO.no rfl rfl (WO.no rfl rfl (WO.no rfl rfl (WO.no rfl rfl (WO.p rfl rfl (WO.p rfl rfl (WO.no rfl rfl (WO.no rfl rfl (WO.no rfl rfl (WO.no rfl rfl (WO.p rfl rfl (WO.p rfl rfl (WO.no rfl rfl (WO.no rfl rfl (WO.no rfl rfl (WO.no rfl rfl (WO.p rfl rfl (WO.p rfl rfl (WO.no rfl rfl (WO.no rfl rfl (WO.no rfl rfl (WO.no rfl rfl (WO.p rfl rfl (WO.p rfl rfl (WO.no rfl rfl (WO.no rfl rfl (WO.no rfl rfl (WO.no rfl rfl (WO.p rfl rfl (WO.p rfl rfl (WO.no rfl rfl (WO.no rfl rfl (WO.no rfl rfl (WO.no rfl rfl (WO.p rfl rfl (WO.nil (W.cond_t rfl (W.sreg (WO.p rfl rfl (WO.nil (W.ret ?_))))))))))))))))))))))))))))))))))))))))
     refine fin.ret (Res.one rfl (RV.tmp rfl)) (congrArg (Value.int .i64) ?_)
     exact (ckT_n (fun h=>by obtain ⟨h1,h2,h3,h4,h5,h6,h7,h8,h9,h10⟩:=h;omega)).symm
    ·refine WO.go' rfl (WO.fieldL rfl rfl rfl (WO.go' rfl (WO.loadA rfl rfl (Cells.ownAt (n:=2) Pick.head rfl) rfl rfl (WO.go' rfl (WO.callR rfl Tryz.call44 (fun L w hi=>ref_within4 w _ _ _ _) rfl (WO.pg rfl rfl rfl (WO.p rfl rfl (WO.p rfl rfl ?_))))))))
     refine WO.guard_nbl rfl rfl (fun c5=>?_) (fun c5=>?_)
     ·refine WO.no rfl rfl (WO.no rfl rfl (WO.no rfl rfl (WO.no rfl rfl (WO.p rfl rfl (WO.p rfl rfl (WO.no rfl rfl (WO.no rfl rfl (WO.no rfl rfl (WO.no rfl rfl (WO.p rfl rfl (WO.p rfl rfl (WO.no rfl rfl (WO.no rfl rfl (WO.no rfl rfl (WO.no rfl rfl (WO.p rfl rfl (WO.p rfl rfl (WO.no rfl rfl (WO.no rfl rfl (WO.no rfl rfl (WO.no rfl rfl (WO.p rfl rfl (WO.p rfl rfl (WO.no rfl rfl (WO.no rfl rfl (WO.no rfl rfl (WO.no rfl rfl (WO.p rfl rfl (WO.nil (W.cond_t rfl (W.sreg (WO.p rfl rfl (WO.nil (W.ret (fin.ret (Res.one rfl (RV.tmp rfl)) (congrArg (Value.int .i64) ?_))))))))))))))))))))))))))))))))))))
      exact (ckT_n (fun h=>by obtain ⟨h1,h2,h3,h4,h5,h6,h7,h8,h9,h10⟩:=h;omega)).symm
     ·refine WO.go' rfl (WO.fieldL rfl rfl rfl (WO.go' rfl (WO.loadA rfl rfl (Cells.ownAt (n:=2) Pick.head rfl) rfl rfl (WO.go' rfl (WO.callR rfl Tryz.call44 (fun L w hi=>ref_within4 w _ _ _ _) rfl (WO.pg rfl rfl rfl (WO.p rfl rfl (WO.p rfl rfl ?_))))))))
      refine WO.guard_nbl rfl rfl (fun c6=>?_) (fun c6=>?_)
      ·refine WO.no rfl rfl (WO.no rfl rfl (WO.no rfl rfl (WO.no rfl rfl (WO.p rfl rfl (WO.p rfl rfl (WO.no rfl rfl (WO.no rfl rfl (WO.no rfl rfl (WO.no rfl rfl (WO.p rfl rfl (WO.p rfl rfl (WO.no rfl rfl (WO.no rfl rfl (WO.no rfl rfl (WO.no rfl rfl (WO.p rfl rfl (WO.p rfl rfl (WO.no rfl rfl (WO.no rfl rfl (WO.no rfl rfl (WO.no rfl rfl (WO.p rfl rfl (WO.nil (W.cond_t rfl (W.sreg (WO.p rfl rfl (WO.nil (W.ret (fin.ret (Res.one rfl (RV.tmp rfl)) (congrArg (Value.int .i64) ?_))))))))))))))))))))))))))))))
       exact (ckT_n (fun h=>by obtain ⟨h1,h2,h3,h4,h5,h6,h7,h8,h9,h10⟩:=h;omega)).symm
      ·refine WO.go' rfl (WO.fieldL rfl rfl rfl (WO.go' rfl (WO.loadA rfl rfl (Cells.ownAt (n:=2) Pick.head rfl) rfl rfl (WO.go' rfl (WO.callR rfl Tryz.call44 (fun L w hi=>ref_within4 w _ _ _ _) rfl (WO.pg rfl rfl rfl (WO.p rfl rfl (WO.p rfl rfl ?_))))))))
       refine WO.guard_nbl rfl rfl (fun c7=>?_) (fun c7=>?_)
       ·refine WO.no rfl rfl (WO.no rfl rfl (WO.no rfl rfl (WO.no rfl rfl (WO.p rfl rfl (WO.p rfl rfl (WO.no rfl rfl (WO.no rfl rfl (WO.no rfl rfl (WO.no rfl rfl (WO.p rfl rfl (WO.p rfl rfl (WO.no rfl rfl (WO.no rfl rfl (WO.no rfl rfl (WO.no rfl rfl (WO.p rfl rfl (WO.nil (W.cond_t rfl (W.sreg (WO.p rfl rfl (WO.nil (W.ret (fin.ret (Res.one rfl (RV.tmp rfl)) (congrArg (Value.int .i64) ?_))))))))))))))))))))))))
        exact (ckT_n (fun h=>by obtain ⟨h1,h2,h3,h4,h5,h6,h7,h8,h9,h10⟩:=h;omega)).symm
       ·refine WO.go' rfl (WO.fieldL rfl rfl rfl (WO.go' rfl (WO.loadA rfl rfl (Cells.ownAt (n:=2) Pick.head rfl) rfl rfl (WO.go' rfl (WO.callR rfl Tryz.call44 (fun L w hi=>ref_within4 w _ _ _ _) rfl (WO.pg rfl rfl rfl (WO.p rfl rfl (WO.p rfl rfl ?_))))))))
        refine WO.guard_nbl rfl rfl (fun c8=>?_) (fun c8=>?_)
        ·refine WO.no rfl rfl (WO.no rfl rfl (WO.no rfl rfl (WO.no rfl rfl (WO.p rfl rfl (WO.p rfl rfl (WO.no rfl rfl (WO.no rfl rfl (WO.no rfl rfl (WO.no rfl rfl (WO.p rfl rfl (WO.nil (W.cond_t rfl (W.sreg (WO.p rfl rfl (WO.nil (W.ret (fin.ret (Res.one rfl (RV.tmp rfl)) (congrArg (Value.int .i64) ?_))))))))))))))))))
         exact (ckT_n (fun h=>by obtain ⟨h1,h2,h3,h4,h5,h6,h7,h8,h9,h10⟩:=h;omega)).symm
        ·refine WO.go' rfl (WO.fieldL rfl rfl rfl (WO.go' rfl (WO.loadA rfl rfl (Cells.ownAt (n:=2) Pick.head rfl) rfl rfl (WO.go' rfl (WO.callR rfl Tryz.call44 (fun L w hi=>ref_within4 w _ _ _ _) rfl (WO.pg rfl rfl rfl (WO.p rfl rfl (WO.p rfl rfl ?_))))))))
         refine WO.guard_nbl rfl rfl (fun c9=>?_) (fun c9=>?_)
         ·refine WO.no rfl rfl (WO.no rfl rfl (WO.no rfl rfl (WO.no rfl rfl (WO.p rfl rfl (WO.nil (W.cond_t rfl (W.sreg (WO.p rfl rfl (WO.nil (W.ret (fin.ret (Res.one rfl (RV.tmp rfl)) (congrArg (Value.int .i64) ?_))))))))))))
          exact (ckT_n (fun h=>by obtain ⟨h1,h2,h3,h4,h5,h6,h7,h8,h9,h10⟩:=h;omega)).symm
         ·refine WO.go' rfl (WO.fieldL rfl rfl rfl (WO.go' rfl (WO.loadA rfl rfl (Cells.ownAt (n:=2) Pick.head rfl) rfl rfl (WO.go' rfl (WO.callR rfl Tryz.call44 (fun L w hi=>ref_within4 w _ _ _ _) rfl (WO.pg rfl rfl rfl (WO.p rfl rfl (WO.nil ?_))))))))
          refine W.cond_nbl rfl (fun c10=>?_) (fun c10=>?_)
          ·refine W.sreg (WO.p rfl rfl (WO.nil (W.ret (fin.ret (Res.one rfl (RV.tmp rfl)) (congrArg (Value.int .i64) ?_)))))
           exact (ckT_n (fun h=>by obtain ⟨h1,h2,h3,h4,h5,h6,h7,h8,h9,h10⟩:=h;omega)).symm
          ·refine W.skip (W.sreg (WO.p rfl rfl (WO.nil (W.ret (fin.ret (Res.one rfl (RV.tmp rfl)) (congrArg (Value.int .i64) ?_))))))
           exact (ckT_y ⟨by omega,by omega,by omega,by omega,by omega,by omega,by omega,by omega,by omega,by omega⟩).symm
theorem ref_numbers (w:World) (t:Tst) (x y:Int) (h:OkTst t) (hx:500≤x∧x≤3000) (hy:500≤y∧y≤3000):Ret Tryz.prog 111 [tstV t,.int .i64 x,.int .i64 y].toArray w (.tuple #[.int .i64 (moV t x),.int .i64 (shV t y)]):=by
 refine Ret.of mixed tyTab Tryz.func111 rfl rfl ?_
 have n1:=h.nums.a
 have n2:=h.nums.b
 have n3:=h.nums.c
 have n4:=h.nums.d
 refine W.sreg (WO.boxA rfl rfl (fun b1 hb1=>(WO.p rfl rfl (WO.p rfl rfl (WO.nil (W.seq ?_))))))
 refine W.drawD 24 [.r 0 [],.b 1 [],.r 2 [],.b 3 [],.r 4 [],.r 5 [],.r 6 [],.r 7 [6],.b 8 [6],.r 9 [6],.b 10 [6],.r 11 [6],.r 12 [6],.b 13 [6],.r 14 [6],.r 15 [6],.b 16 [6],.r 17 [6],.r 18 [6],.b 19 [6],.r 20 [6],.r 21 [6],.r 22 [6],.r 23 [6]] [6] (A0:=[]) (Sub.refl _) (by kernel_rfl) ?_ ?_
 ·repeat constructor
 refine DT.r rfl rfl rfl (WO.field0 rfl rfl rfl (WO.nil ⟨rfl,rfl⟩)) (DT.b rfl rfl rfl (WO.load rfl rfl (Cell.own Pick.head rfl) rfl (WO.nil ⟨rfl,rfl⟩)) (DT.r rfl rfl rfl (WO.fieldL rfl rfl rfl (WO.nil ⟨rfl,rfl⟩)) (DT.b rfl rfl rfl (WO.load rfl rfl (Cell.own Pick.head rfl) rfl (WO.nil ⟨rfl,rfl⟩)) (DT.r rfl rfl rfl (WO.ar rfl rfl rfl (by unfold in64;omega) rfl (WO.nil ⟨rfl,rfl⟩)) (DT.r rfl rfl rfl (WO.p rfl rfl (WO.nil ⟨rfl,rfl⟩)) (DT.r rfl rfl rfl (WO.quo rfl rfl (by omega) (by have:=moB h hx.1;unfold moV at this;unfold in64;omega) rfl (WO.nil ⟨rfl,rfl⟩)) (DT.r rfl rfl rfl (WO.field0 rfl rfl rfl (WO.nil ⟨rfl,rfl⟩)) ?_)))))))
 refine DT.b rfl rfl rfl (WO.load rfl rfl (Cell.own Pick.head rfl) rfl (WO.nil ⟨rfl,rfl⟩)) (DT.r rfl rfl rfl (WO.fieldL rfl rfl rfl (WO.nil ⟨rfl,rfl⟩)) (DT.b rfl rfl rfl (WO.load rfl rfl (Cell.own Pick.head rfl) rfl (WO.nil ⟨rfl,rfl⟩)) (DT.r rfl rfl rfl (WO.ar rfl rfl rfl (by unfold in64;omega) rfl (WO.nil ⟨rfl,rfl⟩)) (DT.r rfl rfl rfl (WO.fieldL rfl rfl rfl (WO.nil ⟨rfl,rfl⟩)) (DT.b rfl rfl rfl (WO.load rfl rfl (Cell.own Pick.head rfl) rfl (WO.nil ⟨rfl,rfl⟩)) (DT.r rfl rfl rfl (WO.ar rfl rfl rfl (by unfold in64;omega) rfl (WO.nil ⟨rfl,rfl⟩)) (DT.r rfl rfl rfl (WO.fieldL rfl rfl rfl (WO.nil ⟨rfl,rfl⟩)) ?_)))))))
 refine DT.b rfl rfl rfl (WO.load rfl rfl (Cell.own Pick.head rfl) rfl (WO.nil ⟨rfl,rfl⟩)) (DT.r rfl rfl rfl (WO.ar rfl rfl rfl (by unfold in64;omega) rfl (WO.nil ⟨rfl,rfl⟩)) (DT.r rfl rfl rfl (WO.fieldL rfl rfl rfl (WO.nil ⟨rfl,rfl⟩)) (DT.b rfl rfl rfl (WO.load rfl rfl (Cell.own Pick.head rfl) rfl (WO.nil ⟨rfl,rfl⟩)) (DT.r rfl rfl rfl (WO.ar rfl rfl rfl (by unfold in64;omega) rfl (WO.nil ⟨rfl,rfl⟩)) (DT.r rfl rfl rfl (WO.p rfl rfl (WO.nil ⟨rfl,rfl⟩)) (DT.r rfl rfl rfl (WO.quo rfl rfl (by omega) (by have:=shB h hy.1;unfold shV at this;unfold in64;omega) rfl (WO.nil ⟨rfl,rfl⟩)) (DT.r rfl rfl rfl (WO.p rfl rfl (WO.nil ⟨rfl,rfl⟩)) (DT.nil [_] rfl ?_))))))))
 refine WO.p rfl rfl (WO.nil (W.ret ?_))
 exact fin.ret (Res.two rfl (RV.tmp rfl) (RV.tmp rfl)) rfl
theorem ref_Reynolds (w:World) (t:Tst) (h:OkTst t):Ret Tryz.prog 45 [tstV t].toArray w (.tuple #[.agg #[.int .i64 (moV t t.t1),.int .i64 (moV t t.t0)],.agg #[.int .i64 (shV t t.s1),.int .i64 (shV t t.s0)],.int .i64 0]):=by
 refine Ret.of mixed tyTab Tryz.func45 rfl rfl ?_
 have q1:=h.ta
 have q2:=h.se
 have hz:=ckT_y h
 refine W.sreg (WO.boxA rfl rfl (fun b1 hb1=>(WO.alloc rfl rfl rfl (fun b2 hb2=>(WO.alloc rfl rfl rfl (fun b3 hb3=>(WO.p rfl rfl (WO.nil (W.seq (W.sreg (WO.loadA rfl rfl (Cells.own (Pick.tail (Pick.tail (Pick.head)))) rfl rfl (WO.callR rfl Tryz.call14 (fun L w hi=>ref_CheckTest w t) rfl (WO.neqF rfl rfl (by omega) rfl (WO.nil (W.cond_f rfl (W.skip (W.sreg ?_)))))))))))))))))
 refine WO.loadA rfl rfl (Cells.own (Pick.tail (Pick.tail (Pick.head)))) rfl rfl (WO.fieldL rfl rfl rfl (WO.fieldL rfl rfl rfl (WO.load rfl rfl (Cell.own (Pick.tail (Pick.tail (Pick.head))) rfl) rfl (WO.fieldL rfl rfl rfl (WO.fieldL rfl rfl rfl (WO.load rfl rfl (Cell.own (Pick.tail (Pick.tail (Pick.head))) rfl) rfl (WO.callR rfl Tryz.call111 (fun L w hi=>ref_numbers w t t.t1 t.s1 h (by omega) (by omega)) rfl (WO.p rfl rfl (WO.p rfl rfl (WO.p rfl rfl (WO.p rfl rfl (WO.p rfl rfl (WO.nil (W.sreg ?_))))))))))))))
 refine WO.loadA rfl rfl (Cells.own (Pick.tail (Pick.tail (Pick.head)))) rfl rfl (WO.fieldL rfl rfl rfl (WO.field0 rfl rfl rfl (WO.load rfl rfl (Cell.own (Pick.tail (Pick.tail (Pick.head))) rfl) rfl (WO.fieldL rfl rfl rfl (WO.field0 rfl rfl rfl (WO.load rfl rfl (Cell.own (Pick.tail (Pick.tail (Pick.head))) rfl) rfl (WO.callR rfl Tryz.call111 (fun L w hi=>ref_numbers w t t.t0 t.s0 h (by omega) (by omega)) rfl (WO.p rfl rfl (WO.p rfl rfl (WO.p rfl rfl (WO.p rfl rfl (WO.p rfl rfl (WO.nil (W.sreg (WO.p rfl rfl (WO.p rfl rfl (WO.build rfl rfl rfl rfl rfl (WO.p rfl rfl (WO.p rfl rfl (WO.build rfl rfl rfl rfl rfl ?_))))))))))))))))))))
 refine WO.storeA rfl rfl rfl rfl (Pick.tail (Pick.head)) rfl rfl (WO.storeA rfl rfl rfl rfl (Pick.tail (Pick.head)) rfl rfl (WO.p rfl rfl (WO.nil (W.ret ?_))))
 exact fin.ret (Res.three rfl (RV.cell rfl rfl rfl (Cells.own (by repeat first | exact .head | apply Pick.tail))) (RV.cell rfl rfl rfl (Cells.own (by repeat exact .head))) (RV.tmp rfl)) rfl
end Go.Proofs.YtfchgmiiicidcaaGreat
namespace Go.Proofs.YtfchgmiiicidcaaGreat
open Go Go.TH
attribute [local irreducible] W WO pt
set_option maxRecDepth 10000
set_option maxHeartbeats 2000000
abbrev VV:=Value × Value
abbrev Ln:=List Int × List Int
abbrev vv0:VV:=(undef,undef)
abbrev ln0:Ln:=([],[])
def encVV (p:VV):List Value:=[p.1,p.2]
structure RdL (B:Nat) (w:World) (lv:Value) (vs:List VV) (ls:List Ln):Prop where
 out:RdF encVV 2 B w lv vs
 len:vs.length=ls.length
 x:∀ i,i<ls.length→RdF encI 1 B w (vs.getD i vv0).1 (ls.getD i ln0).1
 y:∀ i,i<ls.length→RdF encI 1 B w (vs.getD i vv0).2 (ls.getD i ln0).2
theorem RdL.sl {B:Nat} {w:World} {lv:Value} {vs:List VV} {ls:List Ln} (h:RdL B w lv vs ls):IsSl lv ls.length:=h.len▸h.out.sl
theorem RdL.later {C:Cx Tryz.prog} {H L:List HP} {w:World} {lv:Value} {vs:List VV} {ls:List Ln} (h:RdL C.B C.w0 lv vs ls) (hi:Inv C.w0 C.M (L++H) w):RdL w.heap.size w lv vs ls :=
 ⟨h.out.later hi,h.len,fun i hl=>(h.x i hl).later hi,fun i hl=>(h.y i hl).later hi⟩
theorem RdL.cell0 {C:Cx Tryz.prog} {H:List HP} {lv:Value} {vs:List VV} {ls:List Ln} (h:RdL C.B C.w0 lv vs ls) {i:Nat} (h1:i<ls.length):Cell C H (elt lv i 2) (vs.getD i vv0).1:=h.out.cell0 (i:=i) (by rw [h.len];exact h1) vv0 rfl
theorem RdL.cell1 {C:Cx Tryz.prog} {H:List HP} {lv:Value} {vs:List VV} {ls:List Ln} (h:RdL C.B C.w0 lv vs ls) {i:Nat} (h1:i<ls.length):Cell C H (prt (elt lv i 2) 1) (vs.getD i vv0).2:=h.out.cellAt (i:=i) (j:=1) (by rw [h.len];exact h1) vv0 rfl
theorem RdL.cells {C:Cx Tryz.prog} {H:List HP} {lv:Value} {vs:List VV} {ls:List Ln} (h:RdL C.B C.w0 lv vs ls) {i:Nat} (h1:i<ls.length):Cells C H (elt lv i 2) [(vs.getD i vv0).1,(vs.getD i vv0).2]:=RdF.cells h.out (by rw [h.len];exact h1) vv0
structure OkLs (ls:List Ln):Prop where
 n:1≤ls.length∧ls.length≤4
 ok:∀ i,i<ls.length→OkLn (ls.getD i ln0).1 (ls.getD i ln0).2
structure InL (t:Tst) (xs:List Int):Prop where
 a0:xs.getD 0 0≤moV t t.t1
 a1:moV t t.t0≤xs.getD (xs.length-1) 0
 b0:xs.getD 0 0≤shV t t.s1
 b1:shV t t.s0≤xs.getD (xs.length-1) 0
theorem ref_inside (w:World) (v u:Value) (xs:List Int) (x y:Int) (ho:u.oneCell'=true) (hX:RdF encI 1 w.heap.size w v xs) (hn:2≤xs.length∧xs.length≤12):Ret Tryz.prog 46 [.agg #[v,u],.agg #[.int .i64 x,.int .i64 y]].toArray w (.bool (bl (xs.getD 0 0≤x∧y≤xs.getD (xs.length-1) 0))):=by
 refine Ret.of mixed tyTab Tryz.func46 rfl rfl ?_
 replace hX:RdF encI 1 (fnCx mixed tyTab Tryz.f46.ntmps w).B (fnCx mixed tyTab Tryz.f46.ntmps w).w0 v xs:=hX
 have hxo:=hX.sl.oc
 have e1:((xs.length:Int)-1).toNat=xs.length-1:=by omega
 refine W.sreg (WO.boxA rfl rfl (fun b1 hb1=>(WO.boxA rfl rfl (fun b2 hb2=>(WO.p rfl rfl (WO.nil (W.seq ?_)))))))
 refine W.drawD 18 [.r 0 [],.b 1 [],.r 2 [],.b 3 [],.r 4 [],.b 5 [],.r 6 [],.r 7 [],.r 8 [],.b 9 [],.r 10 [],.b 11 [],.r 12 [],.b 13 [],.r 14 [],.r 15 [],.r 16 [],.b 17 []] [] (A0:=[]) (Sub.refl _) (by kernel_rfl) ?_ ?_
 ·repeat constructor
 refine DT.r rfl rfl rfl (WO.field0 rfl rfl rfl (WO.nil ⟨rfl,rfl⟩)) (DT.b rfl rfl rfl (WO.load rfl rfl (Cell.own Pick.head rfl) rfl (WO.nil ⟨rfl,rfl⟩)) (DT.r rfl rfl rfl (WO.field0 rfl rfl rfl (WO.nil ⟨rfl,rfl⟩)) (DT.b rfl rfl rfl (WO.load rfl rfl (Cell.own (Pick.tail (Pick.head)) rfl) rfl (WO.nil ⟨rfl,rfl⟩)) (DT.r rfl rfl rfl (WO.indexAddr (i:=0) rfl rfl rfl hX.sl (by omega) rfl (WO.nil ⟨rfl,rfl⟩)) ?_))))
 refine' DT.b rfl rfl rfl ?hq ?_
 case hq =>
  refine' WO.load (v:=_) rfl rfl ?hc rfl ?_
  case hc=>((refine hX.cell0 (i:=0) (by omega) 0 ?_;rfl))
  exact WO.nil ⟨rfl,rfl⟩
 refine DT.r rfl rfl rfl (WO.p rfl rfl (WO.nil ⟨rfl,rfl⟩)) ?_
 refine DT.rB rfl rfl rfl (WO.p rfl rfl (WO.nil ⟨rfl,rfl⟩)) (fun c1=>?_) (fun c1=>?_)
 ·refine DT.r rfl rfl rfl (WO.go' rfl (WO.fieldL rfl rfl rfl (WO.nil ⟨rfl,rfl⟩))) (DT.b rfl rfl rfl (WO.go' rfl (WO.load rfl rfl (Cell.own Pick.head rfl) rfl (WO.nil ⟨rfl,rfl⟩))) (DT.r rfl rfl rfl (WO.go' rfl (WO.field0 rfl rfl rfl (WO.nil ⟨rfl,rfl⟩))) (DT.b rfl rfl rfl (WO.go' rfl (WO.load rfl rfl (Cell.own (Pick.tail (Pick.head)) rfl) rfl (WO.nil ⟨rfl,rfl⟩))) (DT.r rfl rfl rfl (WO.go' rfl (WO.field0 rfl rfl rfl (WO.nil ⟨rfl,rfl⟩))) (DT.b rfl rfl rfl (WO.go' rfl (WO.load rfl rfl (Cell.own (Pick.tail (Pick.head)) rfl) rfl (WO.nil ⟨rfl,rfl⟩))) (DT.r rfl rfl rfl (WO.go' rfl (WO.len rfl rfl hX.sl rfl (WO.nil ⟨rfl,rfl⟩))) ?_))))))
  refine DT.r rfl rfl rfl (WO.go' rfl (WO.ar rfl rfl rfl (by unfold in64;omega) rfl (WO.nil ⟨rfl,rfl⟩))) ?_
  refine' DT.r rfl rfl rfl ?hq ?_
  case hq =>
   refine WO.go' rfl ?_
   refine' WO.indexAddrZ (n:=_) rfl rfl rfl ?hs ?h00 ?h1 rfl ?_
   case hs=>exact hX.sl
   case h00=>omega
   case h1=>(omega)
   exact WO.nil ⟨rfl,rfl⟩
  refine' DT.b rfl rfl rfl ?hq ?_
  case hq =>
   refine WO.go' rfl ?_
   refine' WO.load (v:=_) rfl rfl ?hc rfl ?_
   case hc=>((refine hX.cell0 (i:=((xs.length:Int)-1).toNat) (by omega) 0 ?_;(rw [e1];rfl)))
   exact WO.nil ⟨rfl,rfl⟩
  refine DT.nil [_,_] rfl (WO.pg rfl rfl rfl (WO.p rfl rfl (WO.p rfl rfl (WO.nil (W.ret (fin.ret (Res.one rfl (RV.tmp rfl)) (congrArg Value.bool ?_)))))))
  (rw [bl_eq,bl_eq,decide_eq_decide];omega)
 ·refine DT.r rfl rfl rfl (WO.no rfl rfl (WO.nil ⟨rfl,rfl⟩)) (DT.b rfl rfl rfl (WO.no rfl rfl (WO.nil ⟨rfl,rfl⟩)) (DT.r rfl rfl rfl (WO.no rfl rfl (WO.nil ⟨rfl,rfl⟩)) (DT.b rfl rfl rfl (WO.no rfl rfl (WO.nil ⟨rfl,rfl⟩)) (DT.r rfl rfl rfl (WO.no rfl rfl (WO.nil ⟨rfl,rfl⟩)) (DT.b rfl rfl rfl (WO.no rfl rfl (WO.nil ⟨rfl,rfl⟩)) (DT.r rfl rfl rfl (WO.no rfl rfl (WO.nil ⟨rfl,rfl⟩)) (DT.r rfl rfl rfl (WO.no rfl rfl (WO.nil ⟨rfl,rfl⟩)) (DT.r rfl rfl rfl (WO.no rfl rfl (WO.nil ⟨rfl,rfl⟩)) (DT.b rfl rfl rfl (WO.no rfl rfl (WO.nil ⟨rfl,rfl⟩)) (DT.nil [_,_] rfl (WO.no rfl rfl (WO.p rfl rfl (WO.p rfl rfl (WO.nil (W.ret ?_)))))))))))))))
  refine fin.ret (Res.one rfl (RV.tmp rfl)) (congrArg Value.bool ?_)
  exact (bl_f.2 (by omega)).symm
theorem ref_Lines (w:World) (lv:Value) (vs:List VV) (ls:List Ln) (hL:RdL w.heap.size w lv vs ls):RetE Tryz.prog 42 [lv].toArray w (fun r=>∃ z:Int,r=.int .i64 z∧(z=0→OkLs ls)):=by
 refine RetE.of mixed tyTab Tryz.func42 rfl rfl ?_
 replace hL:RdL (fnCx mixed tyTab Tryz.f42.ntmps w).B (fnCx mixed tyTab Tryz.f42.ntmps w).w0 lv vs ls:=hL
 have hle:=hL.sl.le
 have hlo:=hL.sl.oc
 refine W.sreg (WO.p rfl rfl (WO.nil (W.seq (W.sreg (WO.p rfl rfl (WO.len rfl rfl hL.sl rfl (WO.p rfl rfl (WO.p rfl rfl ?_))))))))
 refine WO.guard_bl rfl rfl (fun c1=>?_) (fun c1=>?_)
 ·refine WO.no rfl rfl (WO.no rfl rfl (WO.no rfl rfl (WO.p rfl rfl (WO.nil (W.cond_t rfl (W.sreg (WO.p rfl rfl (WO.nil (W.ret ?_)))))))))
  first
  | exact fin.ret (Res.one rfl (RV.tmp rfl)) ⟨_,rfl,fun h=>absurd h (by omega)⟩
  | exact fin.ret (Res.one rfl (RV.tmp rfl)) ⟨_,rfl,fun h=>absurd (hza.2 (hz h)) (by omega)⟩
  | exact fin.ret (Res.one rfl (RV.tmp rfl)) ⟨_,rfl,fun _=>by obtain rfl:i=ls.length:=(by omega);exact ⟨by omega,hok⟩⟩
 ·refine WO.pg rfl rfl rfl (WO.go' rfl (WO.len rfl rfl hL.sl rfl (WO.pg rfl rfl rfl (WO.p rfl rfl (WO.nil ?_)))))
  refine W.cond_bl rfl (fun c2=>?_) (fun c2=>?_)
  ·refine W.sreg (WO.p rfl rfl (WO.nil (W.ret ?_)))
   first
   | exact fin.ret (Res.one rfl (RV.tmp rfl)) ⟨_,rfl,fun h=>absurd h (by omega)⟩
   | exact fin.ret (Res.one rfl (RV.tmp rfl)) ⟨_,rfl,fun h=>absurd (hza.2 (hz h)) (by omega)⟩
   | exact fin.ret (Res.one rfl (RV.tmp rfl)) ⟨_,rfl,fun _=>by obtain rfl:i=ls.length:=(by omega);exact ⟨by omega,hok⟩⟩
  ·refine W.skip (W.seq (W.sreg (WO.p rfl rfl (WO.nil (W.block ?_)))))
   refine W.loop (fun (i:Nat)=>i≤ls.length∧∀ j,j<i→OkLn (ls.getD j ln0).1 (ls.getD j ln0).2)
    (fun (i:Nat)=>[(0,lv),(2,.int .i64 0),(3,.int .i64 (i:Int))])
    (fun (i:Nat)=>[])
    (fun (i:Nat)=>ls.length-i) 0
    (by exact ⟨by omega,fun j hj=>by omega⟩) ⟨rfl,rfl,rfl,trivial⟩ (by repeat (first | exact Sub.nil | refine Sub.cons (by repeat first | exact .head | apply Pick.tail) ?_)) ?_
   rintro i ⟨hi0,hok⟩
   refine W.seq (W.sreg (WO.p rfl rfl (WO.p rfl rfl (WO.len rfl rfl hL.sl rfl (WO.p rfl rfl (WO.nil ?_))))))
   refine W.cond_bl rfl (fun c3=>?_) (fun c3=>?_)
   ·refine W.skip (W.seq (W.block (W.sreg (WO.p rfl rfl (WO.p rfl rfl (WO.indexAddr rfl rfl rfl hL.sl (by omega) rfl (WO.loadA rfl rfl (hL.cells (i:=i) (by omega)) rfl rfl (WO.callE rfl Tryz.call110 (fun L w hi=>ref_CheckLine w _ _ _ _ ((hL.x i (by omega)).later hi) ((hL.y i (by omega)).later hi)) rfl ?_))))))))
    rintro _ ⟨za,rfl,hza⟩
    refine WO.p rfl rfl (WO.nil ?_)
    refine W.cond_bl rfl (fun c4=>?_) (fun c4=>?_)
    ·refine W.sreg (WO.p rfl rfl (WO.p rfl rfl (WO.indexAddr rfl rfl rfl hL.sl (by omega) rfl (WO.loadA rfl rfl (hL.cells (i:=i) (by omega)) rfl rfl (WO.callE rfl Tryz.call110 (fun L w hi=>ref_CheckLine w _ _ _ _ ((hL.x i (by omega)).later hi) ((hL.y i (by omega)).later hi)) rfl ?_)))))
     rintro _ ⟨z,rfl,hz,hz2⟩
     refine WO.p rfl rfl (WO.nil (W.ret ?_))
     first
     | exact fin.ret (Res.one rfl (RV.tmp rfl)) ⟨_,rfl,fun h=>absurd h (by omega)⟩
     | exact fin.ret (Res.one rfl (RV.tmp rfl)) ⟨_,rfl,fun h=>absurd (hza.2 (hz h)) (by omega)⟩
     | exact fin.ret (Res.one rfl (RV.tmp rfl)) ⟨_,rfl,fun _=>by obtain rfl:i=ls.length:=(by omega);exact ⟨by omega,hok⟩⟩
    ·refine W.skip (W.region (WO.p rfl rfl (WO.ar rfl rfl rfl (by unfold in64;omega) rfl (WO.p rfl rfl (WO.nil ?_)))))
     refine' ⟨i+1,?hp,?hmu,⟨rfl,rfl,rfl,trivial⟩,?hS⟩
     case hS=>repeat (first | exact Sub.nil | refine Sub.cons (by repeat first | exact .head | apply Pick.tail) ?_)
     case hp=>exact ⟨by omega,fun j hj=>by rcases Nat.lt_or_ge j i with q | q;exact hok j q;obtain rfl:j=i:=(by omega);exact hza.1 (by omega)⟩
     case hmu=>omega
   ·refine W.exit (blk_same (W.sreg (WO.p rfl rfl (WO.nil (W.ret ?_)))))
    first
    | exact fin.ret (Res.one rfl (RV.tmp rfl)) ⟨_,rfl,fun h=>absurd h (by omega)⟩
    | exact fin.ret (Res.one rfl (RV.tmp rfl)) ⟨_,rfl,fun h=>absurd (hza.2 (hz h)) (by omega)⟩
    | exact fin.ret (Res.one rfl (RV.tmp rfl)) ⟨_,rfl,fun _=>by obtain rfl:i=ls.length:=(by omega);exact ⟨by omega,hok⟩⟩
theorem c_lines04 (w:World) (lv:Value) (vs:List VV) (ls:List Ln) (hL:RdL w.heap.size w lv vs ls):RetE Tryz.prog 13 [lv].toArray w (fun r=>∃ b:Bool,r=.bool b∧(b=true→OkLs ls)):=by
 refine RetE.of mixed tyTab Tryz.func13 rfl rfl ?_
 replace hL:RdL (fnCx mixed tyTab Tryz.f13.ntmps w).B (fnCx mixed tyTab Tryz.f13.ntmps w).w0 lv vs ls:=hL
 have hle:=hL.sl.le
 have hlo:=hL.sl.oc
 refine W.sreg (WO.p rfl rfl (WO.nil (W.seq (W.sreg (WO.p rfl rfl (WO.nil (W.block ?_)))))))
 refine W.loop (fun (i:Nat)=>i≤ls.length)
  (fun (i:Nat)=>[(0,lv),(2,.bool false),(3,.int .i64 (i:Int))])
  (fun (i:Nat)=>[])
  (fun (i:Nat)=>ls.length-i) 0
  (by omega) ⟨rfl,rfl,rfl,trivial⟩ (by repeat (first | exact Sub.nil | refine Sub.cons (by repeat first | exact .head | apply Pick.tail) ?_)) ?_
 rintro i hi0
 refine W.seq (W.sreg (WO.p rfl rfl (WO.p rfl rfl (WO.len rfl rfl hL.sl rfl (WO.p rfl rfl (WO.nil ?_))))))
 refine W.cond_bl rfl (fun c1=>?_) (fun c1=>?_)
 ·refine W.skip (W.seq (W.block (W.sreg (WO.p rfl rfl (WO.p rfl rfl (WO.indexAddr rfl rfl rfl hL.sl (by omega) rfl (WO.field0 rfl rfl rfl (WO.load (v:=_) rfl rfl (hL.cell0 (i:=i) (by omega)) rfl (WO.len rfl rfl ((hL.x i (by omega)).sl) rfl (WO.p rfl rfl (WO.p rfl rfl ?_)))))))))))
  refine WO.guard_bl rfl rfl (fun c2=>?_) (fun c2=>?_)
  ·refine WO.no rfl rfl (WO.no rfl rfl (WO.no rfl rfl (WO.no rfl rfl (WO.no rfl rfl (WO.no rfl rfl (WO.no rfl rfl (WO.p rfl rfl (WO.nil (W.cond_t rfl (W.sreg (WO.p rfl rfl (WO.nil (W.ret ?_)))))))))))))
   first
   | exact fin.ret (Res.one rfl (RV.tmp rfl)) ⟨false,rfl,fun h=>by simp at h⟩
   | exact fin.ret (Res.one rfl (RV.tmp rfl)) ⟨_,rfl,fun h=>hz (bl_t.1 h)⟩
  ·refine WO.pg rfl rfl rfl (WO.pg rfl rfl rfl (WO.go' rfl (WO.indexAddr rfl rfl rfl hL.sl (by omega) rfl (WO.go' rfl (WO.field rfl rfl rfl (WO.go' rfl (WO.load (v:=_) rfl rfl (hL.cell1 (i:=i) (by omega)) rfl (WO.go' rfl (WO.len rfl rfl ((hL.y i (by omega)).sl) rfl (WO.pg rfl rfl rfl (WO.p rfl rfl (WO.nil ?_))))))))))))
   refine W.cond_bl rfl (fun c3=>?_) (fun c3=>?_)
   ·refine W.sreg (WO.p rfl rfl (WO.nil (W.ret ?_)))
    first
    | exact fin.ret (Res.one rfl (RV.tmp rfl)) ⟨false,rfl,fun h=>by simp at h⟩
    | exact fin.ret (Res.one rfl (RV.tmp rfl)) ⟨_,rfl,fun h=>hz (bl_t.1 h)⟩
   ·refine W.skip (W.region (WO.p rfl rfl (WO.ar rfl rfl rfl (by unfold in64;omega) rfl (WO.p rfl rfl (WO.nil ?_)))))
    refine' ⟨i+1,?hp,?hmu,⟨rfl,rfl,rfl,trivial⟩,?hS⟩
    case hS=>repeat (first | exact Sub.nil | refine Sub.cons (by repeat first | exact .head | apply Pick.tail) ?_)
    case hp=>omega
    case hmu=>omega
 ·refine W.exit (blk_same (W.sreg (WO.p rfl rfl (WO.len rfl rfl hL.sl rfl (WO.p rfl rfl (WO.p rfl rfl ?_))))))
  refine WO.guard_bl rfl rfl (fun c4=>?_) (fun c4=>?_)
  ·refine WO.pg rfl rfl rfl (WO.go' rfl (WO.callE rfl Tryz.call42 (fun L w hi=>ref_Lines w lv vs ls (hL.later hi)) rfl ?_))
   rintro _ ⟨z,rfl,hz⟩
   refine WO.pg rfl rfl rfl (WO.p rfl rfl (WO.p rfl rfl (WO.nil (W.ret ?_))))
   first
   | exact fin.ret (Res.one rfl (RV.tmp rfl)) ⟨false,rfl,fun h=>by simp at h⟩
   | exact fin.ret (Res.one rfl (RV.tmp rfl)) ⟨_,rfl,fun h=>hz (bl_t.1 h)⟩
  ·refine WO.no rfl rfl (WO.no rfl rfl (WO.no rfl rfl (WO.p rfl rfl (WO.p rfl rfl (WO.nil (W.ret ?_))))))
   first
   | exact fin.ret (Res.one rfl (RV.tmp rfl)) ⟨false,rfl,fun h=>by simp at h⟩
   | exact fin.ret (Res.one rfl (RV.tmp rfl)) ⟨_,rfl,fun h=>hz (bl_t.1 h)⟩
theorem ref_Reckoned (w:World) (t:Tst) (lv:Value) (vs:List VV) (ls:List Ln) (hL:RdL w.heap.size w lv vs ls) (ht:OkTst t) (hk:OkLs ls):RetE Tryz.prog 15 [tstV t,lv].toArray w (fun r=>∃ b:Bool,r=.bool b∧(b=true→∀ i,i<ls.length→InL t (ls.getD i ln0).1)):=by
 refine RetE.of mixed tyTab Tryz.func15 rfl rfl ?_
 replace hL:RdL (fnCx mixed tyTab Tryz.f15.ntmps w).B (fnCx mixed tyTab Tryz.f15.ntmps w).w0 lv vs ls:=hL
 have hle:=hL.sl.le
 have hlo:=hL.sl.oc
 have hn:=hk.n
 refine W.sreg (WO.boxA rfl rfl (fun b1 hb1=>(WO.p rfl rfl (WO.nil (W.sreg (WO.loadA rfl rfl (Cells.own Pick.head) rfl rfl (WO.callR rfl Tryz.call45 (fun L w hi=>ref_Reynolds w t ht) rfl (WO.p rfl rfl (WO.p rfl rfl (WO.p rfl rfl (WO.p rfl rfl (WO.alloc rfl rfl rfl (fun b2 hb2=>(WO.alloc rfl rfl rfl (fun b3 hb3=>(WO.storeA rfl rfl rfl rfl (Pick.tail (Pick.head)) rfl rfl (WO.storeA rfl rfl rfl rfl (Pick.tail (Pick.head)) rfl rfl (WO.p rfl rfl (WO.nil (W.seq (W.sreg (WO.p rfl rfl (WO.nil (W.block ?_))))))))))))))))))))))))
 refine W.loop (fun (i:Nat)=>i≤ls.length∧∀ j,j<i→InL t (ls.getD j ln0).1)
  (fun (i:Nat)=>[(1,lv),(4,.bool false),(5,.pointer (some ⟨b2,0,none⟩)),(6,.pointer (some ⟨b3,0,none⟩)),(8,.int .i64 (i:Int))])
  (fun (i:Nat)=>[pt b2 (.cells #[.int .i64 (moV t t.t1),.int .i64 (moV t t.t0)] 30 (0,0)),pt b3 (.cells #[.int .i64 (shV t t.s1),.int .i64 (shV t t.s0)] 30 (0,0))])
  (fun (i:Nat)=>ls.length-i) 0
  (by exact ⟨by omega,fun j hj=>by omega⟩) ⟨rfl,rfl,rfl,rfl,rfl,trivial⟩ (by repeat (first | exact Sub.nil | refine Sub.cons (by repeat first | exact .head | apply Pick.tail) ?_)) ?_
 rintro i ⟨hi0,hok⟩
 refine W.seq (W.sreg (WO.p rfl rfl (WO.p rfl rfl (WO.len rfl rfl hL.sl rfl (WO.p rfl rfl (WO.nil ?_))))))
 refine W.cond_bl rfl (fun c1=>?_) (fun c1=>?_)
 ·refine W.skip (W.seq (W.block (W.seq ?_)))
  refine W.drawD 13 [.r 0 [],.r 1 [],.r 2 [],.b 3 [],.b 4 [],.b 5 [],.r 6 [],.r 7 [],.r 8 [],.r 9 [],.r 10 [],.b 11 [],.b 12 []] [] (A0:=[]) (Sub.refl _) (by kernel_rfl) ?_ ?_
  ·repeat constructor
  refine DT.r rfl rfl rfl (WO.p rfl rfl (WO.nil ⟨rfl,rfl⟩)) (DT.r rfl rfl rfl (WO.p rfl rfl (WO.nil ⟨rfl,rfl⟩)) (DT.r rfl rfl rfl (WO.indexAddr rfl rfl rfl hL.sl (by omega) rfl (WO.nil ⟨rfl,rfl⟩)) (DT.b rfl rfl rfl (WO.loadA rfl rfl (hL.cells (i:=i) (by omega)) rfl rfl (WO.nil ⟨rfl,rfl⟩)) (DT.b rfl rfl rfl (WO.loadA rfl rfl (Cells.own Pick.head) rfl rfl (WO.nil ⟨rfl,rfl⟩)) (DT.b rfl rfl rfl (WO.callR rfl Tryz.call46 (fun L w hi=>ref_inside w _ _ _ _ _ (hL.y i (by omega)).sl.oc ((hL.x i (by omega)).later hi) (hk.ok i (by omega)).n) rfl (WO.nil ⟨rfl,rfl⟩)) (DT.r rfl rfl rfl (WO.p rfl rfl (WO.nil ⟨rfl,rfl⟩)) ?_))))))
  refine DT.rNB rfl rfl rfl (WO.p rfl rfl (WO.nil ⟨rfl,rfl⟩)) (fun c2=>?_) (fun c2=>?_)
  ·refine DT.r rfl rfl rfl (WO.no rfl rfl (WO.nil ⟨rfl,rfl⟩)) (DT.r rfl rfl rfl (WO.no rfl rfl (WO.nil ⟨rfl,rfl⟩)) (DT.r rfl rfl rfl (WO.no rfl rfl (WO.nil ⟨rfl,rfl⟩)) (DT.b rfl rfl rfl (WO.no rfl rfl (WO.nil ⟨rfl,rfl⟩)) (DT.b rfl rfl rfl (WO.no rfl rfl (WO.nil ⟨rfl,rfl⟩)) (DT.nil [_,_] rfl (WO.no rfl rfl (WO.no rfl rfl (WO.p rfl rfl (WO.nil (W.cond_t rfl (W.sreg (WO.p rfl rfl (WO.nil (W.ret ?_))))))))))))))
   first
   | exact fin.ret (Res.one rfl (RV.tmp rfl)) ⟨false,rfl,fun h=>by simp at h⟩
   | exact fin.ret (Res.one rfl (RV.tmp rfl)) ⟨true,rfl,fun _=>by obtain rfl:i=ls.length:=(by omega);exact hok⟩
  ·refine DT.r rfl rfl rfl (WO.pg rfl rfl rfl (WO.nil ⟨rfl,rfl⟩)) (DT.r rfl rfl rfl (WO.pg rfl rfl rfl (WO.nil ⟨rfl,rfl⟩)) (DT.r rfl rfl rfl (WO.go' rfl (WO.indexAddr rfl rfl rfl hL.sl (by omega) rfl (WO.nil ⟨rfl,rfl⟩))) (DT.b rfl rfl rfl (WO.go' rfl (WO.loadA rfl rfl (hL.cells (i:=i) (by omega)) rfl rfl (WO.nil ⟨rfl,rfl⟩))) (DT.b rfl rfl rfl (WO.go' rfl (WO.loadA rfl rfl (Cells.own (Pick.tail (Pick.head))) rfl rfl (WO.nil ⟨rfl,rfl⟩))) (DT.nil [_,_] rfl (WO.go' rfl (WO.callR rfl Tryz.call46 (fun L w hi=>ref_inside w _ _ _ _ _ (hL.y i (by omega)).sl.oc ((hL.x i (by omega)).later hi) (hk.ok i (by omega)).n) rfl ?_)))))))
   refine WO.pg rfl rfl rfl (WO.p rfl rfl (WO.nil ?_))
   refine W.cond_nbl rfl (fun c3=>?_) (fun c3=>?_)
   ·refine W.sreg (WO.p rfl rfl (WO.nil (W.ret ?_)))
    first
    | exact fin.ret (Res.one rfl (RV.tmp rfl)) ⟨false,rfl,fun h=>by simp at h⟩
    | exact fin.ret (Res.one rfl (RV.tmp rfl)) ⟨true,rfl,fun _=>by obtain rfl:i=ls.length:=(by omega);exact hok⟩
   ·refine W.skip (W.region (WO.p rfl rfl (WO.ar rfl rfl rfl (by unfold in64;omega) rfl (WO.p rfl rfl (WO.nil ?_)))))
    refine' ⟨i+1,?hp,?hmu,⟨rfl,rfl,rfl,rfl,rfl,trivial⟩,?hS⟩
    case hS=>repeat (first | exact Sub.nil | refine Sub.cons (by repeat exact .head) ?_)
    case hp=>exact ⟨by omega,fun j hj=>by rcases Nat.lt_or_ge j i with q | q;exact hok j q;obtain rfl:j=i:=(by omega);exact ⟨by omega,by omega,by omega,by omega⟩⟩
    case hmu=>omega
 ·refine W.exit (blk_same (W.sreg (WO.p rfl rfl (WO.nil (W.ret ?_)))))
  first
  | exact fin.ret (Res.one rfl (RV.tmp rfl)) ⟨false,rfl,fun h=>by simp at h⟩
  | exact fin.ret (Res.one rfl (RV.tmp rfl)) ⟨true,rfl,fun _=>by obtain rfl:i=ls.length:=(by omega);exact hok⟩
end Go.Proofs.YtfchgmiiicidcaaGreat
namespace Go.TH
open Go
section
variable {P:Program} {C:Cx P} {E:Env} {H:List HP} {Q:Post} {c:Code}
theorem W.loop9 {X1 X2 X3 X4 X5 X6 X7 X8 X9:Type} (p:X1→X2→X3→X4→X5→X6→X7→X8→X9→Prop) (e:X1→X2→X3→X4→X5→X6→X7→X8→X9→Env) (m:X1→X2→X3→X4→X5→X6→X7→X8→X9→List HP) (μ:X1→X2→X3→X4→X5→X6→X7→X8→X9→Nat) (x10:X1) (x20:X2) (x30:X3) (x40:X4) (x50:X5) (x60:X6) (x70:X7) (x80:X8) (x90:X9) (h0:p x10 x20 x30 x40 x50 x60 x70 x80 x90) (hE:EnvIn E (e x10 x20 x30 x40 x50 x60 x70 x80 x90)) (hH:Sub H (m x10 x20 x30 x40 x50 x60 x70 x80 x90))
    (round:∀ x1 x2 x3 x4 x5 x6 x7 x8 x9,p x1 x2 x3 x4 x5 x6 x7 x8 x9→W C c (thn (fun E' H'=>∃ x1' x2' x3' x4' x5' x6' x7' x8' x9',p x1' x2' x3' x4' x5' x6' x7' x8' x9'∧μ x1' x2' x3' x4' x5' x6' x7' x8' x9'<μ x1 x2 x3 x4 x5 x6 x7 x8 x9∧EnvIn E' (e x1' x2' x3' x4' x5' x6' x7' x8' x9')∧Sub H' (m x1' x2' x3' x4' x5' x6' x7' x8' x9')) Q) (e x1 x2 x3 x4 x5 x6 x7 x8 x9) (m x1 x2 x3 x4 x5 x6 x7 x8 x9)):W C (.loop c) Q E H :=
  W.loop (X:=X1 × X2 × X3 × X4 × X5 × X6 × X7 × X8 × X9) (fun x=>p x.1 x.2.1 x.2.2.1 x.2.2.2.1 x.2.2.2.2.1 x.2.2.2.2.2.1 x.2.2.2.2.2.2.1 x.2.2.2.2.2.2.2.1 x.2.2.2.2.2.2.2.2) (fun x=>e x.1 x.2.1 x.2.2.1 x.2.2.2.1 x.2.2.2.2.1 x.2.2.2.2.2.1 x.2.2.2.2.2.2.1 x.2.2.2.2.2.2.2.1 x.2.2.2.2.2.2.2.2) (fun x=>m x.1 x.2.1 x.2.2.1 x.2.2.2.1 x.2.2.2.2.1 x.2.2.2.2.2.1 x.2.2.2.2.2.2.1 x.2.2.2.2.2.2.2.1 x.2.2.2.2.2.2.2.2) (fun x=>μ x.1 x.2.1 x.2.2.1 x.2.2.2.1 x.2.2.2.2.1 x.2.2.2.2.2.1 x.2.2.2.2.2.2.1 x.2.2.2.2.2.2.2.1 x.2.2.2.2.2.2.2.2) (x10,x20,x30,x40,x50,x60,x70,x80,x90) h0 hE hH fun x hp=>(round x.1 x.2.1 x.2.2.1 x.2.2.2.1 x.2.2.2.2.1 x.2.2.2.2.2.1 x.2.2.2.2.2.2.1 x.2.2.2.2.2.2.2.1 x.2.2.2.2.2.2.2.2 hp).mono fun ex E' H' q=>by
    cases ex <;> first | exact q | skip
    obtain ⟨x1',x2',x3',x4',x5',x6',x7',x8',x9',qa,qb,qc,qd⟩:=q
    exact ⟨(x1',x2',x3',x4',x5',x6',x7',x8',x9'),qa,qb,qc,qd⟩
theorem W.loop10 {X1 X2 X3 X4 X5 X6 X7 X8 X9 X10:Type} (p:X1→X2→X3→X4→X5→X6→X7→X8→X9→X10→Prop) (e:X1→X2→X3→X4→X5→X6→X7→X8→X9→X10→Env) (m:X1→X2→X3→X4→X5→X6→X7→X8→X9→X10→List HP) (μ:X1→X2→X3→X4→X5→X6→X7→X8→X9→X10→Nat) (x10:X1) (x20:X2) (x30:X3) (x40:X4) (x50:X5) (x60:X6) (x70:X7) (x80:X8) (x90:X9) (x100:X10) (h0:p x10 x20 x30 x40 x50 x60 x70 x80 x90 x100) (hE:EnvIn E (e x10 x20 x30 x40 x50 x60 x70 x80 x90 x100)) (hH:Sub H (m x10 x20 x30 x40 x50 x60 x70 x80 x90 x100))
    (round:∀ x1 x2 x3 x4 x5 x6 x7 x8 x9 x10,p x1 x2 x3 x4 x5 x6 x7 x8 x9 x10→W C c (thn (fun E' H'=>∃ x1' x2' x3' x4' x5' x6' x7' x8' x9' x10',p x1' x2' x3' x4' x5' x6' x7' x8' x9' x10'∧μ x1' x2' x3' x4' x5' x6' x7' x8' x9' x10'<μ x1 x2 x3 x4 x5 x6 x7 x8 x9 x10∧EnvIn E' (e x1' x2' x3' x4' x5' x6' x7' x8' x9' x10')∧Sub H' (m x1' x2' x3' x4' x5' x6' x7' x8' x9' x10')) Q) (e x1 x2 x3 x4 x5 x6 x7 x8 x9 x10) (m x1 x2 x3 x4 x5 x6 x7 x8 x9 x10)):W C (.loop c) Q E H :=
  W.loop (X:=X1 × X2 × X3 × X4 × X5 × X6 × X7 × X8 × X9 × X10) (fun x=>p x.1 x.2.1 x.2.2.1 x.2.2.2.1 x.2.2.2.2.1 x.2.2.2.2.2.1 x.2.2.2.2.2.2.1 x.2.2.2.2.2.2.2.1 x.2.2.2.2.2.2.2.2.1 x.2.2.2.2.2.2.2.2.2) (fun x=>e x.1 x.2.1 x.2.2.1 x.2.2.2.1 x.2.2.2.2.1 x.2.2.2.2.2.1 x.2.2.2.2.2.2.1 x.2.2.2.2.2.2.2.1 x.2.2.2.2.2.2.2.2.1 x.2.2.2.2.2.2.2.2.2) (fun x=>m x.1 x.2.1 x.2.2.1 x.2.2.2.1 x.2.2.2.2.1 x.2.2.2.2.2.1 x.2.2.2.2.2.2.1 x.2.2.2.2.2.2.2.1 x.2.2.2.2.2.2.2.2.1 x.2.2.2.2.2.2.2.2.2) (fun x=>μ x.1 x.2.1 x.2.2.1 x.2.2.2.1 x.2.2.2.2.1 x.2.2.2.2.2.1 x.2.2.2.2.2.2.1 x.2.2.2.2.2.2.2.1 x.2.2.2.2.2.2.2.2.1 x.2.2.2.2.2.2.2.2.2) (x10,x20,x30,x40,x50,x60,x70,x80,x90,x100) h0 hE hH fun x hp=>(round x.1 x.2.1 x.2.2.1 x.2.2.2.1 x.2.2.2.2.1 x.2.2.2.2.2.1 x.2.2.2.2.2.2.1 x.2.2.2.2.2.2.2.1 x.2.2.2.2.2.2.2.2.1 x.2.2.2.2.2.2.2.2.2 hp).mono fun ex E' H' q=>by
    cases ex <;> first | exact q | skip
    obtain ⟨x1',x2',x3',x4',x5',x6',x7',x8',x9',x10',qa,qb,qc,qd⟩:=q
    exact ⟨(x1',x2',x3',x4',x5',x6',x7',x8',x9',x10'),qa,qb,qc,qd⟩
end
end Go.TH
namespace Go.TH
open Go
section
variable {P:Program} (w:World)
end
/-- a part of an array of one's own: n elements of one cell each -/
def WinC (e:Nat) (v:Value) (n:Nat) (cs:List Value):HP:=fun h =>
  cs.length=n∧∃ (g o cap:Nat) (cur:List Value),v=.slice (some ⟨g,o,none⟩) n cap∧n≤cap∧cap≤maxLen∧o+cap≤cur.length∧(cur.drop o).take n=cs∧pt g (.cells cur.toArray e (0,0)) h
/-- a window that began as the slice of another's array, which has no room left -/
def NowP (e b n:Nat) (ss:List Value) (v:Value) (cs:List Value):HP:=fun h =>
  (v=.slice (some ⟨b,0,none⟩) n n∧cs=ss∧OwC e 1 (.slice (some ⟨b,0,none⟩) n n) n ss h) ∨
  ∃ h1 h2,Split h h1 h2∧OwC e 1 (.slice (some ⟨b,0,none⟩) n n) n ss h1∧WinC e v n cs h2
theorem WinC.open {w0:World} {M:List Nat} {L H:List HP} {w:World} {e n:Nat} {v:Value} {cs:List Value} (h:Inv w0 M (L++WinC e v n cs::H) w) :
    cs.length=n∧∃ (g o cap:Nat) (cur:List Value),v=.slice (some ⟨g,o,none⟩) n cap∧n≤cap∧cap≤maxLen∧o+cap≤cur.length∧(cur.drop o).take n=cs∧Inv w0 M (L++pt g (.cells cur.toArray e (0,0))::H) w:=by
  have h1:=h.perm List.perm_middle
  obtain ⟨ha,hb,s,⟨hl,g,o,cap,cur,h2,h3,h4,h5,h6,h7⟩,hr⟩:=h1.mine
  refine ⟨hl,g,o,cap,cur,h2,h3,h4,h5,h6,?_⟩
  have:Inv w0 M (pt g (.cells cur.toArray e (0,0))::(L++H)) w:=⟨h1.os,h1.tape,h1.output,h1.size,h1.keep,ha,hb,s,h7,hr⟩
  exact this.perm List.perm_middle.symm
theorem WinC.shut {w0:World} {M:List Nat} {L H:List HP} {w:World} {e n g o cap:Nat} {cs cur:List Value} (hl:cs.length=n) (hn:n≤cap) (hm:cap≤maxLen) (hc:o+cap≤cur.length) (ht:(cur.drop o).take n=cs)
    (h:Inv w0 M (L++pt g (.cells cur.toArray e (0,0))::H) w):Inv w0 M (L++WinC e (.slice (some ⟨g,o,none⟩) n cap) n cs::H) w :=
  h.mono fun h hp=>⟨hl,g,o,cap,cur,rfl,hn,hm,hc,ht,hp⟩
theorem NowP.open {w0:World} {M:List Nat} {L H:List HP} {w:World} {e b n:Nat} {v:Value} {ss cs:List Value} (h:Inv w0 M (L++NowP e b n ss v cs::H) w) :
    (v=.slice (some ⟨b,0,none⟩) n n∧cs=ss∧Inv w0 M (L++OwC e 1 (.slice (some ⟨b,0,none⟩) n n) n ss::H) w) ∨
    Inv w0 M (L++OwC e 1 (.slice (some ⟨b,0,none⟩) n n) n ss::WinC e v n cs::H) w:=by
  have h1:=h.perm List.perm_middle
  obtain ⟨ha,hb,s,hc,hr⟩:=h1.mine
  rcases hc with ⟨q1,q2,q3⟩ | ⟨x,y,t,q1,q2⟩
  · refine .inl ⟨q1,q2,?_⟩
    have:Inv w0 M (OwC e 1 (.slice (some ⟨b,0,none⟩) n n) n ss::(L++H)) w:=⟨h1.os,h1.tape,h1.output,h1.size,h1.keep,ha,hb,s,q3,hr⟩
    exact this.perm List.perm_middle.symm
  · refine .inr ?_
    have:Inv w0 M (OwC e 1 (.slice (some ⟨b,0,none⟩) n n) n ss::WinC e v n cs::(L++H)) w:=by
      refine ⟨h1.os,h1.tape,h1.output,h1.size,h1.keep,?_⟩
      exact sat_join (H1:=[_,_]) s ⟨x,y,t,q1,y,fun _=>none,(split_none y).comm,q2,trivial⟩ hr
    refine this.perm ?_
    refine List.Perm.trans ?_ (List.perm_middle (l₁:=L) (l₂:=WinC e v n cs::H)).symm
    exact List.Perm.cons _ (List.perm_middle (l₁:=L) (l₂:=H)).symm
theorem NowP.start {e b n:Nat} {ss:List Value} {H H':List HP} (p:Pick (OwC e 1 (.slice (some ⟨b,0,none⟩) n n) n ss) H H'):∀ h,sat H h→sat (NowP e b n ss (.slice (some ⟨b,0,none⟩) n n) ss::H') h:=fun h hs=>by
  obtain ⟨h1,h2,s,a,r⟩:=p.sat hs
  exact ⟨h1,h2,s,.inl ⟨rfl,rfl,a⟩,r⟩
section
variable {P:Program} {C:Cx P} {E:Env} {H:List HP}
variable {ops:Array Oper} {K:KP} {rest:List Oper} {d:Nat} {ty:TypeId} {pos:String} {af:Array Edge} {x y z:Operand} {T T':TypeId}
theorem WinC.cellsI {e n:Nat} {v:Value} {cs:List Value} {L H':List HP} {w:World} (hi:Inv C.w0 C.M (L++WinC e v n cs::H') w):∀ j u,cs[j]?=some u→w.cell? ((base v).add j)=some u:=by
  intro j u hu
  obtain ⟨hl,g,o,cap,cur,rfl,h1,h2,h3,h4,hi'⟩:=WinC.open hi
  have hlook:=(hi'.look (b:=g) (o:=.cells cur.toArray e (0,0)) ((Pick.head).app L)).1
  have ea:(base (.slice (some ⟨g,o,none⟩) n cap)).add j=⟨g,o+j,none⟩:=by simp [base,Addr.add_lit]
  rw [ea]
  subst h4
  rw [List.getElem?_take] at hu
  split at hu
  · rw [List.getElem?_drop] at hu
    simp [World.cell?,hlook,hu]
  · cases hu
theorem NowP.cells {e b n:Nat} {ss:List Value} {v:Value} {cs:List Value} {H':List HP} (p:Pick (NowP e b n ss v cs) H H'):Cells C H (base v) cs:=by
  intro j u hu L w hi
  rcases NowP.open (hi.pickL p) with ⟨rfl,rfl,q⟩ | q
  · exact OwC.cells (C:=C) (.head) j u hu L w q
  · have q':Inv C.w0 C.M ((L++[OwC e 1 (.slice (some ⟨b,0,none⟩) n n) n ss])++WinC e v n cs::H') w:=by rw [List.append_assoc];exact q
    exact WinC.cellsI q' j u hu
theorem NowP.len {e b n:Nat} {ss:List Value} {v:Value} {cs:List Value} {H':List HP} (p:Pick (NowP e b n ss v cs) H H'):∀ (L:List HP) w,Inv C.w0 C.M (L++H) w→cs.length=n∧IsSl v n:=fun L w hi=>by
  rcases NowP.open (hi.pickL p) with ⟨rfl,rfl,q⟩ | q
  · obtain ⟨hl,_⟩:=OwC.open q
    exact ⟨by omega,OwC.isSl q⟩
  · have q':Inv C.w0 C.M ((L++[OwC e 1 (.slice (some ⟨b,0,none⟩) n n) n ss])++WinC e v n cs::H') w:=by rw [List.append_assoc];exact q
    obtain ⟨hl,g,o,cap,cur,rfl,h1,h2,h3,h4,hi'⟩:=WinC.open q'
    simp only [maxLen] at h2
    exact ⟨hl,by omega,_,_,rfl,fun _=>⟨_,_,rfl⟩⟩
theorem NowP.cell {e b n i:Nat} {ss:List Value} {v:Value} {cs:List Value} {H':List HP} (p:Pick (NowP e b n ss v cs) H H') (hi:i<cs.length):Cell C H (elt v i 1) (cs.getD i undef):=by
  have:=NowP.cells (C:=C) p i (cs.getD i undef) (by simp [hi])
  rw [elt_eq,Nat.mul_one]
  exact this
end
/-- the window is moved by one -/
theorem NowP.next {e b n g o c:Nat} {ss cs:List Value} {H H1 H2:List HP} (p:Pick (OwC e 1 (.slice (some ⟨b,0,none⟩) n n) n ss) H H1) (q:Pick (WinC e (.slice (some ⟨g,o,none⟩) (n+1) c) (n+1) cs) H1 H2) :
    ∀ h,sat H h→sat (NowP e b n ss (.slice (if c=1 then some ⟨g,o,none⟩ else ofs (some ⟨g,o,none⟩) (1*1)) (n+1-1) (c-1)) (cs.drop 1)::H2) h:=fun h hs=>by
  obtain ⟨h1,h2,s,a,r⟩:=p.sat hs
  obtain ⟨h3,h4,s2,a2,r2⟩:=q.sat r
  obtain ⟨r',s3,s4⟩:=split_assoc s s2
  refine ⟨r',h4,s3,.inr ⟨h1,h3,s4,a,?_⟩,r2⟩
  obtain ⟨hl,g',o',cap,cur,e1,q1,q2,q3,q4,q5⟩:=a2
  injection e1 with e1 e2 e3
  injection e1 with e1
  injection e1 with e1 e4
  subst e1;subst e4;subst e3
  refine ⟨by simp [hl],?_⟩
  by_cases h1c:c=1
  · subst h1c
    obtain rfl:n=0:=by omega
    refine ⟨g,o,0,cur,by simp,by omega,by omega,by omega,?_,q5⟩
    rw [← q4];simp
  · refine ⟨g,o+1,c-1,cur,?_,by omega,by omega,by omega,?_,q5⟩
    · rw [if_neg h1c];simp [ofs,Addr.add_lit]
    · rw [← q4,show n+1=1+n by omega,List.drop_take,List.drop_drop];simp
end Go.TH
namespace Go.Proofs.YtfchgmiiicidcaaGreat.Ch
open Go Go.TH
attribute [local irreducible] W WO pt
set_option maxRecDepth 10000
set_option maxHeartbeats 1000000
theorem c_within1 (w:World) (x top:Int) (p:Addr) (h1:Cap w p (.int .i64 top)):Ret Tryz.prog 203 [.int .i64 x,.pointer (some p)].toArray w (.bool (bl (¬ (0≤x∧x≤top)))):=by
 refine Ret.of mixed tyTab Tryz.func203 rfl rfl ?_
 replace h1:Cap (fnCx mixed tyTab Tryz.f203.ntmps w).w0 p (.int .i64 top):=h1
 refine W.sreg (WO.p rfl rfl (WO.nil (W.sreg (WO.p rfl rfl (WO.p rfl rfl (WO.p rfl rfl ?_))))))
 refine WO.guard_bl rfl rfl (fun c1=>?_) (fun c1=>?_)
 ·refine WO.no rfl rfl (WO.no rfl rfl (WO.no rfl rfl (WO.p rfl rfl (WO.p rfl rfl (WO.nil (W.ret (fin.ret (Res.one rfl (RV.tmp rfl)) (congrArg Value.bool ?_))))))))
  exact (bl_t.2 (by omega)).symm
 ·refine WO.pg rfl rfl rfl (WO.go' rfl ?_)
  refine' WO.load (v:=_) rfl rfl ?hc rfl ?_
  case hc=>(refine Cap.cell (v:=.int .i64 top) rfl h1)
  refine WO.pg rfl rfl rfl (WO.p rfl rfl (WO.p rfl rfl (WO.nil (W.ret (fin.ret (Res.one rfl (RV.tmp rfl)) (congrArg Value.bool ?_))))))
  (rw [bl_eq,bl_eq,decide_eq_decide];omega)
theorem c_IndexI (w:World) (v:Value) (xs:List Int) (top:Int) (p:Addr) (hR:RdF encI 1 w.heap.size w v xs) (h1:Cap w p (.int .i64 top)):RetE Tryz.prog 211 [v,.func (.func 203) #[] #[.pointer (some p)]].toArray w (fun r=>∃ n:Int,r=.int .i64 n∧(0≤n↔¬ ∀ x∈xs,0≤x∧x≤top)):=by
 refine RetE.of mixed tyTab Tryz.func211 rfl rfl ?_
 replace hR:RdF encI 1 (fnCx mixed tyTab Tryz.f211.ntmps w).B (fnCx mixed tyTab Tryz.f211.ntmps w).w0 v xs:=hR
 replace h1:Cap (fnCx mixed tyTab Tryz.f211.ntmps w).w0 p (.int .i64 top):=h1
 have hle:=hR.sl.le
 refine W.sreg (WO.p rfl rfl (WO.nil (W.seq (W.sreg (WO.p rfl rfl (WO.len rfl rfl hR.sl rfl (WO.p rfl rfl (WO.nil (W.block ?_)))))))))
 refine W.loop (fun (i:Nat)=>i≤xs.length∧∀ x∈xs.take i,0≤x∧x≤top)
  (fun (i:Nat)=>[(8,.int .i64 (i:Int)),(7,.int .i64 (xs.length:Int)),(0,v),(1,.func (.func 203) #[] #[.pointer (some p)])])
  (fun (i:Nat)=>[])
  (fun (i:Nat)=>xs.length-i) 0
  (by exact ⟨by omega,by simp⟩) ⟨rfl,rfl,rfl,rfl,trivial⟩ (by repeat (first | exact Sub.nil | refine Sub.cons (by repeat first | exact .head | apply Pick.tail) ?_)) ?_
 rintro i ⟨hi0,hal⟩
 refine W.sreg (WO.p rfl rfl (WO.nil (W.seq ?_)))
 refine W.cond_bl rfl (fun c1=>?_) (fun c1=>?_)
 ·refine W.skip (W.seq (W.block (W.sreg (WO.p rfl rfl (WO.p rfl rfl (WO.nil (W.sreg (WO.p rfl rfl (WO.p rfl rfl (WO.p rfl rfl (WO.indexAddr rfl rfl rfl hR.sl (by omega) rfl ?_)))))))))))
  refine' WO.load (v:=_) rfl rfl ?hc rfl ?_
  case hc=>(first | (refine hR.cell0 ?_ 0 ?_ <;> first | rfl | omega))
  refine WO.callCR (first:=[]) (captured:=[.pointer (some p)]) rfl rfl Tryz.call203 (fun L w hi'=>c_within1 w (xs.getD i 0) top p (h1.old rfl hi')) rfl (WO.nil ?_)
  refine W.cond_bl rfl (fun c2=>?_) (fun c2=>?_)
  ·refine W.sreg (WO.p rfl rfl (WO.p rfl rfl (WO.nil (W.ret ?_))))
   exact fin.ret (Res.one rfl (RV.tmp rfl)) ⟨_,rfl,by exact ⟨fun _=>not_all_getD (i:=i) (by omega) 0 (by assumption),fun _=>by omega⟩⟩
  ·refine W.skip (W.region (WO.ar rfl rfl rfl (by unfold in64;omega) rfl (WO.p rfl rfl (WO.nil ?_))))
   refine' ⟨i+1,?hp,?hmu,⟨rfl,rfl,rfl,rfl,trivial⟩,?hS⟩
   case hS=>repeat (first | exact Sub.nil | refine Sub.cons (by repeat first | exact .head | apply Pick.tail) ?_)
   case hp=>exact ⟨by omega,all_succ (by omega) 0 hal (Decidable.not_not.1 (by assumption))⟩
   case hmu=>omega
 ·refine W.exit (blk_same (W.sreg (WO.p rfl rfl (WO.nil (W.ret ?_)))))
  exact fin.ret (Res.one rfl (RV.tmp rfl)) ⟨_,rfl,by exact ⟨fun h=>by omega,fun h=>absurd (all_len (by omega) hal) h⟩⟩
theorem c_ContI (w:World) (v:Value) (xs:List Int) (top:Int) (p:Addr) (hR:RdF encI 1 w.heap.size w v xs) (h1:Cap w p (.int .i64 top)):Ret Tryz.prog 138 [v,.func (.func 203) #[] #[.pointer (some p)]].toArray w (.bool (bl (¬ ∀ x∈xs,0≤x∧x≤top))):=by
 refine Ret.of mixed tyTab Tryz.func138 rfl rfl ?_
 replace hR:RdF encI 1 (fnCx mixed tyTab Tryz.f138.ntmps w).B (fnCx mixed tyTab Tryz.f138.ntmps w).w0 v xs:=hR
 replace h1:Cap (fnCx mixed tyTab Tryz.f138.ntmps w).w0 p (.int .i64 top):=h1
 refine W.sreg (WO.p rfl rfl (WO.nil (W.sreg (WO.p rfl rfl (WO.p rfl rfl (WO.callE rfl Tryz.call211 (fun L w hi'=>c_IndexI w v xs top p (hR.later hi') (h1.old rfl hi')) rfl ?_))))))
 rintro _ ⟨n,rfl,hn⟩
 refine WO.p rfl rfl (WO.p rfl rfl (WO.nil (W.ret (fin.ret (Res.one rfl (RV.tmp rfl)) (congrArg Value.bool ?_)))))
 rw [bl_eq,bl_eq];exact decide_eq_decide.2 hn
theorem c_within (w:World) (v:Value) (xs:List Int) (top:Int) (hR:RdF encI 1 w.heap.size w v xs):Ret Tryz.prog 120 [.int .i64 top,v].toArray w (.bool (bl (∀ x∈xs,0≤x∧x≤top))):=by
 refine Ret.of mixed tyTab Tryz.func120 rfl rfl ?_
 replace hR:RdF encI 1 (fnCx mixed tyTab Tryz.f120.ntmps w).B (fnCx mixed tyTab Tryz.f120.ntmps w).w0 v xs:=hR
 refine W.sreg (WO.box1 rfl (by rfl) rfl (fun b1 hb1=>(WO.p rfl rfl (WO.nil (W.sreg (WO.p rfl rfl (WO.p rfl rfl (WO.callR rfl Tryz.call138 (fun L w hi'=>c_ContI w v xs top _ (hR.later hi') (Cap.of (b:=b1) (by repeat exact .head) rfl hi')) rfl (WO.p rfl rfl (WO.p rfl rfl (WO.nil (W.ret (fin.ret (Res.one rfl (RV.tmp rfl)) (congrArg Value.bool ?_))))))))))))))
 rcases Decidable.em (∀ x∈xs,0≤x∧x≤top) with h | h
 ·(rw [bl_t.2 h,bl_f.2 (fun g=>g h)];try rfl)
 ·(rw [bl_f.2 h,bl_t.2 h];try rfl)
def Up (l:List Int) (n:Nat):Prop:=∀ i,i<n→0<i→l.getD (i-1) 0<l.getD i 0
instance (l:List Int) (n:Nat):Decidable (Up l n):=by unfold Up;infer_instance
theorem Up.next {l:List Int} {n:Nat} (h:Up l n) (g:0<n→l.getD (n-1) 0<l.getD n 0):Up l (n+1):=fun i hi h0=>by
 rcases Nat.lt_or_ge i n with q | q
 ·exact h i q h0
 ·obtain rfl:i=n:=by omega
  exact g h0
def Ris (l:List Int):Prop:=Up l l.length∧∀ x∈l,0≤x∧x≤2000
instance (l:List Int):Decidable (Ris l):=by unfold Ris;infer_instance
theorem c_rising (w:World) (v:Value) (l:List Int) (hR:RdF encI 1 w.heap.size w v l):Ret Tryz.prog 135 [v].toArray w (.bool (bl (Ris l))):=by
 refine Ret.of mixed tyTab Tryz.func135 rfl rfl ?_
 replace hR:RdF encI 1 (fnCx mixed tyTab Tryz.f135.ntmps w).B (fnCx mixed tyTab Tryz.f135.ntmps w).w0 v l:=hR
 have hle:=hR.sl.le
 refine W.sreg (WO.p rfl rfl (WO.nil (W.seq (W.sreg (WO.p rfl rfl (WO.len rfl rfl hR.sl rfl (WO.p rfl rfl (WO.nil (W.block ?_)))))))))
 refine W.loop (fun (i:Nat)=>i≤l.length∧Up l i)
  (fun (i:Nat)=>[(7,.int .i64 (i:Int)),(6,.int .i64 (l.length:Int)),(5,v),(0,v)])
  (fun (i:Nat)=>[])
  (fun (i:Nat)=>l.length-i) 0
  (by exact ⟨by omega,fun i hi=>by omega⟩) ⟨rfl,rfl,rfl,rfl,trivial⟩ (by repeat (first | exact Sub.nil | refine Sub.cons (by repeat first | exact .head | apply Pick.tail) ?_)) ?_
 rintro i ⟨hi0,hu⟩
 refine W.sreg (WO.p rfl rfl (WO.nil (W.seq ?_)))
 refine W.cond_bl rfl (fun c1=>?_) (fun c1=>?_)
 ·refine W.skip (W.seq (W.block (W.sreg (WO.p rfl rfl (WO.indexAddr rfl rfl rfl hR.sl (by omega) rfl ?_)))))
  refine' WO.load (v:=_) rfl rfl ?hc rfl ?_
  case hc=>(first | (refine hR.cell0 (i:=i) ?_ 0 ?_ <;> first | rfl | omega))
  refine WO.p rfl rfl (WO.p rfl rfl (WO.nil (W.sreg (WO.p rfl rfl (WO.p rfl rfl (WO.p rfl rfl ?_))))))
  refine WO.guard_bl rfl rfl (fun c2=>?_) (fun c2=>?_)
  ·refine WO.pg rfl rfl rfl (WO.pg rfl rfl rfl (WO.pg rfl rfl rfl (WO.go' rfl (WO.ar rfl rfl rfl (by unfold in64;omega) rfl (WO.go' rfl ?_)))))
   refine' WO.indexAddrZ (n:=_) rfl rfl rfl ?hs ?h00 ?h1 rfl ?_
   case hs=>exact hR.sl
   case h00=>omega
   case h1=>(omega)
   refine WO.go' rfl ?_
   refine' WO.load (v:=_) rfl rfl ?hc rfl ?_
   case hc=>(first | (refine hR.cell0 (i:=((i:Int)-1).toNat) ?_ 0 ?_ <;> first | rfl | omega))
   refine WO.pg rfl rfl rfl (WO.p rfl rfl (WO.nil ?_))
   refine W.cond_bl rfl (fun c3=>?_) (fun c3=>?_)
   ·refine W.sreg (WO.p rfl rfl (WO.nil (W.ret (fin.ret (Res.one rfl (RV.tmp rfl)) (congrArg Value.bool ?_)))))
    (refine (bl_f.2 (fun h=>?_)).symm;have h1:=h.1 i (by omega) (by omega);rw [show i-1=((i:Int)-1).toNat by omega] at h1;omega)
   ·refine W.skip (W.region (WO.ar rfl rfl rfl (by unfold in64;omega) rfl (WO.p rfl rfl (WO.nil ?_))))
    refine' ⟨i+1,?hp,?hmu,⟨rfl,rfl,rfl,rfl,trivial⟩,?hS⟩
    case hS=>repeat (first | exact Sub.nil | refine Sub.cons (by repeat first | exact .head | apply Pick.tail) ?_)
    case hp=>exact ⟨by omega,hu.next fun h0=>by rw [show i-1=((i:Int)-1).toNat by omega];omega⟩
    case hmu=>omega
  ·refine WO.no rfl rfl (WO.no rfl rfl (WO.no rfl rfl (WO.no rfl rfl (WO.no rfl rfl (WO.no rfl rfl (WO.no rfl rfl (WO.p rfl rfl (WO.nil (W.cond_f rfl (W.skip (W.region (WO.ar rfl rfl rfl (by unfold in64;omega) rfl (WO.p rfl rfl (WO.nil ?_))))))))))))))
   refine' ⟨i+1,?hp,?hmu,⟨rfl,rfl,rfl,rfl,trivial⟩,?hS⟩
   case hS=>repeat (first | exact Sub.nil | refine Sub.cons (by repeat first | exact .head | apply Pick.tail) ?_)
   case hp=>exact ⟨by omega,hu.next fun h0=>by rw [show i-1=((i:Int)-1).toNat by omega];omega⟩
   case hmu=>omega
 ·refine W.exit (blk_same (W.sreg (WO.p rfl rfl (WO.callR rfl Tryz.call120 (fun L w hi=>c_within w v l 2000 (hR.later hi)) rfl (WO.p rfl rfl (WO.nil (W.ret (fin.ret (Res.one rfl (RV.tmp rfl)) (congrArg Value.bool ?_)))))))))
  (have hl:i=l.length:=(by omega);subst hl;rw [bl_eq,bl_eq,decide_eq_decide];exact ⟨fun h=>⟨hu,h⟩,fun h=>h.2⟩)
end Go.Proofs.YtfchgmiiicidcaaGreat.Ch
namespace Go.Proofs.YtfchgmiiicidcaaGreat.Ch
open Go Go.TH
attribute [local irreducible] W WO pt
set_option maxRecDepth 10000
set_option maxHeartbeats 1000000
theorem c_isNaN (w:World) (x:Int):Ret Tryz.prog 205 [.int .i64 x].toArray w (.bool false):=by
 refine Ret.of mixed tyTab Tryz.func205 rfl rfl (W.sreg (WO.p rfl rfl (WO.nil (W.sreg (WO.p rfl rfl (WO.p rfl rfl (WO.p rfl rfl (WO.p rfl rfl (WO.nil (W.ret ?_))))))))))
 exact fin.ret (Res.one rfl (RV.tmp rfl)) (congrArg Value.bool (bl_f.2 (by omega)))
theorem c_isNaN2 (w:World) (x:Int):Ret Tryz.prog 277 [.int .i64 x].toArray w (.bool false):=by
 refine Ret.of mixed tyTab Tryz.func277 rfl rfl (W.sreg (WO.p rfl rfl (WO.nil (W.sreg (WO.p rfl rfl (WO.p rfl rfl (WO.p rfl rfl (WO.p rfl rfl (WO.nil (W.ret ?_))))))))))
 exact fin.ret (Res.one rfl (RV.tmp rfl)) (congrArg Value.bool (bl_f.2 (by omega)))
theorem c_Less (w:World) (x y:Int):Ret Tryz.prog 122 [.int .i64 x,.int .i64 y].toArray w (.bool (bl (x<y))):=by
 refine Ret.of mixed tyTab Tryz.func122 rfl rfl (W.sreg (WO.p rfl rfl (WO.nil (W.sreg (WO.p rfl rfl (WO.callR rfl Tryz.call205 (fun L w hi=>c_isNaN w _) rfl (WO.p rfl rfl (WO.no rfl rfl (WO.no rfl rfl (WO.no rfl rfl (WO.p rfl rfl (WO.p rfl rfl (WO.pg rfl rfl rfl (WO.pg rfl rfl rfl (WO.pg rfl rfl rfl (WO.p rfl rfl (WO.p rfl rfl (WO.nil (W.ret (fin.ret (Res.one rfl (RV.tmp rfl)) (congrArg Value.bool ?_)))))))))))))))))))))
 rfl
def fI (l:List Int) (x:Int):Nat:=l.findIdx fun y=>decide (x≤y)
theorem Up.lt {l:List Int} {n:Nat} (h:Up l n):∀ {i j:Nat},i<j→j<n→l.getD i 0<l.getD j 0
 | i,0,hi,_=>by omega
 | i,j+1,hi,hj=>by
  have h1:=h (j+1) hj (by omega)
  rw [show j+1-1=j by omega] at h1
  rcases Nat.lt_or_ge i j with g | g
  ·have:=Up.lt h g (show j<n by omega)
   omega
  ·obtain rfl:i=j:=by omega
   exact h1
theorem fI_eq {l:List Int} {x:Int} {i:Nat} (h1:i≤l.length) (h2:∀ j,j<i→l.getD j 0<x) (h3:i<l.length→x≤l.getD i 0):i=fI l x:=by
 unfold fI
 rcases Nat.lt_or_ge i l.length with g | g
 ·refine ((List.findIdx_eq g).2 ⟨?_,fun j hj=>?_⟩).symm
  ·have:=h3 g
   rw [List.getD_eq_getElem?_getD,List.getElem?_eq_getElem g] at this
   exact decide_eq_true this
  ·have:=h2 j hj
   rw [List.getD_eq_getElem?_getD,List.getElem?_eq_getElem (by omega)] at this
   exact decide_eq_false (by simpa using this)
 ·obtain rfl:i=l.length:=by omega
  refine (List.findIdx_eq_length.2 fun y hy=>?_).symm
  obtain ⟨j,hj,rfl⟩:=List.getElem_of_mem hy
  have:=h2 j hj
  rw [List.getD_eq_getElem?_getD,List.getElem?_eq_getElem hj] at this
  exact decide_eq_false (by simpa using this)
theorem bs_l {l:List Int} {x:Int} {m:Nat} (hu:Up l l.length) (hm:m<l.length) (h:l.getD m 0<x):∀ j,j<m+1→l.getD j 0<x:=fun j hj=>by
 rcases Nat.lt_or_ge j m with g | g
 ·have:=hu.lt g hm
  omega
 ·obtain rfl:j=m:=by omega
  exact h
theorem bs_r {l:List Int} {x:Int} {m:Nat} (hu:Up l l.length) (h:¬ l.getD m 0<x):∀ j,m≤j→j<l.length→x≤l.getD j 0:=fun j hj hl=>by
 rcases Nat.lt_or_ge m j with g | g
 ·have:=hu.lt g hl
  omega
 ·obtain rfl:j=m:=by omega
  omega
theorem c_Binary (w:World) (v:Value) (l:List Int) (x:Int) (hu:Up l l.length) (hs:l.length≤1000) (hR:RdF encI 1 w.heap.size w v l):RetE Tryz.prog 204 [v,.int .i64 x].toArray w (fun r=>∃ b:Bool,r=.tuple #[.int .i64 (fI l x:Int),.bool b]):=by
 refine RetE.of mixed tyTab Tryz.func204 rfl rfl ?_
 replace hR:RdF encI 1 (fnCx mixed tyTab Tryz.f204.ntmps w).B (fnCx mixed tyTab Tryz.f204.ntmps w).w0 v l:=hR
 have hle:=hR.sl.le
 refine W.sreg (WO.p rfl rfl (WO.p rfl rfl (WO.nil (W.sreg (WO.p rfl rfl (WO.len rfl rfl hR.sl rfl (WO.p rfl rfl (WO.nil (W.sreg (WO.p rfl rfl (WO.p rfl rfl (WO.p rfl rfl (WO.nil (W.seq (W.block ?_)))))))))))))))
 refine W.loop2 (fun (za:Int) (zb:Int)=>0≤za∧(za≤zb∧zb≤l.length)∧(∀ j:Nat,(j:Int)<za→l.getD j 0<x)∧∀ j:Nat,zb≤(j:Int)→j<l.length→x≤l.getD j 0)
  (fun (za:Int) (zb:Int)=>[(8,.int .i64 zb),(7,.int .i64 za),(6,.int .i64 (l.length:Int)),(1,.int .i64 x),(0,v)])
  (fun (za:Int) (zb:Int)=>[])
  (fun (za:Int) (zb:Int)=>(zb-za).toNat) 0 (l.length:Int)
  (by exact ⟨by omega,by omega,fun j hj=>by omega,fun j h1 h2=>by omega⟩) ⟨rfl,rfl,rfl,rfl,rfl,trivial⟩ (by repeat (first | exact Sub.nil | refine Sub.cons (by repeat first | exact .head | apply Pick.tail) ?_)) ?_
 rintro za zb ⟨hz0,hab,hlt,hge⟩
 refine W.seq (W.sreg (WO.p rfl rfl (WO.p rfl rfl (WO.p rfl rfl (WO.nil ?_)))))
 refine W.cond_bl rfl (fun c1=>?_) (fun c1=>?_)
 ·refine W.skip (W.block ?_)
  obtain ⟨a,rfl⟩:=Int.eq_ofNat_of_zero_le hz0
  obtain ⟨b,rfl⟩:=Int.eq_ofNat_of_zero_le (show 0≤zb by omega)
  refine W.sreg (WO.p rfl rfl (WO.p rfl rfl (WO.ar rfl rfl rfl (by unfold in64;omega) rfl (WO.convI (b:=((a+b:Nat):Int)) rfl rfl rfl (by rw [show (a:Int)+(b:Int)=((a+b:Nat):Int) by omega];exact wrap_nat (k:=.u64) (show a+b<2 ^ 64 by omega)) rfl (WO.shrN (a:=a+b) (s:=1) rfl rfl (by decide) rfl (WO.conv64 rfl rfl rfl (by unfold in64;rw [Nat.shiftRight_eq_div_pow];omega) rfl ?_))))))
  obtain ⟨m,hm⟩:∃ m,(a+b)>>>1=m:=⟨_,rfl⟩
  have hm2:m=(a+b)/2:=by rw [← hm,Nat.shiftRight_eq_div_pow]
  rw [hm]
  refine WO.p rfl rfl (WO.nil (W.sreg (WO.p rfl rfl (WO.p rfl rfl (WO.indexAddr rfl rfl rfl hR.sl (by omega) rfl ?_)))))
  refine' WO.load (v:=_) rfl rfl ?hc rfl ?_
  case hc=>(first | (refine hR.cell0 (i:=m) ?_ 0 ?_ <;> first | rfl | omega))
  refine WO.p rfl rfl (WO.callR rfl Tryz.call122 (fun L w hi=>c_Less w _ _) rfl (WO.nil ?_))
  refine W.cond_bl rfl (fun c2=>?_) (fun c2=>?_)
  ·refine W.region (WO.p rfl rfl (WO.ar rfl rfl rfl (by unfold in64;omega) rfl (WO.p rfl rfl (WO.nil ?_))))
   refine' ⟨_,_,?hp,?hmu,⟨rfl,rfl,rfl,rfl,rfl,trivial⟩,?hS⟩
   case hS=>repeat (first | exact Sub.nil | refine Sub.cons (by repeat first | exact .head | apply Pick.tail) ?_)
   case hp=>exact ⟨by omega,by omega,fun j hj=>bs_l hu (show m<l.length by omega) (by assumption) j (by omega),hge⟩
   case hmu=>omega
  ·refine W.region (WO.p rfl rfl (WO.p rfl rfl (WO.nil ?_)))
   refine' ⟨_,_,?hp,?hmu,⟨rfl,rfl,rfl,rfl,rfl,trivial⟩,?hS⟩
   case hS=>repeat (first | exact Sub.nil | refine Sub.cons (by repeat first | exact .head | apply Pick.tail) ?_)
   case hp=>exact ⟨by omega,by omega,hlt,fun j h1 h2=>bs_r (m:=m) hu (by assumption) j (by omega) h2⟩
   case hmu=>omega
 ·refine W.exit (blk_same ?_)
  obtain ⟨a,rfl⟩:=Int.eq_ofNat_of_zero_le hz0
  refine W.sreg (WO.p rfl rfl (WO.p rfl rfl (WO.p rfl rfl (WO.p rfl rfl (WO.p rfl rfl ?_)))))
  refine WO.guard_bl rfl rfl (fun c3=>?_) (fun c3=>?_)
  ·refine WO.pg rfl rfl rfl (WO.pg rfl rfl rfl (WO.go' rfl (WO.indexAddr rfl rfl rfl hR.sl (by omega) rfl (WO.go' rfl ?_))))
   refine' WO.load (v:=_) rfl rfl ?hc rfl ?_
   case hc=>(first | (refine hR.cell0 (i:=a) ?_ 0 ?_ <;> first | rfl | omega))
   refine WO.pg rfl rfl rfl (WO.pg rfl rfl rfl (WO.pg rfl rfl rfl ?_))
   refine WO.guard_bl rfl rfl (fun c4=>?_) (fun c4=>?_)
   ·refine WO.no rfl rfl (WO.no rfl rfl (WO.no rfl rfl (WO.no rfl rfl (WO.no rfl rfl (WO.no rfl rfl (WO.no rfl rfl (WO.no rfl rfl (WO.no rfl rfl (WO.pg rfl rfl rfl (WO.p rfl rfl (WO.p rfl rfl (WO.p rfl rfl (WO.nil (W.ret ?_))))))))))))))
    (have hai:=fI_eq (l:=l) (x:=x) (i:=a) (by omega) (fun j hj=>hlt j (by omega)) (fun h=>hge a (by omega) h);rw [← hai];exact fin.ret (Res.two rfl (RV.tmp rfl) (RV.tmp rfl)) ⟨_,rfl⟩)
   ·refine WO.pg rfl rfl rfl (WO.pg rfl rfl rfl (WO.go' rfl (WO.indexAddr rfl rfl rfl hR.sl (by omega) rfl (WO.go' rfl ?_))))
    refine' WO.load (v:=_) rfl rfl ?hc rfl ?_
    case hc=>(first | (refine hR.cell0 (i:=a) ?_ 0 ?_ <;> first | rfl | omega))
    refine WO.go' rfl (WO.callR rfl Tryz.call277 (fun L w hi=>c_isNaN2 w _) rfl (WO.pg rfl rfl rfl (WO.no rfl rfl (WO.no rfl rfl (WO.pg rfl rfl rfl (WO.pg rfl rfl rfl (WO.p rfl rfl (WO.p rfl rfl (WO.p rfl rfl (WO.nil (W.ret ?_)))))))))))
    (have hai:=fI_eq (l:=l) (x:=x) (i:=a) (by omega) (fun j hj=>hlt j (by omega)) (fun h=>hge a (by omega) h);rw [← hai];exact fin.ret (Res.two rfl (RV.tmp rfl) (RV.tmp rfl)) ⟨_,rfl⟩)
  ·refine WO.no rfl rfl (WO.no rfl rfl (WO.no rfl rfl (WO.no rfl rfl (WO.no rfl rfl (WO.no rfl rfl (WO.no rfl rfl (WO.no rfl rfl (WO.no rfl rfl (WO.no rfl rfl (WO.no rfl rfl (WO.no rfl rfl (WO.no rfl rfl (WO.no rfl rfl (WO.no rfl rfl (WO.no rfl rfl (WO.no rfl rfl (WO.p rfl rfl (WO.p rfl rfl (WO.p rfl rfl (WO.nil (W.ret ?_)))))))))))))))))))))
   (have hai:=fI_eq (l:=l) (x:=x) (i:=a) (by omega) (fun j hj=>hlt j (by omega)) (fun h=>hge a (by omega) h);rw [← hai];exact fin.ret (Res.two rfl (RV.tmp rfl) (RV.tmp rfl)) ⟨_,rfl⟩)
def nbI (l:List Int) (x:Int):Nat:=fI l x-1
def On (l:List Int) (x:Int):Prop:=l.getD 0 0≤x∧fI l x<l.length
instance (l:List Int) (x:Int):Decidable (On l x):=by unfold On;infer_instance
theorem fI_le (l:List Int) (x:Int):fI l x≤l.length:=List.findIdx_le_length
theorem c_neighbour (w:World) (v:Value) (l:List Int) (x:Int) (hu:Up l l.length) (h0:0<l.length) (hs:l.length≤1000) (hR:RdF encI 1 w.heap.size w v l):Ret Tryz.prog 121 [v,.int .i64 x].toArray w (.tuple #[.int .i64 (nbI l x:Int),.bool (bl (On l x))]):=by
 refine Ret.of mixed tyTab Tryz.func121 rfl rfl ?_
 replace hR:RdF encI 1 (fnCx mixed tyTab Tryz.f121.ntmps w).B (fnCx mixed tyTab Tryz.f121.ntmps w).w0 v l:=hR
 have hle:=hR.sl.le
 have hfl:=fI_le l x
 refine W.sreg (WO.p rfl rfl (WO.p rfl rfl (WO.nil (W.sreg (WO.p rfl rfl (WO.p rfl rfl (WO.callE rfl Tryz.call204 (fun L w hi=>c_Binary w v l x hu hs (hR.later hi)) rfl ?_)))))))
 rintro _ ⟨b,rfl⟩
 refine WO.p rfl rfl (WO.p rfl rfl (WO.p rfl rfl (WO.p rfl rfl (WO.p rfl rfl (WO.nil (W.sreg (WO.p rfl rfl (WO.ar rfl rfl rfl (by unfold in64;omega) rfl (WO.max2 rfl rfl rfl ?_)))))))))
 rw [show max 0 ((fI l x:Int)-1)=(nbI l x:Int) by unfold nbI;omega]
 refine WO.p rfl rfl (WO.p rfl rfl (WO.indexAddr (i:=0) rfl rfl rfl hR.sl (by omega) rfl ?_))
 refine' WO.load (v:=_) rfl rfl ?hc rfl ?_
 case hc=>(first | (refine hR.cell0 (i:=0) ?_ 0 ?_ <;> first | rfl | omega))
 refine WO.p rfl rfl (WO.p rfl rfl ?_)
 refine WO.guard_bl rfl rfl (fun c1=>?_) (fun c1=>?_)
 ·refine WO.pg rfl rfl rfl (WO.pg rfl rfl rfl (WO.go' rfl (WO.len rfl rfl hR.sl rfl (WO.pg rfl rfl rfl (WO.p rfl rfl (WO.p rfl rfl (WO.p rfl rfl (WO.nil (W.ret (fin.ret (Res.two rfl (RV.tmp rfl) (RV.tmp rfl)) ?_))))))))))
  (rw [show bl ((fI l x:Int)<(l.length:Int))=bl (On l x) by rw [bl_eq,bl_eq,decide_eq_decide];unfold On;omega];done)
 ·refine WO.no rfl rfl (WO.no rfl rfl (WO.no rfl rfl (WO.no rfl rfl (WO.p rfl rfl (WO.p rfl rfl (WO.p rfl rfl (WO.nil (W.ret (fin.ret (Res.two rfl (RV.tmp rfl) (RV.tmp rfl)) ?_)))))))))
  (rw [show bl (On l x)=false from bl_f.2 (fun h=>by unfold On at h;omega)];done)
end Go.Proofs.YtfchgmiiicidcaaGreat.Ch
namespace Go.Proofs.YtfchgmiiicidcaaGreat.Ch
open Go Go.TH
attribute [local irreducible] W WO pt
set_option maxRecDepth 10000
set_option maxHeartbeats 1000000
abbrev Rws:=List (List (Int × Int))
structure OkC (P A:List Int) (R:Rws):Prop where
 np:2≤P.length∧P.length≤8
 na:2≤A.length∧A.length≤10
 nr:R.length=P.length
 nc:∀ r∈R,r.length=A.length
 up:Ris P
 ua:Ris A
 rg:∀ r∈R,∀ x∈r,0≤x.1∧x.1≤x.2∧x.2≤100000
 fl:∀ r∈R,∀ k,k<r.length→0<k→(r.getD k (0,0)).1≤(r.getD (k-1) (0,0)).1∧(r.getD k (0,0)).2≤(r.getD (k-1) (0,0)).2
theorem OkC.row {P A:List Int} {R:Rws} (h:OkC P A R) {i:Nat} (hi:i<R.length):(R.getD i []).length=A.length:=h.nc _ (getD_mem hi [])
theorem OkC.at_ {P A:List Int} {R:Rws} (h:OkC P A R) {i k:Nat} (hi:i<R.length) (hk:k<(R.getD i []).length):0≤((R.getD i []).getD k (0,0)).1∧((R.getD i []).getD k (0,0)).1≤((R.getD i []).getD k (0,0)).2∧((R.getD i []).getD k (0,0)).2≤100000:=h.rg _ (getD_mem hi []) _ (getD_mem hk (0,0))
theorem OkC.fall {P A:List Int} {R:Rws} (h:OkC P A R) {i k:Nat} (hi:i<R.length) (hk:k+1<(R.getD i []).length):((R.getD i []).getD (k+1) (0,0)).1≤((R.getD i []).getD k (0,0)).1∧((R.getD i []).getD (k+1) (0,0)).2≤((R.getD i []).getD k (0,0)).2:=h.fl _ (getD_mem hi []) (k+1) hk (by omega)
theorem all3 {a b c t:Int} (h1:0≤a∧a≤t) (h2:0≤b∧b≤t) (h3:0≤c∧c≤t):∀ x∈[a,b,c],0≤x∧x≤t:=by simp;omega
theorem c_row1 (w:World) (u vp va o:Value) (p:Addr) (r:List (Int × Int)) (A:List Int) (hr:RdF encP 2 w.heap.size w u r) (hC:RdC w.heap.size w p [vp,va,o]) (hA:RdF encI 1 w.heap.size w va A):Ret Tryz.prog 134 [u,.pointer (some p)].toArray w (.bool (bl ((r.length:Int)≠(A.length:Int)))):=by
 refine Ret.of mixed tyTab Tryz.func134 rfl rfl ?_
 replace hr:RdF encP 2 (fnCx mixed tyTab Tryz.f134.ntmps w).B (fnCx mixed tyTab Tryz.f134.ntmps w).w0 u r:=hr
 replace hA:RdF encI 1 (fnCx mixed tyTab Tryz.f134.ntmps w).B (fnCx mixed tyTab Tryz.f134.ntmps w).w0 va A:=hA
 replace hC:RdC (fnCx mixed tyTab Tryz.f134.ntmps w).B (fnCx mixed tyTab Tryz.f134.ntmps w).w0 p [vp,va,o]:=hC
 have hle:=hr.sl.le
 have hla:=hA.sl.le
 refine W.sreg (WO.p rfl rfl (WO.nil (W.sreg (WO.p rfl rfl (WO.len rfl rfl hr.sl rfl (WO.field rfl rfl rfl ?_))))))
 refine' WO.load (v:=_) rfl rfl ?hc rfl ?_
 case hc=>((refine hC.cellAt ?_;rfl))
 refine WO.len rfl rfl hA.sl rfl (WO.p rfl rfl (WO.p rfl rfl (WO.nil (W.ret ?_))))
 exact fin.ret (Res.one rfl (RV.tmp rfl)) rfl
theorem c_IndexR (w:World) (vp va o:Value) (p:Addr) (rv:List Value) (P A:List Int) (R:Rws) (hc:OkC P A R) (hR:RdR encP 2 w.heap.size w o rv R) (hC:RdC w.heap.size w p [vp,va,o]) (hA:RdF encI 1 w.heap.size w va A):Ret Tryz.prog 209 [o,.func (.func 134) #[] #[.pointer (some p)]].toArray w (.int .i64 (-1)):=by
 refine Ret.of mixed tyTab Tryz.func209 rfl rfl ?_
 replace hR:RdR encP 2 (fnCx mixed tyTab Tryz.f209.ntmps w).B (fnCx mixed tyTab Tryz.f209.ntmps w).w0 o rv R:=hR
 replace hA:RdF encI 1 (fnCx mixed tyTab Tryz.f209.ntmps w).B (fnCx mixed tyTab Tryz.f209.ntmps w).w0 va A:=hA
 replace hC:RdC (fnCx mixed tyTab Tryz.f209.ntmps w).B (fnCx mixed tyTab Tryz.f209.ntmps w).w0 p [vp,va,o]:=hC
 have hle:=hR.sl.le
 have hla:=hA.sl.le
 refine W.sreg (WO.p rfl rfl (WO.nil (W.seq (W.sreg (WO.p rfl rfl (WO.len rfl rfl hR.sl rfl (WO.p rfl rfl (WO.nil (W.block ?_)))))))))
 refine W.loop (fun (i:Nat)=>i≤R.length)
  (fun (i:Nat)=>[(8,.int .i64 (i:Int)),(7,.int .i64 (R.length:Int)),(0,o),(1,.func (.func 134) #[] #[.pointer (some p)])])
  (fun (i:Nat)=>[])
  (fun (i:Nat)=>R.length-i) 0
  (by omega) ⟨rfl,rfl,rfl,rfl,trivial⟩ (by repeat (first | exact Sub.nil | refine Sub.cons (by repeat first | exact .head | apply Pick.tail) ?_)) ?_
 rintro i hi0
 refine W.sreg (WO.p rfl rfl (WO.nil (W.seq ?_)))
 refine W.cond_bl rfl (fun c1=>?_) (fun c1=>?_)
 ·refine W.skip (W.seq (W.block (W.sreg (WO.p rfl rfl (WO.p rfl rfl (WO.nil (W.sreg (WO.p rfl rfl (WO.p rfl rfl (WO.p rfl rfl (WO.indexAddr rfl rfl rfl hR.sl (by omega) rfl ?_)))))))))))
  refine' WO.load (v:=_) rfl rfl ?hc rfl ?_
  case hc=>((refine hR.cellV ?_;omega))
  refine WO.callCR (r:=.bool false) (first:=[]) (captured:=[.pointer (some p)]) rfl rfl Tryz.call134 (fun L w hi'=>by have h:=c_row1 w _ vp va o p (R.getD i []) A ((hR.later hi').row i (by omega)) (hC.later hi') (hA.later hi');rw [bl_f.2 (by rw [hc.row (by omega)];exact fun h=>h rfl)] at h;exact h) rfl (WO.nil (W.cond_f rfl (W.skip (W.region (WO.ar rfl rfl rfl (by unfold in64;omega) rfl (WO.p rfl rfl (WO.nil ?_)))))))
  refine' ⟨i+1,?hp,?hmu,⟨rfl,rfl,rfl,rfl,trivial⟩,?hS⟩
  case hS=>repeat (first | exact Sub.nil | refine Sub.cons (by repeat first | exact .head | apply Pick.tail) ?_)
  case hp=>omega
  case hmu=>omega
 ·refine W.exit (blk_same (W.sreg (WO.p rfl rfl (WO.nil (W.ret ?_)))))
  exact fin.ret (Res.one rfl (RV.tmp rfl)) rfl
theorem c_ContR (w:World) (vp va o:Value) (p:Addr) (rv:List Value) (P A:List Int) (R:Rws) (hc:OkC P A R) (hR:RdR encP 2 w.heap.size w o rv R) (hC:RdC w.heap.size w p [vp,va,o]) (hA:RdF encI 1 w.heap.size w va A):Ret Tryz.prog 133 [o,.func (.func 134) #[] #[.pointer (some p)]].toArray w (.bool false):=by
 refine Ret.of mixed tyTab Tryz.func133 rfl rfl ?_
 replace hR:RdR encP 2 (fnCx mixed tyTab Tryz.f133.ntmps w).B (fnCx mixed tyTab Tryz.f133.ntmps w).w0 o rv R:=hR
 replace hA:RdF encI 1 (fnCx mixed tyTab Tryz.f133.ntmps w).B (fnCx mixed tyTab Tryz.f133.ntmps w).w0 va A:=hA
 replace hC:RdC (fnCx mixed tyTab Tryz.f133.ntmps w).B (fnCx mixed tyTab Tryz.f133.ntmps w).w0 p [vp,va,o]:=hC
 refine W.sreg (WO.p rfl rfl (WO.nil (W.sreg (WO.p rfl rfl (WO.p rfl rfl (WO.callR rfl Tryz.call209 (fun L w hi=>c_IndexR w vp va o p rv P A R hc (hR.later hi) (hC.later hi) (hA.later hi)) rfl (WO.p rfl rfl (WO.p rfl rfl (WO.nil (W.ret ?_))))))))))
 exact fin.ret (Res.one rfl (RV.tmp rfl)) (congrArg Value.bool (bl_f.2 (by omega)))
theorem c_CheckChart (w:World) (vp va o:Value) (rv:List Value) (P A:List Int) (R:Rws) (hc:OkC P A R) (hP:RdF encI 1 w.heap.size w vp P) (hA:RdF encI 1 w.heap.size w va A) (hR:RdR encP 2 w.heap.size w o rv R):Ret Tryz.prog 70 [.agg #[vp,va,o]].toArray w (.int .i64 0):=by
 refine Ret.of mixed tyTab Tryz.func70 rfl rfl ?_
 replace hR:RdR encP 2 (fnCx mixed tyTab Tryz.f70.ntmps w).B (fnCx mixed tyTab Tryz.f70.ntmps w).w0 o rv R:=hR
 replace hP:RdF encI 1 (fnCx mixed tyTab Tryz.f70.ntmps w).B (fnCx mixed tyTab Tryz.f70.ntmps w).w0 vp P:=hP
 replace hA:RdF encI 1 (fnCx mixed tyTab Tryz.f70.ntmps w).B (fnCx mixed tyTab Tryz.f70.ntmps w).w0 va A:=hA
 have hle:=hR.sl.le
 have hnp:=hc.np
 have hna:=hc.na
 have hnr:=hc.nr
 refine W.sreg (WO.boxA rfl rfl (fun b1 hb1=>(WO.p rfl rfl (WO.nil (W.seq (W.block (W.sreg (WO.field0 rfl rfl rfl (WO.load rfl rfl (Cell.own Pick.head rfl) rfl (WO.len rfl rfl hP.sl rfl (WO.p rfl rfl (WO.p rfl rfl ?_))))))))))))
 refine WO.guard_bl rfl rfl (fun c1=>?_) (fun c1=>?_)
 ·exfalso;omega
 ·refine WO.go' rfl (WO.field0 rfl rfl rfl (WO.go' rfl (WO.load rfl rfl (Cell.own Pick.head rfl) rfl (WO.go' rfl (WO.len rfl rfl hP.sl rfl (WO.pg rfl rfl rfl (WO.p rfl rfl (WO.p rfl rfl ?_))))))))
  refine WO.guard_bl rfl rfl (fun c2=>?_) (fun c2=>?_)
  ·exfalso;omega
  ·refine WO.go' rfl (WO.fieldL rfl rfl rfl (WO.go' rfl (WO.load rfl rfl (Cell.own Pick.head rfl) rfl (WO.go' rfl (WO.len rfl rfl hA.sl rfl (WO.pg rfl rfl rfl (WO.p rfl rfl (WO.p rfl rfl ?_))))))))
   refine WO.guard_bl rfl rfl (fun c3=>?_) (fun c3=>?_)
   ·exfalso;omega
   ·refine WO.go' rfl (WO.fieldL rfl rfl rfl (WO.go' rfl (WO.load rfl rfl (Cell.own Pick.head rfl) rfl (WO.go' rfl (WO.len rfl rfl hA.sl rfl (WO.pg rfl rfl rfl (WO.p rfl rfl (WO.p rfl rfl (WO.nil ?_)))))))))
    refine W.cond_bl rfl (fun c4=>?_) (fun c4=>?_)
    ·exfalso;omega
    ·refine W.sreg (WO.fieldL rfl rfl rfl (WO.load rfl rfl (Cell.own Pick.head rfl) rfl (WO.len rfl rfl hR.sl rfl (WO.field0 rfl rfl rfl (WO.load rfl rfl (Cell.own Pick.head rfl) rfl (WO.len rfl rfl hP.sl rfl (WO.p rfl rfl (WO.p rfl rfl ?_))))))))
     refine WO.guard_bl rfl rfl (fun c5=>?_) (fun c5=>?_)
     ·exfalso;omega
     ·refine WO.go' rfl (WO.fieldL rfl rfl rfl (WO.go' rfl (WO.load rfl rfl (Cell.own Pick.head rfl) rfl (WO.pg rfl rfl rfl (WO.go' rfl (WO.callR rfl Tryz.call133 (fun L w hi=>c_ContR w vp va o ⟨b1,0,none⟩ rv P A R hc (hR.later hi) (RdC.own (by repeat exact .head) hi) (hA.later hi)) rfl (WO.p rfl rfl (WO.p rfl rfl (WO.nil (W.cond_f rfl (W.sreg (WO.field0 rfl rfl rfl (WO.load rfl rfl (Cell.own Pick.head rfl) rfl (WO.callR (r:=.bool true) rfl Tryz.call135 (fun L w hi=>by have h:=c_rising w vp P (hP.later hi);rw [bl_t.2 hc.up] at h;exact h) rfl ?_))))))))))))))
      refine WO.p rfl rfl (WO.p rfl rfl (WO.go' rfl (WO.fieldL rfl rfl rfl (WO.go' rfl (WO.load rfl rfl (Cell.own Pick.head rfl) rfl (WO.go' rfl (WO.callR (r:=.bool true) rfl Tryz.call135 (fun L w hi=>by have h:=c_rising w va A (hA.later hi);rw [bl_t.2 hc.ua] at h;exact h) rfl (WO.pg rfl rfl rfl (WO.p rfl rfl (WO.p rfl rfl (WO.nil (W.cond_f rfl (W.skip (W.sreg (WO.p rfl rfl (WO.nil (W.seq (W.sreg (WO.fieldL rfl rfl rfl (WO.load rfl rfl (Cell.own Pick.head rfl) rfl (WO.len rfl rfl hR.sl rfl (WO.p rfl rfl (WO.nil (W.block ?_))))))))))))))))))))))))
      refine W.loop (fun (i:Nat)=>i≤R.length)
       (fun (i:Nat)=>[(60,.int .i64 (i:Int)),(59,.int .i64 (R.length:Int)),(58,o),(3,.bool true),(1,.pointer (some ⟨b1,0,none⟩))])
       (fun (i:Nat)=>[pt b1 (.cells #[vp,va,o] 25 (0,0))])
       (fun (i:Nat)=>R.length-i) 0
       (by omega) ⟨rfl,rfl,rfl,rfl,rfl,trivial⟩ (by repeat (first | exact Sub.nil | refine Sub.cons (by repeat exact .head) ?_)) ?_
      rintro i hi0
      refine W.sreg (WO.p rfl rfl (WO.nil (W.seq ?_)))
      refine W.cond_bl rfl (fun c6=>?_) (fun c6=>?_)
      ·refine W.skip (W.seq (W.block (W.sreg (WO.indexAddr rfl rfl rfl hR.sl (by omega) rfl ?_))))
       refine' WO.load (v:=_) rfl rfl ?hc rfl ?_
       case hc=>((refine hR.cellV ?_;omega))
       refine WO.p rfl rfl (WO.nil (W.sreg (WO.build rfl rfl rfl rfl rfl (WO.alloc rfl rfl rfl (fun b2 hb2=>(WO.storeA rfl rfl rfl rfl Pick.head rfl rfl (WO.nil (W.sreg (WO.p rfl rfl ?_)))))))))
       refine' WO.len (n:=_) rfl rfl ?hs rfl ?_
       case hs=>((refine (hR.row i ?_).sl;omega))
       refine WO.p rfl rfl (WO.nil (W.block ?_))
       refine W.loop3 (fun (k:Nat) (y:Int) (z:Int)=>k≤(R.getD i []).length∧(k<(R.getD i []).length→((R.getD i []).getD k (0,0)).1≤y∧((R.getD i []).getD k (0,0)).2≤z))
        (fun (k:Nat) (y:Int) (z:Int)=>[(67,.int .i64 (k:Int)),(66,.int .i64 ((R.getD i []).length:Int)),(65,rv.getD i undef),(60,.int .i64 (i:Int)),(59,.int .i64 (R.length:Int)),(58,o),(6,.pointer (some ⟨b2,0,none⟩)),(3,.bool true),(1,.pointer (some ⟨b1,0,none⟩))])
        (fun (k:Nat) (y:Int) (z:Int)=>[pt b2 (.cells #[.int .i64 y,.int .i64 z] 30 (0,0)),pt b1 (.cells #[vp,va,o] 25 (0,0))])
        (fun (k:Nat) (y:Int) (z:Int)=>(R.getD i []).length-k) 0 100000 100000
        (by exact ⟨by omega,fun hk=>by have:=hc.at_ (show i<R.length by omega) hk;omega⟩) ⟨rfl,rfl,rfl,rfl,rfl,rfl,rfl,rfl,rfl,trivial⟩ (by repeat (first | exact Sub.nil | refine Sub.cons (by repeat exact .head) ?_)) ?_
       rintro k y z ⟨hk0,hyz⟩
       refine W.sreg (WO.p rfl rfl (WO.nil (W.seq ?_)))
       refine W.cond_bl rfl (fun c7=>?_) (fun c7=>?_)
       ·refine W.skip (W.seq (W.block (W.sreg ?_)))
        refine' WO.indexAddr (n:=_) (i:=_) rfl rfl rfl ?hs ?h1 rfl ?_
        case hs=>((refine (hR.row i ?_).sl;omega))
        case h1=>(omega)
        refine' WO.loadA (vs:=_) rfl rfl ?hc ?hl rfl ?_
        case hc=>((refine (hR.row i ?_).cells ?_ (0,0) <;> omega))
        case hl=>rfl
        refine WO.alloc rfl rfl rfl (fun b3 hb3=>(WO.storeA rfl rfl rfl rfl Pick.head rfl rfl (WO.nil (W.seq ?_))))
        have hrw:=hc.row (show i<R.length by omega)
        have hx:=hc.at_ (show i<R.length by omega) (show k<(R.getD i []).length by omega)
        refine W.sreg (WO.field0 rfl rfl rfl (WO.load rfl rfl (Cell.own Pick.head rfl) rfl (WO.fieldL rfl rfl rfl (WO.load rfl rfl (Cell.own Pick.head rfl) rfl (WO.fieldL rfl rfl rfl (WO.load rfl rfl (Cell.own Pick.head rfl) rfl (WO.field0 rfl rfl rfl (WO.load rfl rfl (Cell.own Pick.head rfl) rfl (WO.ar rfl rfl rfl (by unfold in64;omega) rfl (WO.buildSl rfl rfl rfl rfl rfl rfl rfl rfl rfl (fun v4=>?_)))))))))))
        refine WO.callR (r:=.bool true) rfl Tryz.call120 (fun L w hi=>by have h:=c_within w _ [((R.getD i []).getD k (0,0)).1,((R.getD i []).getD k (0,0)).2,((R.getD i []).getD k (0,0)).2-((R.getD i []).getD k (0,0)).1] 100000 (RdF.of_ow (e:=2) encI_ok (by repeat exact .head) hi);rw [bl_t.2 (all3 (by omega) (by omega) (by omega))] at h;exact h) rfl (WO.p rfl rfl (WO.nil (W.cond_f rfl (W.skip (W.sreg ?_)))))
        refine WO.p rfl rfl (WO.p rfl rfl (WO.go' rfl (WO.field0 rfl rfl rfl (WO.go' rfl (WO.load rfl rfl (Cell.own (Pick.tail (Pick.head)) rfl) rfl (WO.go' rfl (WO.field0 rfl rfl rfl (WO.go' rfl (WO.load rfl rfl (Cell.own (Pick.tail (Pick.tail (Pick.head))) rfl) rfl (WO.go' rfl (WO.leqT rfl rfl (by omega) rfl (WO.p rfl rfl (WO.p rfl rfl (WO.go' rfl (WO.fieldL rfl rfl rfl (WO.go' rfl (WO.load rfl rfl (Cell.own (Pick.tail (Pick.head)) rfl) rfl (WO.go' rfl (WO.fieldL rfl rfl rfl (WO.go' rfl (WO.load rfl rfl (Cell.own (Pick.tail (Pick.tail (Pick.head))) rfl) rfl (WO.go' rfl (WO.leqT rfl rfl (by omega) rfl (WO.p rfl rfl (WO.p rfl rfl (WO.nil ?_))))))))))))))))))))))))))
        refine W.region (WO.loadA rfl rfl (Cells.own (Pick.tail (Pick.head))) rfl rfl (WO.storeA rfl rfl rfl rfl (Pick.tail (Pick.tail (Pick.head))) rfl rfl (WO.nil (W.region (WO.ar rfl rfl rfl (by unfold in64;omega) rfl (WO.p rfl rfl (WO.nil ?_)))))))
        refine' ⟨k+1,_,_,?hp,?hmu,⟨rfl,rfl,rfl,rfl,rfl,rfl,rfl,rfl,rfl,trivial⟩,?hS⟩
        case hS=>repeat (first | exact Sub.nil | refine Sub.cons (by repeat first | exact .head | apply Pick.tail) ?_)
        case hp=>exact ⟨by omega,fun hk=>hc.fall (show i<R.length by omega) hk⟩
        case hmu=>omega
       ·refine W.exit (blk_same (W.region (WO.ar rfl rfl rfl (by unfold in64;omega) rfl (WO.p rfl rfl (WO.nil ?_)))))
        refine' ⟨i+1,?hp,?hmu,⟨rfl,rfl,rfl,rfl,rfl,trivial⟩,?hS⟩
        case hS=>repeat (first | exact Sub.nil | refine Sub.cons (by repeat first | exact .head | apply Pick.tail) ?_)
        case hp=>omega
        case hmu=>omega
      ·refine W.exit (blk_same (W.seq (W.sreg (WO.p rfl rfl (WO.p rfl rfl (WO.nil (W.cond_f rfl (W.skip (W.sreg (WO.p rfl rfl (WO.nil (W.ret ?_))))))))))))
       exact fin.ret (Res.one rfl (RV.tmp rfl)) rfl
end Go.Proofs.YtfchgmiiicidcaaGreat.Ch
namespace Go.Proofs.YtfchgmiiicidcaaGreat.Ch
open Go Go.TH
attribute [local irreducible] W WO pt
set_option maxRecDepth 10000
set_option maxHeartbeats 1000000
theorem c_on1 (w:World) (vp va o:Value) (q:Addr) (P A:List Int) (R:Rws) (x:Int × Int) (hc:OkC P A R) (hx:On P x.1∧On A x.2) (hC:RdC w.heap.size w q [vp,va,o]) (hP:RdF encI 1 w.heap.size w vp P) (hA:RdF encI 1 w.heap.size w va A):Ret Tryz.prog 137 [.agg #[.int .i64 x.1,.int .i64 x.2],.pointer (some q)].toArray w (.bool false):=by
 refine Ret.of mixed tyTab Tryz.func137 rfl rfl ?_
 replace hP:RdF encI 1 (fnCx mixed tyTab Tryz.f137.ntmps w).B (fnCx mixed tyTab Tryz.f137.ntmps w).w0 vp P:=hP
 replace hA:RdF encI 1 (fnCx mixed tyTab Tryz.f137.ntmps w).B (fnCx mixed tyTab Tryz.f137.ntmps w).w0 va A:=hA
 replace hC:RdC (fnCx mixed tyTab Tryz.f137.ntmps w).B (fnCx mixed tyTab Tryz.f137.ntmps w).w0 q [vp,va,o]:=hC
 have hnp:=hc.np
 have hna:=hc.na
 refine W.sreg (WO.boxA rfl rfl (fun b1 hb1=>(WO.p rfl rfl (WO.nil (W.sreg (WO.field0 rfl rfl rfl (WO.field0 rfl rfl rfl ?_)))))))
 refine' WO.load (v:=_) rfl rfl ?hc rfl ?_
 case hc=>(first | (refine hC.cell0 ?_;rfl))
 refine WO.field0 rfl rfl rfl (WO.load rfl rfl (Cell.own Pick.head rfl) rfl (WO.callR (r:=.tuple #[.int .i64 (nbI P x.1:Int),.bool true]) rfl Tryz.call121 (fun L w hi=>by have h:=c_neighbour w vp P x.1 hc.up.1 (by omega) (by omega) (hP.later hi);rw [bl_t.2 hx.1] at h;exact h) rfl (WO.p rfl rfl (WO.p rfl rfl (WO.p rfl rfl (WO.p rfl rfl (WO.p rfl rfl (WO.nil (W.sreg (WO.field0 rfl rfl rfl (WO.field rfl rfl rfl ?_)))))))))))
 refine' WO.load (v:=_) rfl rfl ?hc rfl ?_
 case hc=>(first | (refine hC.cellAt ?_;rfl))
 refine WO.fieldL rfl rfl rfl (WO.load rfl rfl (Cell.own Pick.head rfl) rfl (WO.callR (r:=.tuple #[.int .i64 (nbI A x.2:Int),.bool true]) rfl Tryz.call121 (fun L w hi=>by have h:=c_neighbour w va A x.2 hc.ua.1 (by omega) (by omega) (hA.later hi);rw [bl_t.2 hx.2] at h;exact h) rfl (WO.p rfl rfl (WO.p rfl rfl (WO.p rfl rfl (WO.p rfl rfl (WO.p rfl rfl (WO.nil (W.sreg (WO.p rfl rfl (WO.p rfl rfl (WO.p rfl rfl (WO.pg rfl rfl rfl (WO.pg rfl rfl rfl (WO.p rfl rfl (WO.p rfl rfl (WO.nil (W.ret ?_))))))))))))))))))
 exact fin.ret (Res.one rfl (RV.tmp rfl)) rfl
theorem c_IndexP (w:World) (v vp va o:Value) (q:Addr) (P A:List Int) (R:Rws) (l:List (Int × Int)) (hc:OkC P A R) (hx:∀ x∈l,On P x.1∧On A x.2) (hl:RdF encP 2 w.heap.size w v l) (hC:RdC w.heap.size w q [vp,va,o]) (hP:RdF encI 1 w.heap.size w vp P) (hA:RdF encI 1 w.heap.size w va A):Ret Tryz.prog 210 [v,.func (.func 137) #[] #[.pointer (some q)]].toArray w (.int .i64 (-1)):=by
 refine Ret.of mixed tyTab Tryz.func210 rfl rfl ?_
 replace hl:RdF encP 2 (fnCx mixed tyTab Tryz.f210.ntmps w).B (fnCx mixed tyTab Tryz.f210.ntmps w).w0 v l:=hl
 replace hP:RdF encI 1 (fnCx mixed tyTab Tryz.f210.ntmps w).B (fnCx mixed tyTab Tryz.f210.ntmps w).w0 vp P:=hP
 replace hA:RdF encI 1 (fnCx mixed tyTab Tryz.f210.ntmps w).B (fnCx mixed tyTab Tryz.f210.ntmps w).w0 va A:=hA
 replace hC:RdC (fnCx mixed tyTab Tryz.f210.ntmps w).B (fnCx mixed tyTab Tryz.f210.ntmps w).w0 q [vp,va,o]:=hC
 have hle:=hl.sl.le
 refine W.sreg (WO.p rfl rfl (WO.nil (W.seq (W.sreg (WO.p rfl rfl (WO.len rfl rfl hl.sl rfl (WO.p rfl rfl (WO.nil (W.block ?_)))))))))
 refine W.loop (fun (i:Nat)=>i≤l.length)
  (fun (i:Nat)=>[(8,.int .i64 (i:Int)),(7,.int .i64 (l.length:Int)),(0,v),(1,.func (.func 137) #[] #[.pointer (some q)])])
  (fun (i:Nat)=>[])
  (fun (i:Nat)=>l.length-i) 0
  (by omega) ⟨rfl,rfl,rfl,rfl,trivial⟩ (by repeat (first | exact Sub.nil | refine Sub.cons (by repeat first | exact .head | apply Pick.tail) ?_)) ?_
 rintro i hi0
 refine W.sreg (WO.p rfl rfl (WO.nil (W.seq ?_)))
 refine W.cond_bl rfl (fun c1=>?_) (fun c1=>?_)
 ·refine W.skip (W.seq (W.block (W.sreg (WO.p rfl rfl (WO.p rfl rfl (WO.nil (W.sreg (WO.p rfl rfl (WO.p rfl rfl (WO.p rfl rfl (WO.indexAddr rfl rfl rfl hl.sl (by omega) rfl (WO.loadA rfl rfl ((RdF.cells hl (i:=i) (by omega) (0,0):Cells _ _ (elt v i 2) [.int .i64 (l.getD i (0,0)).1,.int .i64 (l.getD i (0,0)).2])) rfl rfl (WO.callCR (r:=.bool false) (first:=[]) (captured:=[.pointer (some q)]) rfl rfl Tryz.call137 (fun L w hi'=>c_on1 w vp va o q P A R (l.getD i (0,0)) hc (hx _ (getD_mem (by omega) (0,0))) (hC.later hi') (hP.later hi') (hA.later hi')) rfl (WO.nil (W.cond_f rfl (W.skip (W.region ?_)))))))))))))))))
  refine WO.ar rfl rfl rfl (by unfold in64;omega) rfl (WO.p rfl rfl (WO.nil ?_))
  refine' ⟨i+1,?hp,?hmu,⟨rfl,rfl,rfl,rfl,trivial⟩,?hS⟩
  case hS=>repeat (first | exact Sub.nil | refine Sub.cons (by repeat first | exact .head | apply Pick.tail) ?_)
  case hp=>omega
  case hmu=>omega
 ·refine W.exit (blk_same (W.sreg (WO.p rfl rfl (WO.nil (W.ret ?_)))))
  exact fin.ret (Res.one rfl (RV.tmp rfl)) rfl
theorem c_ContP (w:World) (v vp va o:Value) (q:Addr) (P A:List Int) (R:Rws) (l:List (Int × Int)) (hc:OkC P A R) (hx:∀ x∈l,On P x.1∧On A x.2) (hl:RdF encP 2 w.heap.size w v l) (hC:RdC w.heap.size w q [vp,va,o]) (hP:RdF encI 1 w.heap.size w vp P) (hA:RdF encI 1 w.heap.size w va A):Ret Tryz.prog 136 [v,.func (.func 137) #[] #[.pointer (some q)]].toArray w (.bool false):=by
 refine Ret.of mixed tyTab Tryz.func136 rfl rfl ?_
 replace hl:RdF encP 2 (fnCx mixed tyTab Tryz.f136.ntmps w).B (fnCx mixed tyTab Tryz.f136.ntmps w).w0 v l:=hl
 replace hP:RdF encI 1 (fnCx mixed tyTab Tryz.f136.ntmps w).B (fnCx mixed tyTab Tryz.f136.ntmps w).w0 vp P:=hP
 replace hA:RdF encI 1 (fnCx mixed tyTab Tryz.f136.ntmps w).B (fnCx mixed tyTab Tryz.f136.ntmps w).w0 va A:=hA
 replace hC:RdC (fnCx mixed tyTab Tryz.f136.ntmps w).B (fnCx mixed tyTab Tryz.f136.ntmps w).w0 q [vp,va,o]:=hC
 refine W.sreg (WO.p rfl rfl (WO.nil (W.sreg (WO.p rfl rfl (WO.p rfl rfl (WO.callR rfl Tryz.call210 (fun L w hi=>c_IndexP w v vp va o q P A R l hc hx (hl.later hi) (hC.later hi) (hP.later hi) (hA.later hi)) rfl (WO.p rfl rfl (WO.p rfl rfl (WO.nil (W.ret ?_))))))))))
 exact fin.ret (Res.one rfl (RV.tmp rfl)) (congrArg Value.bool (bl_f.2 (by omega)))
theorem c_on (w:World) (v vp va o:Value) (P A:List Int) (R:Rws) (l:List (Int × Int)) (hc:OkC P A R) (ho:o.oneCell'=true) (hx:∀ x∈l,On P x.1∧On A x.2) (hl:RdF encP 2 w.heap.size w v l) (hP:RdF encI 1 w.heap.size w vp P) (hA:RdF encI 1 w.heap.size w va A):Ret Tryz.prog 71 [.agg #[vp,va,o],v].toArray w (.bool true):=by
 refine Ret.of mixed tyTab Tryz.func71 rfl rfl ?_
 replace hl:RdF encP 2 (fnCx mixed tyTab Tryz.f71.ntmps w).B (fnCx mixed tyTab Tryz.f71.ntmps w).w0 v l:=hl
 replace hP:RdF encI 1 (fnCx mixed tyTab Tryz.f71.ntmps w).B (fnCx mixed tyTab Tryz.f71.ntmps w).w0 vp P:=hP
 replace hA:RdF encI 1 (fnCx mixed tyTab Tryz.f71.ntmps w).B (fnCx mixed tyTab Tryz.f71.ntmps w).w0 va A:=hA
 have hop:=hP.sl.oc
 have hoa:=hA.sl.oc
 refine W.sreg (WO.boxA rfl rfl (fun b1 hb1=>(WO.p rfl rfl (WO.nil (W.sreg (WO.p rfl rfl (WO.p rfl rfl (WO.callR (r:=.bool false) rfl Tryz.call136 (fun L w hi=>c_ContP w v vp va o ⟨b1,0,none⟩ P A R l hc hx (hl.later hi) (RdC.own (by repeat exact .head) hi) (hP.later hi) (hA.later hi)) rfl (WO.p rfl rfl (WO.p rfl rfl (WO.nil (W.ret ?_))))))))))))
 exact fin.ret (Res.one rfl (RV.tmp rfl)) rfl
end Go.Proofs.YtfchgmiiicidcaaGreat.Ch
namespace Go.Proofs.YtfchgmiiicidcaaGreat.Ch
open Go Go.TH
attribute [local irreducible] W WO pt
set_option maxRecDepth 10000
set_option maxHeartbeats 1000000
structure OkTr (R:Rws) (T:List (List Int)):Prop where
 n:T.length=R.length
 m:∀ i,i<R.length→(T.getD i []).length=(R.getD i []).length
 v:∀ i,i<R.length→∀ k,k<(R.getD i []).length→((R.getD i []).getD k (0,0)).1≤(T.getD i []).getD k 0∧(T.getD i []).getD k 0≤((R.getD i []).getD k (0,0)).2
theorem oc3 {a b c:Value} (h1:a.oneCell'=true) (h2:b.oneCell'=true) (h3:c.oneCell'=true):([a,b,c].all fun x=>x.oneCell')=true:=by simp [h1,h2,h3]
theorem c_newSheet (w:World) (v vp va o:Value) (rv:List Value) (P A:List Int) (R:Rws) (l:List (Int × Int)) (hc:OkC P A R) (hx:∀ x∈l,On P x.1∧On A x.2) (hl:RdF encP 2 w.heap.size w v l) (hP:RdF encI 1 w.heap.size w vp P) (hA:RdF encI 1 w.heap.size w va A) (hR:RdR encP 2 w.heap.size w o rv R):Ret Tryz.prog 35 [.agg #[vp,va,o],v].toArray w (.tuple #[.agg #[vp,va,o],.int .i64 0]):=by
 refine Ret.of mixed tyTab Tryz.func35 rfl rfl ?_
 replace hR:RdR encP 2 (fnCx mixed tyTab Tryz.f35.ntmps w).B (fnCx mixed tyTab Tryz.f35.ntmps w).w0 o rv R:=hR
 replace hl:RdF encP 2 (fnCx mixed tyTab Tryz.f35.ntmps w).B (fnCx mixed tyTab Tryz.f35.ntmps w).w0 v l:=hl
 replace hP:RdF encI 1 (fnCx mixed tyTab Tryz.f35.ntmps w).B (fnCx mixed tyTab Tryz.f35.ntmps w).w0 vp P:=hP
 replace hA:RdF encI 1 (fnCx mixed tyTab Tryz.f35.ntmps w).B (fnCx mixed tyTab Tryz.f35.ntmps w).w0 va A:=hA
 have hop:=hP.sl.oc
 have hoa:=hA.sl.oc
 have hoo:=hR.sl.oc
 refine W.sreg (WO.boxA rfl rfl (fun b1 hb1=>(WO.alloc rfl rfl rfl (fun b2 hb2=>(WO.p rfl rfl (WO.nil (W.sreg (WO.loadA rfl rfl (Cells.own (Pick.tail (Pick.head))) rfl rfl (WO.build rfl rfl rfl rfl rfl (WO.alloc rfl rfl rfl (fun b3 hb3=>(WO.storeA rfl rfl rfl rfl Pick.head rfl (oc3 hop hoa hoo) (WO.nil (W.seq (W.sreg (WO.loadA rfl rfl (Cells.own (Pick.tail (Pick.tail (Pick.head)))) rfl rfl (WO.callR (r:=.int .i64 0) rfl Tryz.call70 (fun L w hi=>c_CheckChart w vp va o rv P A R hc (hP.later hi) (hA.later hi) (hR.later hi)) rfl (WO.p rfl rfl (WO.nil (W.sreg (WO.p rfl rfl (WO.p rfl rfl (WO.nil ?_)))))))))))))))))))))))
 refine W.cond_bl rfl (fun c1=>?_) (fun c1=>?_)
 ·exfalso;omega
 ·refine W.skip (W.seq (W.sreg (WO.loadA rfl rfl (Cells.own Pick.head) rfl rfl (WO.p rfl rfl (WO.callR (r:=.bool true) rfl Tryz.call71 (fun L w hi=>c_on w v vp va o P A R l hc hoo hx (hl.later hi) (hP.later hi) (hA.later hi)) rfl (WO.p rfl rfl (WO.nil (W.cond_f rfl (W.skip (W.sreg (WO.loadA rfl rfl (Cells.own Pick.head) rfl rfl (WO.storeA rfl rfl rfl rfl (Pick.tail (Pick.head)) rfl (oc3 hop hoa hoo) (WO.p rfl rfl (WO.nil (W.ret ?_)))))))))))))))
  exact fin.ret (Res.two rfl (RV.cell rfl rfl rfl (Cells.own (by repeat exact .head))) (RV.tmp rfl)) rfl
theorem c_CheckTrue (w:World) (vp va o u:Value) (rv tv:List Value) (P A:List Int) (R:Rws) (T:List (List Int)) (hc:OkC P A R) (ht:OkTr R T) (hP:RdF encI 1 w.heap.size w vp P) (hA:RdF encI 1 w.heap.size w va A) (hR:RdR encP 2 w.heap.size w o rv R) (hT:RdR encI 1 w.heap.size w u tv T):Ret Tryz.prog 26 [.agg #[vp,va,o],u].toArray w (.int .i64 0):=by
 refine Ret.of mixed tyTab Tryz.func26 rfl rfl ?_
 replace hR:RdR encP 2 (fnCx mixed tyTab Tryz.f26.ntmps w).B (fnCx mixed tyTab Tryz.f26.ntmps w).w0 o rv R:=hR
 replace hT:RdR encI 1 (fnCx mixed tyTab Tryz.f26.ntmps w).B (fnCx mixed tyTab Tryz.f26.ntmps w).w0 u tv T:=hT
 replace hP:RdF encI 1 (fnCx mixed tyTab Tryz.f26.ntmps w).B (fnCx mixed tyTab Tryz.f26.ntmps w).w0 vp P:=hP
 replace hA:RdF encI 1 (fnCx mixed tyTab Tryz.f26.ntmps w).B (fnCx mixed tyTab Tryz.f26.ntmps w).w0 va A:=hA
 have hle:=hR.sl.le
 have hlt:=hT.sl.le
 have hn:=ht.n
 have hnp:=hc.np
 have hna:=hc.na
 have hnr:=hc.nr
 refine W.sreg (WO.boxA rfl rfl (fun b1 hb1=>(WO.p rfl rfl (WO.nil (W.seq (W.sreg (WO.loadA rfl rfl (Cells.own Pick.head) rfl rfl (WO.callR (r:=.int .i64 0) rfl Tryz.call70 (fun L w hi=>c_CheckChart w vp va o rv P A R hc (hP.later hi) (hA.later hi) (hR.later hi)) rfl (WO.p rfl rfl (WO.nil (W.sreg (WO.p rfl rfl (WO.p rfl rfl (WO.nil ?_))))))))))))))
 refine W.cond_bl rfl (fun c1=>?_) (fun c1=>?_)
 ·exfalso;omega
 ·refine W.skip (W.seq (W.sreg (WO.p rfl rfl (WO.len rfl rfl hT.sl rfl (WO.fieldL rfl rfl rfl (WO.load rfl rfl (Cell.own Pick.head rfl) rfl (WO.len rfl rfl hR.sl rfl (WO.p rfl rfl (WO.nil ?_)))))))))
  refine W.cond_bl rfl (fun c2=>?_) (fun c2=>?_)
  ·exfalso;omega
  ·refine W.skip (W.sreg (WO.p rfl rfl (WO.nil (W.seq (W.sreg (WO.p rfl rfl (WO.len rfl rfl hT.sl rfl (WO.p rfl rfl (WO.nil (W.block ?_))))))))))
   refine W.loop (fun (i:Nat)=>i≤T.length)
    (fun (i:Nat)=>[(25,.int .i64 (i:Int)),(24,.int .i64 (T.length:Int)),(23,u),(6,.int .i64 0),(2,.pointer (some ⟨b1,0,none⟩))])
    (fun (i:Nat)=>[pt b1 (.cells #[vp,va,o] 25 (0,0))])
    (fun (i:Nat)=>T.length-i) 0
    (by omega) ⟨rfl,rfl,rfl,rfl,rfl,trivial⟩ (by repeat (first | exact Sub.nil | refine Sub.cons (by repeat exact .head) ?_)) ?_
   rintro i hi0
   refine W.sreg (WO.p rfl rfl (WO.nil (W.seq ?_)))
   refine W.cond_bl rfl (fun c3=>?_) (fun c3=>?_)
   ·refine W.skip (W.seq (W.block (W.sreg (WO.p rfl rfl (WO.indexAddr rfl rfl rfl hT.sl (by omega) rfl ?_)))))
    refine' WO.load (v:=_) rfl rfl ?hc rfl ?_
    case hc=>((refine hT.cellV ?_;omega))
    refine WO.p rfl rfl (WO.p rfl rfl (WO.nil (W.seq ?_)))
    have hm:=ht.m i (by omega)
    have hrw:=hc.row (show i<R.length by omega)
    refine W.sreg (WO.p rfl rfl ?_)
    refine' WO.len (n:=_) rfl rfl ?hs rfl ?_
    case hs=>((refine (hT.row i ?_).sl;omega))
    refine WO.fieldL rfl rfl rfl (WO.load rfl rfl (Cell.own Pick.head rfl) rfl (WO.p rfl rfl (WO.indexAddr rfl rfl rfl hR.sl (by omega) rfl ?_)))
    refine' WO.load (v:=_) rfl rfl ?hc rfl ?_
    case hc=>((refine hR.cellV ?_;omega))
    refine' WO.len (n:=_) rfl rfl ?hs rfl ?_
    case hs=>((refine (hR.row i ?_).sl;omega))
    refine WO.p rfl rfl (WO.nil ?_)
    refine W.cond_bl rfl (fun c4=>?_) (fun c4=>?_)
    ·exfalso;omega
    ·refine W.skip (W.sreg (WO.p rfl rfl ?_))
     refine' WO.len (n:=_) rfl rfl ?hs rfl ?_
     case hs=>((refine (hT.row i ?_).sl;omega))
     refine WO.p rfl rfl (WO.nil (W.block ?_))
     refine W.loop (fun (k:Nat)=>k≤(T.getD i []).length)
      (fun (k:Nat)=>[(41,.int .i64 (k:Int)),(40,.int .i64 ((T.getD i []).length:Int)),(39,tv.getD i undef),(25,.int .i64 (i:Int)),(24,.int .i64 (T.length:Int)),(23,u),(7,.int .i64 (i:Int)),(6,.int .i64 0),(2,.pointer (some ⟨b1,0,none⟩))])
      (fun (k:Nat)=>[pt b1 (.cells #[vp,va,o] 25 (0,0))])
      (fun (k:Nat)=>(T.getD i []).length-k) 0
      (by omega) ⟨rfl,rfl,rfl,rfl,rfl,rfl,rfl,rfl,rfl,trivial⟩ (by repeat (first | exact Sub.nil | refine Sub.cons (by repeat exact .head) ?_)) ?_
     rintro k hk0
     refine W.sreg (WO.p rfl rfl (WO.nil (W.seq ?_)))
     refine W.cond_bl rfl (fun c5=>?_) (fun c5=>?_)
     ·refine W.skip (W.seq (W.block (W.sreg (WO.p rfl rfl ?_))))
      refine' WO.indexAddr (n:=_) (i:=_) rfl rfl rfl ?hs ?h1 rfl ?_
      case hs=>((refine (hT.row i ?_).sl;omega))
      case h1=>(omega)
      refine' WO.load (v:=_) rfl rfl ?hc rfl ?_
      case hc=>(first | (refine (hT.row i ?_).cell0 ?_ 0 ?_ <;> first | rfl | omega))
      refine WO.p rfl rfl (WO.p rfl rfl (WO.nil ?_))
      have hv:=ht.v i (by omega) k (by omega)
      refine W.sreg (WO.fieldL rfl rfl rfl (WO.load rfl rfl (Cell.own Pick.head rfl) rfl (WO.p rfl rfl (WO.indexAddr rfl rfl rfl hR.sl (by omega) rfl ?_))))
      refine' WO.load (v:=_) rfl rfl ?hc rfl ?_
      case hc=>((refine hR.cellV ?_;omega))
      refine WO.p rfl rfl ?_
      refine' WO.indexAddr (n:=_) (i:=_) rfl rfl rfl ?hs ?h1 rfl ?_
      case hs=>((refine (hR.row i ?_).sl;omega))
      case h1=>(omega)
      refine' WO.loadA (vs:=_) rfl rfl ?hc ?hl rfl ?_
      case hc=>((refine (hR.row i ?_).cells ?_ (0,0) <;> omega))
      case hl=>rfl
      refine WO.alloc rfl rfl rfl (fun b2 hb2=>(WO.storeA rfl rfl rfl rfl Pick.head rfl rfl (WO.nil (W.sreg (WO.p rfl rfl (WO.field0 rfl rfl rfl (WO.load rfl rfl (Cell.own Pick.head rfl) rfl (WO.p rfl rfl (WO.p rfl rfl ?_)))))))))
      refine WO.guard_bl rfl rfl (fun c6=>?_) (fun c6=>?_)
      ·exfalso;omega
      ·refine WO.pg rfl rfl rfl (WO.go' rfl (WO.fieldL rfl rfl rfl (WO.go' rfl (WO.load rfl rfl (Cell.own Pick.head rfl) rfl (WO.pg rfl rfl rfl (WO.p rfl rfl (WO.nil ?_)))))))
       refine W.cond_bl rfl (fun c7=>?_) (fun c7=>?_)
       ·exfalso;omega
       ·refine W.skip (W.region (WO.ar rfl rfl rfl (by unfold in64;omega) rfl (WO.p rfl rfl (WO.nil ?_))))
        refine' ⟨k+1,?hp,?hmu,⟨rfl,rfl,rfl,rfl,rfl,rfl,rfl,rfl,rfl,trivial⟩,?hS⟩
        case hS=>repeat (first | exact Sub.nil | refine Sub.cons (by repeat first | exact .head | apply Pick.tail) ?_)
        case hp=>omega
        case hmu=>omega
     ·refine W.exit (blk_same (W.region (WO.ar rfl rfl rfl (by unfold in64;omega) rfl (WO.p rfl rfl (WO.nil ?_)))))
      refine' ⟨i+1,?hp,?hmu,⟨rfl,rfl,rfl,rfl,rfl,trivial⟩,?hS⟩
      case hS=>repeat (first | exact Sub.nil | refine Sub.cons (by repeat exact .head) ?_)
      case hp=>omega
      case hmu=>omega
   ·refine W.exit (blk_same (W.sreg (WO.p rfl rfl (WO.p rfl rfl (WO.nil (W.ret ?_))))))
    exact fin.ret (Res.one rfl (RV.tmp rfl)) rfl
theorem c_lo (w:World) (vp va o:Value) (rv:List Value) (R:Rws) (i k:Nat) (hi:i<R.length) (hk:k<(R.getD i []).length) (hR:RdR encP 2 w.heap.size w o rv R):Ret Tryz.prog 37 [.agg #[vp,va,o],.agg #[.int .i64 (i:Int),.int .i64 (k:Int)]].toArray w (.int .i64 ((R.getD i []).getD k (0,0)).1):=by
 refine Ret.of mixed tyTab Tryz.func37 rfl rfl ?_
 replace hR:RdR encP 2 (fnCx mixed tyTab Tryz.f37.ntmps w).B (fnCx mixed tyTab Tryz.f37.ntmps w).w0 o rv R:=hR
 refine W.sreg (WO.boxA rfl rfl (fun b1 hb1=>(WO.boxA rfl rfl (fun b2 hb2=>(WO.p rfl rfl (WO.nil (W.seq ?_)))))))
 refine W.drawD 9 [.r 0 [],.r 1 [],.b 2 [],.r 3 [],.b 4 [],.r 5 [],.b 6 [],.r 7 [],.b 8 []] [] (A0:=[]) (Sub.refl _) (by kernel_rfl) ?_ ?_
 ·repeat constructor
 refine DT.r rfl rfl rfl (WO.field0 rfl rfl rfl (WO.nil ⟨rfl,rfl⟩)) (DT.r rfl rfl rfl (WO.fieldL rfl rfl rfl (WO.nil ⟨rfl,rfl⟩)) (DT.b rfl rfl rfl (WO.load rfl rfl (Cell.own (Pick.tail (Pick.head)) rfl) rfl (WO.nil ⟨rfl,rfl⟩)) (DT.r rfl rfl rfl (WO.field0 rfl rfl rfl (WO.nil ⟨rfl,rfl⟩)) (DT.b rfl rfl rfl (WO.load rfl rfl (Cell.own Pick.head rfl) rfl (WO.nil ⟨rfl,rfl⟩)) (DT.r rfl rfl rfl (WO.indexAddr rfl rfl rfl hR.sl (by omega) rfl (WO.nil ⟨rfl,rfl⟩)) (DT.b rfl rfl rfl (WO.load (v:=_) rfl rfl (hR.cellV hi) rfl (WO.nil ⟨rfl,rfl⟩)) (DT.r rfl rfl rfl (WO.fieldL rfl rfl rfl (WO.nil ⟨rfl,rfl⟩)) ?_)))))))
 refine DT.b rfl rfl rfl (WO.load rfl rfl (Cell.own Pick.head rfl) rfl (WO.nil ⟨rfl,rfl⟩)) (DT.nil [_,_] rfl (WO.indexAddr rfl rfl rfl ((hR.row i hi).sl) (by omega) rfl (WO.field0 rfl rfl rfl ?_)))
 refine' WO.load (v:=_) rfl rfl ?hc rfl ?_
 case hc=>((refine (hR.row i hi).cell0 (i:=k) hk (0,0) ?_;rfl))
 refine WO.p rfl rfl (WO.nil (W.ret ?_))
 exact fin.ret (Res.one rfl (RV.tmp rfl)) rfl
theorem c_hi (w:World) (vp va o:Value) (rv:List Value) (R:Rws) (i k:Nat) (hi:i<R.length) (hk:k<(R.getD i []).length) (hR:RdR encP 2 w.heap.size w o rv R):Ret Tryz.prog 38 [.agg #[vp,va,o],.agg #[.int .i64 (i:Int),.int .i64 (k:Int)]].toArray w (.int .i64 ((R.getD i []).getD k (0,0)).2):=by
 refine Ret.of mixed tyTab Tryz.func38 rfl rfl ?_
 replace hR:RdR encP 2 (fnCx mixed tyTab Tryz.f38.ntmps w).B (fnCx mixed tyTab Tryz.f38.ntmps w).w0 o rv R:=hR
 refine W.sreg (WO.boxA rfl rfl (fun b1 hb1=>(WO.boxA rfl rfl (fun b2 hb2=>(WO.p rfl rfl (WO.nil (W.seq ?_)))))))
 refine W.drawD 9 [.r 0 [],.r 1 [],.b 2 [],.r 3 [],.b 4 [],.r 5 [],.b 6 [],.r 7 [],.b 8 []] [] (A0:=[]) (Sub.refl _) (by kernel_rfl) ?_ ?_
 ·repeat constructor
 refine DT.r rfl rfl rfl (WO.field0 rfl rfl rfl (WO.nil ⟨rfl,rfl⟩)) (DT.r rfl rfl rfl (WO.fieldL rfl rfl rfl (WO.nil ⟨rfl,rfl⟩)) (DT.b rfl rfl rfl (WO.load rfl rfl (Cell.own (Pick.tail (Pick.head)) rfl) rfl (WO.nil ⟨rfl,rfl⟩)) (DT.r rfl rfl rfl (WO.field0 rfl rfl rfl (WO.nil ⟨rfl,rfl⟩)) (DT.b rfl rfl rfl (WO.load rfl rfl (Cell.own Pick.head rfl) rfl (WO.nil ⟨rfl,rfl⟩)) (DT.r rfl rfl rfl (WO.indexAddr rfl rfl rfl hR.sl (by omega) rfl (WO.nil ⟨rfl,rfl⟩)) (DT.b rfl rfl rfl (WO.load (v:=_) rfl rfl (hR.cellV hi) rfl (WO.nil ⟨rfl,rfl⟩)) (DT.r rfl rfl rfl (WO.fieldL rfl rfl rfl (WO.nil ⟨rfl,rfl⟩)) ?_)))))))
 refine DT.b rfl rfl rfl (WO.load rfl rfl (Cell.own Pick.head rfl) rfl (WO.nil ⟨rfl,rfl⟩)) (DT.nil [_,_] rfl (WO.indexAddr rfl rfl rfl ((hR.row i hi).sl) (by omega) rfl (WO.field rfl rfl rfl ?_)))
 refine' WO.load (v:=_) rfl rfl ?hc rfl ?_
 case hc=>((refine (hR.row i hi).cellAt (i:=k) (j:=1) hk (0,0) ?_;rfl))
 refine WO.p rfl rfl (WO.nil (W.ret ?_))
 exact fin.ret (Res.one rfl (RV.tmp rfl)) rfl
end Go.Proofs.YtfchgmiiicidcaaGreat.Ch
namespace Go.Proofs.YtfchgmiiicidcaaGreat.Ch
open Go Go.TH
attribute [local irreducible] W WO pt
set_option maxRecDepth 10000
set_option maxHeartbeats 1000000
def gcd2 (a b:Int):Int:=(Nat.gcd a.toNat b.toNat:Nat)
theorem gcd2_zero {a:Int} (h:0≤a):gcd2 a 0=a:=by simp [gcd2];omega
theorem gcd2_step {a b:Int} (ha:0≤a) (hb:0<b):gcd2 b (a.tmod b)=gcd2 a b:=by
 unfold gcd2
 obtain ⟨n,rfl⟩:=Int.eq_ofNat_of_zero_le ha
 obtain ⟨m,rfl⟩:=Int.eq_ofNat_of_zero_le (Int.le_of_lt hb)
 rw [Int.tmod_eq_emod_of_nonneg (by omega),← Int.natCast_emod]
 simp only [Int.toNat_natCast]
 rw [Nat.gcd_comm m (n%m),← Nat.gcd_rec,Nat.gcd_comm]
theorem tmod_lt {a b:Int} (ha:0≤a) (hb:0<b):0≤a.tmod b∧a.tmod b<b:=⟨Int.tmod_nonneg b ha,Int.tmod_lt_of_pos a hb⟩
theorem gcd2_pos {a b:Int} (ha:0≤a) (hb:0<b):0<gcd2 a b:=by
 unfold gcd2
 have:0<Nat.gcd a.toNat b.toNat:=Nat.gcd_pos_of_pos_right _ (by omega)
 omega
def ab (n:Int):Int:=max n (-n)
theorem ab_nn (n:Int):0≤ab n:=by unfold ab;omega
def red (n d:Int):Int × Int:=(n.tdiv (gcd2 (ab n) d),d.tdiv (gcd2 (ab n) d))
abbrev raV (r:Int × Int):Value:=.agg #[.int .i64 r.1,.int .i64 r.2]
theorem tdiv_bd {n g M:Int} (hg:0<g) (h : -M≤n∧n≤M) : -M≤n.tdiv g∧n.tdiv g≤M:=by
 have h1:(n.tdiv g).natAbs≤n.natAbs:=by rw [Int.natAbs_tdiv];exact Nat.div_le_self _ _
 omega
theorem c_fraction (w:World) (vp va o:Value) (n d:Int) (hn : -4000000000000000000≤n∧n≤4000000000000000000) (hd:0<d∧d≤4000000000000000000) (hop:vp.oneCell'=true) (hoa:va.oneCell'=true) (hoo:o.oneCell'=true):Ret Tryz.prog 101 [.agg #[vp,va,o],.int .i64 n,.int .i64 d].toArray w (raV (red n d)):=by
 refine Ret.of mixed tyTab Tryz.func101 rfl rfl ?_
 have hgp:=gcd2_pos (ab_nn n) hd.1
 have h1:=tdiv_bd hgp hn
 have h2:=tdiv_bd hgp (n:=d) (M:=4000000000000000000) (by omega)
 refine W.sreg (WO.boxA rfl rfl (fun b1 hb1=>(WO.alloc rfl rfl rfl (fun b2 hb2=>(WO.nil (W.sreg (WO.p rfl rfl (WO.p rfl rfl (WO.neg rfl (by unfold in64;omega) rfl (WO.max2 rfl rfl rfl (WO.p rfl rfl (WO.p rfl rfl (WO.p rfl rfl (WO.nil (W.seq (W.block ?_))))))))))))))))
 refine W.loop2 (fun (x:Int) (y:Int)=>0≤x∧0≤y∧gcd2 x y=gcd2 (ab n) d)
  (fun (x:Int) (y:Int)=>[(7,.int .i64 x),(8,.int .i64 y),(1,.int .i64 n),(2,.int .i64 d),(6,.pointer (some ⟨b2,0,none⟩))])
  (fun (x:Int) (y:Int)=>[pt b2 (.cells #[.int .i64 0,.int .i64 0] 38 (0,0))])
  (fun (x:Int) (y:Int)=>y.toNat) (ab n) d
  (by exact ⟨ab_nn n,by omega,rfl⟩) ⟨rfl,rfl,rfl,rfl,rfl,trivial⟩ (by repeat (first | exact Sub.nil | refine Sub.cons (by repeat exact .head) ?_)) ?_
 rintro x y ⟨hx,hy,hg⟩
 have hgx:y=0→0<x:=by intro e;subst e;rw [gcd2_zero hx] at hg;omega
 refine W.seq (W.sreg (WO.p rfl rfl (WO.p rfl rfl (WO.nil ?_))))
 refine W.cond_bl rfl (fun c1=>?_) (fun c1=>?_)
 ·refine W.skip (W.block ?_)
  refine W.drawD 5 [.r 0 [],.r 1 [],.r 2 [7],.r 3 [7],.r 4 [7]] [7] (A0:=[]) (Sub.refl _) (by kernel_rfl) ?_ ?_
  ·repeat constructor
  refine DT.r rfl rfl rfl (WO.p rfl rfl (WO.nil ⟨rfl,rfl⟩)) (DT.r rfl rfl rfl (WO.p rfl rfl (WO.nil ⟨rfl,rfl⟩)) (DT.r rfl rfl rfl (WO.p rfl rfl (WO.nil ⟨rfl,rfl⟩)) (DT.r rfl rfl rfl (WO.rem rfl rfl (by omega) rfl (WO.nil ⟨rfl,rfl⟩)) (DT.r rfl rfl rfl (WO.p rfl rfl (WO.nil ⟨rfl,rfl⟩)) (DT.nil [_] rfl (WO.p rfl rfl (WO.nil ?_)))))))
  refine' ⟨_,_,?hp,?hmu,⟨rfl,rfl,rfl,rfl,rfl,trivial⟩,?hS⟩
  case hS=>repeat (first | exact Sub.nil | refine Sub.cons (by repeat exact .head) ?_)
  case hp=>exact ⟨hy,(tmod_lt hx (by omega)).1,by rw [gcd2_step hx (by omega)];exact hg⟩
  case hmu=>have:=tmod_lt hx (show 0<y by omega);omega
 ·refine W.exit (blk_same (W.seq ?_))
  obtain rfl:y=0:=by omega
  rw [gcd2_zero hx] at hg
  subst hg
  refine W.drawD 6 [.r 0 [],.r 1 [],.r 2 [],.r 3 [],.r 4 [],.r 5 []] [] (A0:=[]) (Sub.refl _) (by kernel_rfl) ?_ ?_
  ·repeat constructor
  refine DT.r rfl rfl rfl (WO.p rfl rfl (WO.nil ⟨rfl,rfl⟩)) (DT.r rfl rfl rfl (WO.p rfl rfl (WO.nil ⟨rfl,rfl⟩)) (DT.r rfl rfl rfl (WO.quo rfl rfl (by omega) (by unfold in64;omega) rfl (WO.nil ⟨rfl,rfl⟩)) (DT.r rfl rfl rfl (WO.p rfl rfl (WO.nil ⟨rfl,rfl⟩)) (DT.r rfl rfl rfl (WO.p rfl rfl (WO.nil ⟨rfl,rfl⟩)) (DT.r rfl rfl rfl (WO.quo rfl rfl (by omega) (by unfold in64;omega) rfl (WO.nil ⟨rfl,rfl⟩)) (DT.nil [_] rfl (WO.build rfl rfl rfl rfl rfl (WO.storeA rfl rfl rfl rfl Pick.head rfl rfl (WO.nil (W.ret ?_))))))))))
  exact fin.ret (Res.one rfl (RV.cell rfl rfl rfl (Cells.own Pick.head))) rfl
end Go.Proofs.YtfchgmiiicidcaaGreat.Ch
namespace Go.Proofs.YtfchgmiiicidcaaGreat.Ch
open Go Go.TH
attribute [local irreducible] W WO pt
set_option maxRecDepth 10000
set_option maxHeartbeats 1000000
theorem fI_ge {l:List Int} {x:Int} (h:fI l x<l.length):x≤l.getD (fI l x) 0:=by
 have:=List.findIdx_getElem (p:=fun y=>decide (x≤y)) (xs:=l) (w:=h)
 rw [List.getD_eq_getElem?_getD,List.getElem?_eq_getElem h]
 exact of_decide_eq_true this
theorem fI_lt {l:List Int} {x:Int} {j:Nat} (h:j<fI l x):l.getD j 0<x:=by
 have hj:j<l.length:=Nat.lt_of_lt_of_le h (fI_le l x)
 have:=List.not_of_lt_findIdx (p:=fun y=>decide (x≤y)) (xs:=l) h
 rw [List.getD_eq_getElem?_getD,List.getElem?_eq_getElem hj]
 simpa using this
theorem on_bd {l:List Int} {x:Int} (hr:Ris l) (h2:2≤l.length) (h:On l x):nbI l x+1<l.length∧(0≤l.getD (nbI l x) 0∧l.getD (nbI l x) 0≤x)∧x≤l.getD (nbI l x+1) 0∧l.getD (nbI l x+1) 0≤2000∧l.getD (nbI l x) 0<l.getD (nbI l x+1) 0:=by
 have hn:nbI l x+1<l.length:=by have:=h.2;unfold nbI;omega
 have b0:=hr.2 _ (getD_mem (show nbI l x<l.length by omega) 0)
 have b1:=hr.2 _ (getD_mem hn 0)
 have hlt:=hr.1.lt (show nbI l x<nbI l x+1 by omega) hn
 have hge:=fI_ge h.2
 rcases Nat.eq_zero_or_pos (fI l x) with g | g
 ·have hz:nbI l x=0:=by unfold nbI;omega
  rw [hz] at hlt b0 b1 ⊢
  rw [g] at hge
  have:=h.1
  omega
 ·have h1:=fI_lt (l:=l) (x:=x) (show nbI l x<fI l x by unfold nbI;omega)
  rw [show nbI l x+1=fI l x by unfold nbI;omega] at hlt b1 ⊢
  have:=h.2
  omega
def plV (i k:Nat):Value:=.agg #[.int .i64 (i:Int),.int .i64 (k:Int)]
end Go.Proofs.YtfchgmiiicidcaaGreat.Ch
namespace Go.Proofs.YtfchgmiiicidcaaGreat.Ch
open Go Go.TH
attribute [local irreducible] W WO pt
set_option maxRecDepth 10000
set_option maxHeartbeats 1000000
def fr1 (l:List Int) (x:Int):Int:=l.getD (nbI l x+1) 0-x
def fr0 (l:List Int) (x:Int):Int:=x-l.getD (nbI l x) 0
theorem fr_bd {l:List Int} {x:Int} (hr:Ris l) (h2:2≤l.length) (h:On l x):(0≤fr1 l x∧fr1 l x≤2000)∧(0≤fr0 l x∧fr0 l x≤2000)∧0<fr1 l x+fr0 l x:=by
 have:=on_bd hr h2 h
 unfold fr1 fr0
 omega
end Go.Proofs.YtfchgmiiicidcaaGreat.Ch
namespace Go.Proofs.YtfchgmiiicidcaaGreat.Ch
open Go Go.TH
attribute [local irreducible] W WO pt
set_option maxRecDepth 10000
set_option maxHeartbeats 1000000
end Go.Proofs.YtfchgmiiicidcaaGreat.Ch
namespace Go.Proofs.YtfchgmiiicidcaaGreat.Ch
open Go Go.TH
attribute [local irreducible] W WO pt
set_option maxRecDepth 10000
set_option maxHeartbeats 1000000
def FnP (B:Nat) (wr:World) (f:Nat) (first cap:List Value) (S:Nat→Nat→Prop) (T:Nat→Nat→Int):Prop :=
 ∀ w:World,B≤w.heap.size→(∀ k,k<B→w.heap[k]?=wr.heap[k]?)→∀ i k,S i k→Ret Tryz.prog f (first++[plV i k]++cap).toArray w (.int .i64 (T i k))
theorem FnP.later {C:Cx Tryz.prog} {H:List HP} {L:List HP} {w:World} {f:Nat} {first cap:List Value} {S:Nat→Nat→Prop} {T:Nat→Nat→Int} {B:Nat} {wr:World} (h:FnP B wr f first cap S T) (hB:B≤C.B) (hw:∀ k,k<B→C.w0.heap[k]?=wr.heap[k]?) (hi:Inv C.w0 C.M (L++H) w) {i k:Nat} (hs:S i k):Ret Tryz.prog f (first++[plV i k]++cap).toArray w (.int .i64 (T i k)) :=
 h w (Nat.le_trans hB (Nat.le_trans C.hB hi.size)) (fun j hj=>(hi.keepB j (Nat.lt_of_lt_of_le hj hB)).trans (hw j hj)) i k hs
end Go.Proofs.YtfchgmiiicidcaaGreat.Ch
namespace Go.Proofs.YtfchgmiiicidcaaGreat.Ch
open Go Go.TH
attribute [local irreducible] W WO pt
set_option maxRecDepth 10000
set_option maxHeartbeats 1000000
def tAt (T:List (List Int)) (i k:Nat):Int:=(T.getD i []).getD k 0
def loAt (R:Rws) (i k:Nat):Int:=((R.getD i []).getD k (0,0)).1
def hiAt (R:Rws) (i k:Nat):Int:=((R.getD i []).getD k (0,0)).2
theorem OkTr.bd {P A:List Int} {R:Rws} {T:List (List Int)} (hc:OkC P A R) (ht:OkTr R T) {i k:Nat} (hi:i<P.length) (hk:k<A.length):0≤tAt T i k∧tAt T i k≤100000:=by
 have hnr:=hc.nr
 have hrw:=hc.row (show i<R.length by omega)
 have h1:=hc.at_ (show i<R.length by omega) (show k<(R.getD i []).length by omega)
 have h2:=ht.v i (by omega) k (by omega)
 unfold tAt;omega
end Go.Proofs.YtfchgmiiicidcaaGreat.Ch
namespace Go.Proofs.YtfchgmiiicidcaaGreat.Ch
open Go Go.TH
attribute [local irreducible] W WO pt
set_option maxRecDepth 10000
set_option maxHeartbeats 1000000
end Go.Proofs.YtfchgmiiicidcaaGreat.Ch
namespace Go.Proofs.YtfchgmiiicidcaaGreat
open Go Go.TH
/-- both parts of a fraction, times their divisor -/
theorem red_pt (n:Int) {d:Int} (hd:0<d):∃ g,0<g∧(Ch.red n d).1*g=n∧(Ch.red n d).2*g=d:=by
  have hg:=Ch.gcd2_pos (Ch.ab_nn n) hd
  have e:Ch.gcd2 (Ch.ab n) d=(Int.gcd n d:Int):=by
    unfold Ch.gcd2 Int.gcd
    have h1:(Ch.ab n).toNat=n.natAbs:=by unfold Ch.ab;omega
    have h2:d.toNat=d.natAbs:=by omega
    rw [h1,h2]
  refine ⟨_,hg,?_,?_⟩
  · unfold Ch.red;rw [e];exact Int.tdiv_mul_cancel (Int.gcd_dvd_left ..)
  · unfold Ch.red;rw [e];exact Int.tdiv_mul_cancel (Int.gcd_dvd_right ..)
end Go.Proofs.YtfchgmiiicidcaaGreat
namespace Go.Proofs.YtfchgmiiicidcaaGreat
open Go Go.TH
theorem isSl_lit {a:Option Addr} {n c:Nat} (h:n≤9223372036854775807) (hb:0<n→∃ b o,a=some ⟨b,o,none⟩):IsSl (.slice a n c) n:=⟨h,a,c,rfl,hb⟩
theorem gcd2_mul {k a b:Int} (hk:0<k) (ha:0≤a) (hb:0≤b):Ch.gcd2 (k*a) (k*b)=k*Ch.gcd2 a b:=by
  unfold Ch.gcd2
  obtain ⟨n,rfl⟩:=Int.eq_ofNat_of_zero_le (Int.le_of_lt hk)
  obtain ⟨a,rfl⟩:=Int.eq_ofNat_of_zero_le ha
  obtain ⟨b,rfl⟩:=Int.eq_ofNat_of_zero_le hb
  rw [← Int.natCast_mul,← Int.natCast_mul]
  simp only [Int.toNat_natCast]
  rw [Nat.gcd_mul_left];simp
theorem ab_mul {k n:Int} (hk:0<k):Ch.ab (k*n)=k*Ch.ab n:=by
  unfold Ch.ab
  rcases Int.le_total 0 n with h | h
  · have:=Int.mul_nonneg (Int.le_of_lt hk) h
    rw [show max n (-n)=n by omega];omega
  · have:=Int.mul_nonneg (Int.le_of_lt hk) (show 0 ≤ -n by omega)
    rw [show max n (-n) = -n by omega]
    rw [Int.mul_neg] at this ⊢;omega
/-- a fraction stays if both parts are a number of times as great -/
theorem red_mul {k n d:Int} (hk:0<k) (hd:0<d):Ch.red (k*n) (k*d)=Ch.red n d:=by
  have hg:=Ch.gcd2_pos (Ch.ab_nn n) hd
  unfold Ch.red
  rw [ab_mul hk,gcd2_mul hk (Ch.ab_nn n) (Int.le_of_lt hd),Int.mul_tdiv_mul_of_pos _ _ hk,Int.mul_tdiv_mul_of_pos _ _ hk]
end Go.Proofs.YtfchgmiiicidcaaGreat
namespace Go.Proofs.YtfchgmiiicidcaaGreat
open Go Go.TH
attribute [local irreducible] W WO pt
set_option maxRecDepth 10000
set_option maxHeartbeats 4000000
theorem Tcell {C:Cx Tryz.prog} {H:List HP} {rv:List Value} {xss:List (List Int)} {i k:Nat} (s:Sub H [RowsE encI 2 1 rv xss]) (hi:i<xss.length) (hk:k<(xss.getD i []).length):Cell C H (elt (rv.getD i undef) k 1) (.int .i64 ((xss.getD i []).getD k 0)):=by
 cases s with
 | cons p _=>exact RowsE.cell0 encI_ok p hi hk 0 rfl
theorem Cell.as {C:Cx Tryz.prog} {H:List HP} {a:Addr} {u v:Value} (e:u=v) (h:Cell C H a u):Cell C H a v:=e▸h
theorem mul_bd {a b A B:Int} (ha:0≤a∧a≤A) (hb:0≤b∧b≤B):0≤a*b∧a*b≤A*B:=⟨Int.mul_nonneg ha.1 hb.1,Int.mul_le_mul ha.2 hb.2 hb.1 (by omega)⟩
end Go.Proofs.YtfchgmiiicidcaaGreat
