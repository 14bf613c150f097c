/-
  What is proved here: the ends of the coefficient, as the program finds them. Conditions: none; each contract states its own.
-/
import Derived.Test.YtfchgmiiicidcaaGreatM5
import Derived.Test.YtfchgmiiicidcaaGreatM4
import Derived.Test.YtfchgmiiicidcaaGreatM2
import Derived.Laws.Cover1
set_option linter.unusedVariables false
set_option linter.unusedSimpArgs false
namespace Go.Proofs.YtfchgmiiicidcaaGreat
open Go Go.TH
attribute [local irreducible] W WO pt
set_option maxRecDepth 10000
set_option maxHeartbeats 2000000
structure Fd where
 l:Int
 f:Int
 ta:Int
 se:Int
 m:Int
 b:Int
 r:Int
 n:Int
def fd0:Fd:=⟨-1,0,0,0,0,0,0,0⟩
abbrev fdV (d:Fd):Value:=.agg #[.int .i64 d.l,.int .i64 d.f,.int .i64 d.ta,.int .i64 d.se,.int .i64 d.m,.int .i64 d.b,.int .i64 d.r,.int .i64 d.n]
def exL (t:Tst) (m:Int):Trt:=⟨t.f0,t.t1,t.s0,m,t.b1,t.r0⟩
def exH (t:Tst) (m:Int):Trt:=⟨t.f1,t.t0,t.s1,m,t.b0,t.r1⟩
def exM (x:Trt) (m:Int):Trt:=⟨x.f,x.ta,x.se,m,x.b,x.r⟩
theorem exL_in {t:Tst} (h:OkTst t) {m:Int} (hm:t.m0≤m∧m≤t.m1):TrtIn t (exL t m):=by
 have a:=h.f
 have b:=h.ta
 have c:=h.se
 have d:=h.b
 have e:=h.r
 unfold exL
 exact ⟨by dsimp only;omega,by dsimp only;omega,by dsimp only;omega,hm,by dsimp only;omega,by dsimp only;omega⟩
theorem exH_in {t:Tst} (h:OkTst t) {m:Int} (hm:t.m0≤m∧m≤t.m1):TrtIn t (exH t m):=by
 have a:=h.f
 have b:=h.ta
 have c:=h.se
 have d:=h.b
 have e:=h.r
 unfold exH
 exact ⟨by dsimp only;omega,by dsimp only;omega,by dsimp only;omega,hm,by dsimp only;omega,by dsimp only;omega⟩
structure EnP (s:Int) (t:Tst) (g:Int→Int) (i:Nat) (z:Int) (d:Fd):Prop where
 zr:t.m0≤z∧z≤t.m1+1
 d0:d=fd0∨0≤d.l
 dl:(0<i∨t.m0<z)→0≤d.l
 nb : -2000000000≤d.n∧d.n≤2000000000
 le:∀ m,t.m0≤m→m≤t.m1→(0<i∨m<z)→s*g m≤s*d.n
theorem EnP.first {s:Int} {t:Tst} {g:Int→Int} (h:t.m0≤t.m1):EnP s t g 0 t.m0 fd0:=⟨by omega,.inl rfl,fun h=>by omega,by unfold fd0;dsimp only;omega,fun m h1 h2 h3=>by omega⟩
theorem EnP.upd {s:Int} {t:Tst} {g:Int→Int} {i:Nat} {z:Int} {d:Fd} (h:EnP s t g i z d) (hz:z≤t.m1) {d':Fd} (hn : -2000000000≤d'.n∧d'.n≤2000000000) (hi:i=0→d'.n=g z) (hc:d.l<0∨s*d.n<s*d'.n) (hl:d'.l=(i:Int)):EnP s t g i (z+1) d':=by
 refine ⟨by have:=h.zr;omega,.inr (by omega),fun _=>by omega,hn,fun m h1 h2 h3=>?_⟩
 rcases Nat.eq_zero_or_pos i with e | e
 ·rcases Int.lt_or_le m z with q | q
  ·have a:=h.le m h1 h2 (.inr q)
   have b:=h.dl (.inr (by omega))
   omega
  ·obtain rfl:m=z:=by omega
   rw [hi e];exact Int.le_refl _
 ·have a:=h.le m h1 h2 (.inl e)
  have b:=h.dl (.inl e)
  omega
theorem EnP.keep {s:Int} {t:Tst} {g:Int→Int} {i:Nat} {z n:Int} {d:Fd} (h:EnP s t g i z d) (hz:z≤t.m1) (hi:i=0→n=g z) (h1:¬ d.l<0) (h2:¬ s*d.n<s*n):EnP s t g i (z+1) d:=by
 refine ⟨by have:=h.zr;omega,h.d0,fun _=>by omega,h.nb,fun m q1 q2 q3=>?_⟩
 rcases Nat.eq_zero_or_pos i with e | e
 ·rcases Int.lt_or_le m z with q | q
  ·exact h.le m q1 q2 (.inr q)
  ·obtain rfl:m=z:=by omega
   rw [← hi e];omega
 ·exact h.le m q1 q2 (.inl e)
theorem EnP.next {s:Int} {t:Tst} {g:Int→Int} {i:Nat} {z:Int} {d:Fd} (h:EnP s t g i z d) (hz:¬ z≤t.m1) (h0:t.m0≤t.m1):EnP s t g (i+1) t.m0 d :=
 ⟨by omega,h.d0,fun _=>h.dl (.inr (by omega)),h.nb,fun m h1 h2 _=>h.le m h1 h2 (.inr (by omega))⟩
theorem eq119 (d:Fd) (h:d=fd0∨0≤d.l):EqT Tryz.prog .eql 119 (fdV d) (.agg #[.int .i64 (-1),.int .i64 0,.int .i64 0,.int .i64 0,.int .i64 0,.int .i64 0,.int .i64 0,.int .i64 0]) (.bool (bl (d.l<0))):=by
 intro x y w
 rcases h with rfl | h
 ·simp [go_sem,Tryz.eqGuardType119,Tryz.underlying119,fd0,bl_eq]
 ·have h1:¬ d.l = -1:=by omega
  have h2:¬ d.l<0:=by omega
  simp [go_sem,Tryz.eqGuardType119,Tryz.underlying119,bl_eq,h1,h2]
theorem c_end (w:World) (t:Tst) (lv:Value) (vs:List VV) (ls:List Ln) (s:Int) (ix off:Nat) (x0:Trt) (hsel:(s = -1∧ix=0∧off=0∧x0=exL t 0)∨(s=1∧ix=1∧off=6∧x0=exH t 0)) (hxin:∀ m,t.m0≤m∧m≤t.m1→TrtIn t (exM x0 m)) (h:OkTst t) (hk:OkLs ls) (hin:∀ i,i<ls.length→InL t (ls.getD i ln0).1) (hL:RdL w.heap.size w lv vs ls):RetE Tryz.prog 48 [tstV t,lv,.int .i64 s].toArray w (fun r=>∃ d:Fd,r=fdV d∧(-2000000000≤d.n∧d.n≤2000000000)∧∀ m,t.m0≤m→m≤t.m1→s*coV t (ls.getD 0 ln0).1 (ls.getD 0 ln0).2 (exM x0 m)≤s*d.n):=by
 refine RetE.of mixed tyTab Tryz.func48 rfl rfl ?_
 replace hL:RdL (fnCx mixed tyTab Tryz.f48.ntmps w).B (fnCx mixed tyTab Tryz.f48.ntmps w).w0 lv vs ls:=hL
 have hlo:=hL.sl.oc
 have hn:=hk.n
 have hm:=h.m
 have hdv:(s+1).tdiv 2=(ix:Int):=by rcases hsel with ⟨rfl,rfl,_⟩ | ⟨rfl,rfl,_⟩ <;> rfl
 have hix:ix<2∧0+ix*6=off:=by omega
 have hs:s = -1∨s=1:=by omega
 have hcs:([.int .i64 t.f0,.int .i64 t.t1,.int .i64 t.s0,.int .i64 0,.int .i64 t.b1,.int .i64 t.r0,.int .i64 t.f1,.int .i64 t.t0,.int .i64 t.s1,.int .i64 0,.int .i64 t.b0,.int .i64 t.r1].drop off).take 6=[Value.int .i64 x0.f,.int .i64 x0.ta,.int .i64 x0.se,.int .i64 0,.int .i64 x0.b,.int .i64 x0.r]:=by rcases hsel with ⟨_,_,rfl,rfl⟩ | ⟨_,_,rfl,rfl⟩ <;> rfl
 clear hsel
 refine W.sreg (WO.boxA rfl rfl (fun b1 hb1=>(WO.alloc rfl rfl rfl (fun b2 hb2=>(WO.nil (W.sreg (WO.field0 rfl rfl rfl (WO.fieldL rfl rfl rfl (WO.field0 rfl rfl rfl (WO.load rfl rfl (Cell.own (Pick.tail (Pick.head)) rfl) rfl (WO.field0 rfl rfl rfl (WO.fieldL rfl rfl rfl (WO.fieldL rfl rfl rfl (WO.load rfl rfl (Cell.own (Pick.tail (Pick.head)) rfl) rfl (WO.field0 rfl rfl rfl (WO.fieldL rfl rfl rfl (WO.field0 rfl rfl rfl (WO.load rfl rfl (Cell.own (Pick.tail (Pick.head)) rfl) rfl ?_))))))))))))))))))
 refine WO.field0 rfl rfl rfl (WO.fieldL rfl rfl rfl (WO.fieldL rfl rfl rfl (WO.load rfl rfl (Cell.own (Pick.tail (Pick.head)) rfl) rfl (WO.field0 rfl rfl rfl (WO.fieldL rfl rfl rfl (WO.field0 rfl rfl rfl (WO.load rfl rfl (Cell.own (Pick.tail (Pick.head)) rfl) rfl (WO.build rfl rfl rfl rfl rfl ?_))))))))
 refine WO.field0 rfl rfl rfl (WO.fieldL rfl rfl rfl (WO.fieldL rfl rfl rfl (WO.load rfl rfl (Cell.own (Pick.tail (Pick.head)) rfl) rfl (WO.field0 rfl rfl rfl (WO.fieldL rfl rfl rfl (WO.field0 rfl rfl rfl (WO.load rfl rfl (Cell.own (Pick.tail (Pick.head)) rfl) rfl (WO.field0 rfl rfl rfl (WO.fieldL rfl rfl rfl (WO.fieldL rfl rfl rfl (WO.load rfl rfl (Cell.own (Pick.tail (Pick.head)) rfl) rfl (WO.field0 rfl rfl rfl (WO.fieldL rfl rfl rfl (WO.field0 rfl rfl rfl (WO.load rfl rfl (Cell.own (Pick.tail (Pick.head)) rfl) rfl (WO.field0 rfl rfl rfl (WO.fieldL rfl rfl rfl (WO.fieldL rfl rfl rfl (WO.load rfl rfl (Cell.own (Pick.tail (Pick.head)) rfl) rfl ?_)))))))))))))))))))
 refine WO.build rfl rfl rfl rfl rfl (WO.build rfl rfl rfl rfl rfl (WO.alloc rfl rfl rfl (fun b3 hb3=>(WO.storeA rfl rfl rfl rfl Pick.head rfl rfl (WO.nil (W.sreg (WO.p rfl rfl (WO.ar rfl rfl rfl (by unfold in64;omega) rfl (WO.quo rfl rfl (by omega) (by rw [hdv];unfold in64;omega) rfl ?_)))))))))
 rw [hdv]
 refine WO.indexArrE (i:=ix) (o':=off) rfl rfl rfl rfl hix.1 hix.2 rfl (WO.loadA rfl rfl (Cells.ownAt (b:=b3) (off:=off) (n:=6) (cs:=[.int .i64 t.f0,.int .i64 t.t1,.int .i64 t.s0,.int .i64 0,.int .i64 t.b1,.int .i64 t.r0,.int .i64 t.f1,.int .i64 t.t0,.int .i64 t.s1,.int .i64 0,.int .i64 t.b0,.int .i64 t.r1]) (vs:=[.int .i64 x0.f,.int .i64 x0.ta,.int .i64 x0.se,.int .i64 0,.int .i64 x0.b,.int .i64 x0.r]) Pick.head hcs) rfl rfl (WO.alloc rfl rfl rfl (fun b4 hb4=>(WO.storeA rfl rfl rfl rfl Pick.head rfl rfl (WO.nil (W.sreg (WO.build rfl rfl rfl rfl rfl (WO.alloc rfl rfl rfl (fun b5 hb5=>(WO.storeA rfl rfl rfl rfl Pick.head rfl rfl (WO.nil ?_)))))))))))
 refine W.sreg (WO.loadA rfl rfl (Cells.own Pick.head) rfl rfl (WO.alloc rfl rfl rfl (fun b6 hb6=>(WO.storeA rfl rfl rfl rfl Pick.head rfl rfl (WO.nil (W.seq (W.sreg (WO.p rfl rfl (WO.len rfl rfl hL.sl rfl (WO.p rfl rfl (WO.nil (W.block ?_))))))))))))
 refine W.loop10 (fun (i:Nat) (y:Int) (g0:Int) (g1:Int) (g2:Int) (g3:Int) (g4:Int) (g5:Int) (g6:Int) (g7:Int)=>i≤ls.length∧EnP s t (fun m=>coV t (ls.getD 0 ln0).1 (ls.getD 0 ln0).2 (exM x0 m)) i t.m0 ⟨g0,g1,g2,g3,g4,g5,g6,g7⟩)
  (fun (i:Nat) (y:Int) (g0:Int) (g1:Int) (g2:Int) (g3:Int) (g4:Int) (g5:Int) (g6:Int) (g7:Int)=>[(2,.int .i64 s),(3,.pointer (some ⟨b1,0,none⟩)),(6,.pointer (some ⟨b2,0,none⟩)),(8,.pointer (some ⟨b4,0,none⟩)),(9,.pointer (some ⟨b5,0,none⟩)),(10,.pointer (some ⟨b6,0,none⟩)),(64,lv),(65,.int .i64 (ls.length:Int)),(66,.int .i64 (i:Int))])
  (fun (i:Nat) (y:Int) (g0:Int) (g1:Int) (g2:Int) (g3:Int) (g4:Int) (g5:Int) (g6:Int) (g7:Int)=>[pt b1 (.cells #[.int .i64 t.sp,.int .i64 t.lo,.int .i64 t.we,.int .i64 t.al,.int .i64 t.f0,.int .i64 t.f1,.int .i64 t.t0,.int .i64 t.t1,.int .i64 t.s0,.int .i64 t.s1,.int .i64 t.m0,.int .i64 t.m1,.int .i64 t.b0,.int .i64 t.b1,.int .i64 t.r0,.int .i64 t.r1] 115 (0,0)),pt b2 (.cells #[.int .i64 0,.int .i64 0,.int .i64 0,.int .i64 0,.int .i64 0,.int .i64 0,.int .i64 0,.int .i64 0] 119 (0,0)),pt b4 (.cells #[.int .i64 x0.f,.int .i64 x0.ta,.int .i64 x0.se,.int .i64 y,.int .i64 x0.b,.int .i64 x0.r] 67 (0,0)),pt b5 (.cells #[.int .i64 (-1),.int .i64 0,.int .i64 0,.int .i64 0,.int .i64 0,.int .i64 0,.int .i64 0,.int .i64 0] 119 (0,0)),pt b6 (.cells #[.int .i64 g0,.int .i64 g1,.int .i64 g2,.int .i64 g3,.int .i64 g4,.int .i64 g5,.int .i64 g6,.int .i64 g7] 119 (0,0))])
  (fun (i:Nat) (y:Int) (g0:Int) (g1:Int) (g2:Int) (g3:Int) (g4:Int) (g5:Int) (g6:Int) (g7:Int)=>ls.length-i) 0 0 (-1) 0 0 0 0 0 0 0
  (by exact ⟨by omega,EnP.first (by omega)⟩) ⟨rfl,rfl,rfl,rfl,rfl,rfl,rfl,rfl,rfl,trivial⟩ (by repeat (first | exact Sub.nil | refine Sub.cons (by repeat first | exact .head | apply Pick.tail) ?_)) ?_
 rintro i y g0 g1 g2 g3 g4 g5 g6 g7 ⟨hi0,he⟩
 refine W.sreg (WO.p rfl rfl (WO.nil (W.seq ?_)))
 refine W.cond_bl rfl (fun c1=>?_) (fun c1=>?_)
 ·refine W.skip (W.seq (W.block ?_))
  have hxo:=(hL.x i (by omega)).sl.oc
  have hyo:=(hL.y i (by omega)).sl.oc
  refine W.sreg (WO.p rfl rfl (WO.indexAddr rfl rfl rfl hL.sl (by first | omega | (simp;omega)) rfl (WO.loadA rfl rfl (hL.cells (i:=i) (by omega)) rfl rfl (WO.alloc rfl rfl rfl (fun b7 hb7=>(WO.p rfl rfl (WO.storeA rfl rfl rfl rfl Pick.head rfl (by rw [List.all_cons,hxo,List.all_cons,hyo];rfl) (WO.nil (W.sreg (WO.field0 rfl rfl rfl (WO.fieldL rfl rfl rfl (WO.field0 rfl rfl rfl (WO.load rfl rfl (Cell.own (Pick.tail (Pick.head)) rfl) rfl (WO.fieldL rfl rfl rfl (WO.store1 rfl rfl rfl (by first | rfl | assumption) (Pick.tail (Pick.tail (Pick.tail (Pick.head)))) rfl (WO.nil (W.block ?_)))))))))))))))))
  refine W.loop9 (fun (z:Int) (g0:Int) (g1:Int) (g2:Int) (g3:Int) (g4:Int) (g5:Int) (g6:Int) (g7:Int)=>EnP s t (fun m=>coV t (ls.getD 0 ln0).1 (ls.getD 0 ln0).2 (exM x0 m)) i z ⟨g0,g1,g2,g3,g4,g5,g6,g7⟩)
   (fun (z:Int) (g0:Int) (g1:Int) (g2:Int) (g3:Int) (g4:Int) (g5:Int) (g6:Int) (g7:Int)=>[(2,.int .i64 s),(3,.pointer (some ⟨b1,0,none⟩)),(6,.pointer (some ⟨b2,0,none⟩)),(8,.pointer (some ⟨b4,0,none⟩)),(9,.pointer (some ⟨b5,0,none⟩)),(10,.pointer (some ⟨b6,0,none⟩)),(11,.int .i64 (i:Int)),(12,.pointer (some ⟨b7,0,none⟩)),(64,lv),(65,.int .i64 (ls.length:Int)),(66,.int .i64 (i:Int))])
   (fun (z:Int) (g0:Int) (g1:Int) (g2:Int) (g3:Int) (g4:Int) (g5:Int) (g6:Int) (g7:Int)=>[pt b1 (.cells #[.int .i64 t.sp,.int .i64 t.lo,.int .i64 t.we,.int .i64 t.al,.int .i64 t.f0,.int .i64 t.f1,.int .i64 t.t0,.int .i64 t.t1,.int .i64 t.s0,.int .i64 t.s1,.int .i64 t.m0,.int .i64 t.m1,.int .i64 t.b0,.int .i64 t.b1,.int .i64 t.r0,.int .i64 t.r1] 115 (0,0)),pt b2 (.cells #[.int .i64 0,.int .i64 0,.int .i64 0,.int .i64 0,.int .i64 0,.int .i64 0,.int .i64 0,.int .i64 0] 119 (0,0)),pt b4 (.cells #[.int .i64 x0.f,.int .i64 x0.ta,.int .i64 x0.se,.int .i64 z,.int .i64 x0.b,.int .i64 x0.r] 67 (0,0)),pt b5 (.cells #[.int .i64 (-1),.int .i64 0,.int .i64 0,.int .i64 0,.int .i64 0,.int .i64 0,.int .i64 0,.int .i64 0] 119 (0,0)),pt b6 (.cells #[.int .i64 g0,.int .i64 g1,.int .i64 g2,.int .i64 g3,.int .i64 g4,.int .i64 g5,.int .i64 g6,.int .i64 g7] 119 (0,0)),pt b7 (.cells #[(vs.getD i vv0).1,(vs.getD i vv0).2] 65 (0,0))])
   (fun (z:Int) (g0:Int) (g1:Int) (g2:Int) (g3:Int) (g4:Int) (g5:Int) (g6:Int) (g7:Int)=>(t.m1+1-z).toNat) t.m0 g0 g1 g2 g3 g4 g5 g6 g7
   (by exact he) ⟨rfl,rfl,rfl,rfl,rfl,rfl,rfl,rfl,rfl,rfl,rfl,trivial⟩ (by repeat (first | exact Sub.nil | refine Sub.cons (by repeat first | exact .head | apply Pick.tail) ?_)) ?_
  rintro z g0 g1 g2 g3 g4 g5 g6 g7 he
  refine W.seq ?_
  have hzr:=he.zr
  refine W.sreg (WO.fieldL rfl rfl rfl (WO.load rfl rfl (Cell.own (Pick.tail (Pick.tail (Pick.head))) rfl) rfl (WO.field0 rfl rfl rfl (WO.fieldL rfl rfl rfl (WO.fieldL rfl rfl rfl (WO.load rfl rfl (Cell.own Pick.head rfl) rfl (WO.p rfl rfl (WO.nil ?_))))))))
  refine W.cond_bl rfl (fun c2=>?_) (fun c2=>?_)
  ·refine W.skip (W.seq (W.block ?_))
   have hco:=coB h (hk.ok i (by omega)) (hin i (by omega)) (hxin z (by omega))
   have hep : -2000000000≤g7∧g7≤2000000000:=he.nb
   refine W.sreg (WO.loadA rfl rfl (Cells.own Pick.head) rfl rfl (WO.loadA rfl rfl (Cells.own (Pick.tail (Pick.tail (Pick.tail (Pick.tail (Pick.tail (Pick.head))))))) rfl rfl (WO.build rfl rfl rfl rfl rfl (WO.loadA rfl rfl (Cells.own (Pick.tail (Pick.tail (Pick.head)))) rfl rfl (WO.callR rfl Tryz.call57 (fun L w hi=>c_coef w t (vs.getD i vv0).1 (vs.getD i vv0).2 (ls.getD i ln0).1 (ls.getD i ln0).2 (exM x0 z) h (hin i (by omega)) (hxin z (by omega)) ((hL.x i (by omega)).later hi) ((hL.y i (by omega)).later hi) (hk.ok i (by omega))) rfl (WO.p rfl rfl (WO.nil (W.sreg ?_))))))))
   refine WO.loadA rfl rfl (Cells.own (Pick.tail (Pick.tail (Pick.tail (Pick.tail (Pick.head)))))) rfl rfl (WO.loadA rfl rfl (Cells.own (Pick.tail (Pick.tail (Pick.tail (Pick.head))))) rfl rfl (WO.eqT (r:=.bool (bl (g0<0))) rfl rfl (eq119 ⟨g0,g1,g2,g3,g4,g5,g6,g7⟩ he.d0) rfl (WO.p rfl rfl ?_)))
   refine WO.guard_bl rfl rfl (fun c3=>?_) (fun c3=>?_)
   ·refine WO.no rfl rfl (WO.no rfl rfl (WO.no rfl rfl (WO.no rfl rfl (WO.no rfl rfl (WO.no rfl rfl (WO.no rfl rfl (WO.no rfl rfl (WO.p rfl rfl (WO.nil (W.cond_t rfl (W.region (WO.p rfl rfl (WO.loadA rfl rfl (Cells.own (Pick.tail (Pick.tail (Pick.head)))) rfl rfl (WO.p rfl rfl (WO.build rfl rfl rfl rfl rfl (WO.storeA rfl rfl rfl rfl (Pick.tail (Pick.tail (Pick.tail (Pick.tail (Pick.head))))) rfl rfl (WO.nil (W.region ?_))))))))))))))))))
    refine WO.fieldL rfl rfl rfl (WO.load rfl rfl (Cell.own (Pick.tail (Pick.tail (Pick.tail (Pick.head)))) rfl) rfl (WO.ar rfl rfl rfl (by unfold in64;omega) rfl (WO.fieldL rfl rfl rfl (WO.store1 rfl rfl rfl (by first | rfl | assumption) (Pick.tail (Pick.tail (Pick.tail (Pick.head)))) rfl (WO.nil ?_)))))
    refine' ⟨z+1,_,_,_,_,_,_,_,_,?hp,?hmu,⟨rfl,rfl,rfl,rfl,rfl,rfl,rfl,rfl,rfl,rfl,rfl,trivial⟩,?hS⟩
    case hS=>repeat (first | exact Sub.nil | refine Sub.cons (by repeat first | exact .head | apply Pick.tail) ?_)
    case hp=>first | exact he.keep (n:=coV t (ls.getD i ln0).1 (ls.getD i ln0).2 (exM x0 z)) (by omega) (fun e=>by subst e;rfl) (by dsimp only;omega) (by dsimp only;omega) | exact he.upd (d':=⟨(i:Int),x0.f,x0.ta,x0.se,z,x0.b,x0.r,coV t (ls.getD i ln0).1 (ls.getD i ln0).2 (exM x0 z)⟩) (by omega) (by dsimp only;omega) (fun e=>by subst e;rfl) (by dsimp only;omega) rfl
    case hmu=>omega
   ·refine WO.pg rfl rfl rfl (WO.pg rfl rfl rfl (WO.go' rfl (WO.ar rfl rfl rfl (by (first | rcases hs with e | e <;> rw [e] <;> unfold in64 <;> omega)) rfl (WO.pg rfl rfl rfl (WO.go' rfl (WO.fieldL rfl rfl rfl (WO.go' rfl (WO.load rfl rfl (Cell.own (Pick.tail (Pick.tail (Pick.tail (Pick.tail (Pick.head))))) rfl) rfl (WO.go' rfl (WO.ar rfl rfl rfl (by (first | rcases hs with e | e <;> rw [e] <;> unfold in64 <;> omega)) rfl (WO.pg rfl rfl rfl (WO.p rfl rfl (WO.nil ?_)))))))))))))
    refine W.cond_bl rfl (fun c4=>?_) (fun c4=>?_)
    ·refine W.region (WO.p rfl rfl (WO.loadA rfl rfl (Cells.own (Pick.tail (Pick.tail (Pick.head)))) rfl rfl (WO.p rfl rfl (WO.build rfl rfl rfl rfl rfl (WO.storeA rfl rfl rfl rfl (Pick.tail (Pick.tail (Pick.tail (Pick.tail (Pick.head))))) rfl rfl (WO.nil (W.region (WO.fieldL rfl rfl rfl (WO.load rfl rfl (Cell.own (Pick.tail (Pick.tail (Pick.tail (Pick.head)))) rfl) rfl (WO.ar rfl rfl rfl (by unfold in64;omega) rfl (WO.fieldL rfl rfl rfl (WO.store1 rfl rfl rfl (by first | rfl | assumption) (Pick.tail (Pick.tail (Pick.tail (Pick.head)))) rfl (WO.nil ?_)))))))))))))
     refine' ⟨z+1,_,_,_,_,_,_,_,_,?hp,?hmu,⟨rfl,rfl,rfl,rfl,rfl,rfl,rfl,rfl,rfl,rfl,rfl,trivial⟩,?hS⟩
     case hS=>repeat (first | exact Sub.nil | refine Sub.cons (by repeat first | exact .head | apply Pick.tail) ?_)
     case hp=>first | exact he.keep (n:=coV t (ls.getD i ln0).1 (ls.getD i ln0).2 (exM x0 z)) (by omega) (fun e=>by subst e;rfl) (by dsimp only;omega) (by dsimp only;omega) | exact he.upd (d':=⟨(i:Int),x0.f,x0.ta,x0.se,z,x0.b,x0.r,coV t (ls.getD i ln0).1 (ls.getD i ln0).2 (exM x0 z)⟩) (by omega) (by dsimp only;omega) (fun e=>by subst e;rfl) (by dsimp only;omega) rfl
     case hmu=>omega
    ·refine W.skip (W.region (WO.fieldL rfl rfl rfl (WO.load rfl rfl (Cell.own (Pick.tail (Pick.tail (Pick.head))) rfl) rfl (WO.ar rfl rfl rfl (by unfold in64;omega) rfl (WO.fieldL rfl rfl rfl (WO.store1 rfl rfl rfl (by first | rfl | assumption) (Pick.tail (Pick.tail (Pick.head))) rfl (WO.nil ?_)))))))
     refine' ⟨z+1,_,_,_,_,_,_,_,_,?hp,?hmu,⟨rfl,rfl,rfl,rfl,rfl,rfl,rfl,rfl,rfl,rfl,rfl,trivial⟩,?hS⟩
     case hS=>repeat (first | exact Sub.nil | refine Sub.cons (by repeat first | exact .head | apply Pick.tail) ?_)
     case hp=>first | exact he.keep (n:=coV t (ls.getD i ln0).1 (ls.getD i ln0).2 (exM x0 z)) (by omega) (fun e=>by subst e;rfl) (by dsimp only;omega) (by dsimp only;omega) | exact he.upd (d':=⟨(i:Int),x0.f,x0.ta,x0.se,z,x0.b,x0.r,coV t (ls.getD i ln0).1 (ls.getD i ln0).2 (exM x0 z)⟩) (by omega) (by dsimp only;omega) (fun e=>by subst e;rfl) (by dsimp only;omega) rfl
     case hmu=>omega
  ·refine W.exit (blk_same (W.region (WO.ar rfl rfl rfl (by unfold in64;omega) rfl (WO.p rfl rfl (WO.nil ?_)))))
   refine' ⟨i+1,_,_,_,_,_,_,_,_,_,?hp,?hmu,⟨rfl,rfl,rfl,rfl,rfl,rfl,rfl,rfl,rfl,trivial⟩,?hS⟩
   case hS=>repeat (first | exact Sub.nil | refine Sub.cons (by repeat first | exact .head | apply Pick.tail) ?_)
   case hp=>exact ⟨by omega,he.next (by assumption) (by omega)⟩
   case hmu=>omega
 ·refine W.exit (blk_same (W.sreg (WO.loadA rfl rfl (Cells.own (Pick.tail (Pick.tail (Pick.tail (Pick.tail (Pick.head)))))) rfl rfl (WO.storeA rfl rfl rfl rfl (Pick.tail (Pick.head)) rfl rfl (WO.nil (W.ret ?_))))))
  exact fin.ret (Res.one rfl (RV.cell rfl rfl rfl (Cells.own (by repeat first | exact .head | apply Pick.tail)))) ⟨⟨g0,g1,g2,g3,g4,g5,g6,g7⟩,rfl,he.nb,fun m h1 h2=>he.le m h1 h2 (.inl (by omega))⟩
end Go.Proofs.YtfchgmiiicidcaaGreat
namespace Go.Proofs.YtfchgmiiicidcaaGreat
open Go Go.TH
attribute [local irreducible] W WO pt
set_option maxRecDepth 10000
set_option maxHeartbeats 2000000
theorem c_SpanD (w:World) (t:Tst) (lv:Value) (vs:List VV) (ls:List Ln) (h:OkTst t) (hk:OkLs ls) (hin:∀ i,i<ls.length→InL t (ls.getD i ln0).1) (hL:RdL w.heap.size w lv vs ls):RetE Tryz.prog 16 [tstV t,lv].toArray w (fun r=>∃ a b:Int,r=.tuple #[.agg #[.int .i64 a,.int .i64 b],.int .i64 0]∧∀ x,TrtIn t x→a≤coV t (ls.getD 0 ln0).1 (ls.getD 0 ln0).2 x∧coV t (ls.getD 0 ln0).1 (ls.getD 0 ln0).2 x≤b):=by
 refine RetE.of mixed tyTab Tryz.func16 rfl rfl ?_
 replace hL:RdL (fnCx mixed tyTab Tryz.f16.ntmps w).B (fnCx mixed tyTab Tryz.f16.ntmps w).w0 lv vs ls:=hL
 have hlo:=hL.sl.oc
 have hn:=hk.n
 refine W.sreg (WO.boxA rfl rfl (fun b1 hb1=>(WO.alloc rfl rfl rfl (fun b2 hb2=>(WO.p rfl rfl (WO.nil (W.sreg (WO.loadA rfl rfl (Cells.own (Pick.tail (Pick.head))) rfl rfl (WO.p rfl rfl (WO.callR rfl Tryz.call47 (fun L w hi=>c_reckon w t lv vs ls h hk hin (hL.later hi)) rfl (WO.p rfl rfl (WO.p rfl rfl (WO.p rfl rfl (WO.alloc rfl rfl rfl (fun b3 hb3=>(WO.storeA rfl rfl rfl rfl Pick.head rfl rfl (WO.p rfl rfl (WO.nil (W.seq (W.sreg (WO.p rfl rfl (WO.neqF rfl rfl (by omega) rfl (WO.nil (W.cond_f rfl (W.skip (W.seq ?_))))))))))))))))))))))))))
 refine W.drawD 8 [.b 0 [],.r 1 [],.b 4 [],.r 5 [],.c 2 [],.r 3 [],.c 6 [],.r 7 []] [] (A0:=[]) (Sub.refl _) (by kernel_rfl) ?_ ?_
 ·repeat constructor
 refine DT.b rfl rfl rfl (WO.loadA rfl rfl (Cells.own Pick.head) rfl rfl (WO.nil ⟨rfl,rfl⟩)) (DT.r rfl rfl rfl (WO.p rfl rfl (WO.nil ⟨rfl,rfl⟩)) (DT.b rfl rfl rfl (WO.loadA rfl rfl (Cells.own Pick.head) rfl rfl (WO.nil ⟨rfl,rfl⟩)) (DT.r rfl rfl rfl (WO.p rfl rfl (WO.nil ⟨rfl,rfl⟩)) (DT.c [_,_,_] rfl rfl rfl rfl (WO.callE rfl Tryz.call48 (fun L w hi=>c_end w t lv vs ls (-1) 0 0 (exL t 0) (.inl ⟨rfl,rfl,rfl,rfl⟩) (fun m hm=>exL_in h hm) h hk hin (hL.later hi)) rfl ?_)))))
 rintro _ ⟨d,rfl,hd1,hd2⟩
 refine WO.nil ⟨_,[],rfl,rfl,(Keep.r (Keep.b (Keep.r (Keep.b Keep.nil)))),?_⟩
 refine DT.r rfl rfl rfl (WO.field1 rfl rfl rfl rfl rfl (WO.nil ⟨rfl,rfl⟩)) (DT.c [_,_,_] rfl rfl rfl rfl (WO.callE rfl Tryz.call48 (fun L w hi=>c_end w t lv vs ls 1 1 6 (exH t 0) (.inr ⟨rfl,rfl,rfl,rfl⟩) (fun m hm=>exH_in h hm) h hk hin (hL.later hi)) rfl ?_))
 rintro _ ⟨e,rfl,he1,he2⟩
 refine WO.nil ⟨_,[],rfl,rfl,(Keep.r (Keep.c (Keep.r (Keep.b (Keep.r (Keep.b Keep.nil)))))),?_⟩
 refine DT.r rfl rfl rfl (WO.field1 rfl rfl rfl rfl rfl (WO.nil ⟨rfl,rfl⟩)) (DT.nil [_,_,_] rfl ?_)
 refine' WO.build (cs:=_) rfl rfl rfl ?hf rfl ?_
 case hf=>(conv=>lhs;simp [-List.getD_eq_getElem?_getD,fillL,vcl,wrl,TTab.pl?.lget']) <;> rfl
 refine WO.storeA rfl rfl rfl rfl (Pick.tail (Pick.head)) rfl rfl (WO.p rfl rfl (WO.nil (W.ret ?_)))
 exact fin.ret (Res.two rfl (RV.cell rfl rfl rfl (Cells.own (by repeat exact .head))) (RV.tmp rfl)) ⟨d.n,e.n,rfl,fun x hx=>by have q1 : -1*coV t (ls.getD 0 ln0).1 (ls.getD 0 ln0).2 (exL t x.m) ≤ -1*d.n:=hd2 x.m hx.m.1 hx.m.2;have q2:1*coV t (ls.getD 0 ln0).1 (ls.getD 0 ln0).2 (exH t x.m)≤1*e.n:=he2 x.m hx.m.1 hx.m.2;have q3:=co_mono h (hk.ok 0 (by omega)) (hin 0 (by omega)) (exL_in h hx.m) hx hx.f.1 hx.ta.2 hx.se.1 rfl hx.b.2 hx.r.1;have q4:=co_mono h (hk.ok 0 (by omega)) (hin 0 (by omega)) hx (exH_in h hx.m) hx.f.2 hx.ta.1 hx.se.2 rfl hx.b.1 hx.r.2;omega⟩
theorem c_ShipD (w:World) (t:Tst) (v u:Value) (xs ys:List Int) (x:Trt) (h:OkTst t) (hin:InL t xs) (hx:TrtIn t x) (hX:RdF encI 1 w.heap.size w v xs) (hY:RdF encI 1 w.heap.size w u ys) (hL:OkLn xs ys):Ret Tryz.prog 17 [tstV t,.agg #[v,u],trtV x].toArray w (.tuple #[.int .i64 (coV t xs ys x),.int .i64 0]):=by
 refine Ret.of mixed tyTab Tryz.func17 rfl rfl ?_
 replace hX:RdF encI 1 (fnCx mixed tyTab Tryz.f17.ntmps w).B (fnCx mixed tyTab Tryz.f17.ntmps w).w0 v xs:=hX
 replace hY:RdF encI 1 (fnCx mixed tyTab Tryz.f17.ntmps w).B (fnCx mixed tyTab Tryz.f17.ntmps w).w0 u ys:=hY
 have hxo:=hX.sl.oc
 have hyo:=hY.sl.oc
 have q1:=hx.f
 have q2:=hx.ta
 have q3:=hx.se
 have q4:=hx.m
 have q5:=hx.b
 have q6:=hx.r
 have q7:=h.ta
 have q8:=h.se
 have m1:=hin.mo h hx.ta.1 hx.ta.2
 have m2:=hin.sh h hx.se.1 hx.se.2
 refine W.sreg (WO.boxA rfl rfl (fun b1 hb1=>(WO.boxA rfl rfl (fun b2 hb2=>(WO.boxA rfl rfl (fun b3 hb3=>(WO.p rfl rfl (WO.p rfl rfl (WO.nil (W.seq (W.sreg (WO.loadA rfl rfl (Cells.own (Pick.tail (Pick.tail (Pick.head)))) rfl rfl (WO.callR rfl Tryz.call49 (fun L w hi=>c_CheckTest4 w t h) rfl (WO.p rfl rfl (WO.nil (W.sreg (WO.p rfl rfl (WO.neqF rfl rfl (by omega) rfl (WO.nil (W.cond_f rfl (W.skip (W.seq (W.sreg (WO.loadA rfl rfl (Cells.own (Pick.tail (Pick.head))) rfl rfl (WO.callR rfl Tryz.call50 (fun L w hi=>c_CheckLine w v u xs ys (hX.later hi) (hY.later hi) hL) rfl (WO.p rfl rfl (WO.nil (W.sreg (WO.p rfl rfl ?_)))))))))))))))))))))))))))))
 refine WO.neqF rfl rfl (by omega) rfl (WO.nil (W.cond_f rfl (W.skip (W.seq (W.seq ?_)))))
 refine W.drawD 53 [.r 0 [],.b 1 [],.r 2 [],.r 3 [],.b 4 [],.r 5 [],.r 6 [],.b 7 [],.b 8 [],.r 9 [],.b 10 [],.r 11 [],.r 12 [],.b 13 [],.r 14 [],.r 15 [],.b 16 [],.b 17 [],.r 18 [],.b 19 [],.r 20 [],.r 21 [],.b 22 [],.r 23 [],.r 24 [],.b 25 [],.b 26 [],.r 27 [],.b 28 [],.r 29 [],.r 30 [],.b 31 [],.r 32 [],.r 33 [],.b 34 [],.b 35 [],.r 36 [],.b 37 [],.r 38 [],.r 39 [],.b 40 [],.r 41 [],.r 42 [],.b 43 [],.b 44 [],.r 45 [],.b 46 [],.r 47 [],.r 48 [],.b 49 [],.r 50 [],.r 51 [],.b 52 []] [] (A0:=[]) (Sub.refl _) (by kernel_rfl) ?_ ?_
 ·repeat constructor
 refine DT.r rfl rfl rfl (WO.field0 rfl rfl rfl (WO.nil ⟨rfl,rfl⟩)) (DT.b rfl rfl rfl (WO.load rfl rfl (Cell.own Pick.head rfl) rfl (WO.nil ⟨rfl,rfl⟩)) (DT.r rfl rfl rfl (WO.fieldL rfl rfl rfl (WO.nil ⟨rfl,rfl⟩)) (DT.r rfl rfl rfl (WO.field0 rfl rfl rfl (WO.nil ⟨rfl,rfl⟩)) (DT.b rfl rfl rfl (WO.load rfl rfl (Cell.own (Pick.tail (Pick.tail (Pick.head))) rfl) rfl (WO.nil ⟨rfl,rfl⟩)) (DT.r rfl rfl rfl (WO.fieldL rfl rfl rfl (WO.nil ⟨rfl,rfl⟩)) (DT.r rfl rfl rfl (WO.fieldL rfl rfl rfl (WO.nil ⟨rfl,rfl⟩)) (DT.b rfl rfl rfl (WO.load rfl rfl (Cell.own (Pick.tail (Pick.tail (Pick.head))) rfl) rfl (WO.nil ⟨rfl,rfl⟩)) ?_)))))))
 refine DT.b rfl rfl rfl (WO.callR (r:=bdV ⟨x.f,x.f,t.f0,t.f1⟩) rfl Tryz.call53 (fun L w hi=>c_exactly w _ _ _) rfl (WO.nil ⟨rfl,rfl⟩)) (DT.r rfl rfl rfl (WO.fieldL rfl rfl rfl (WO.nil ⟨rfl,rfl⟩)) (DT.b rfl rfl rfl (WO.load rfl rfl (Cell.own Pick.head rfl) rfl (WO.nil ⟨rfl,rfl⟩)) (DT.r rfl rfl rfl (WO.fieldL rfl rfl rfl (WO.nil ⟨rfl,rfl⟩)) (DT.r rfl rfl rfl (WO.field0 rfl rfl rfl (WO.nil ⟨rfl,rfl⟩)) (DT.b rfl rfl rfl (WO.load rfl rfl (Cell.own (Pick.tail (Pick.tail (Pick.head))) rfl) rfl (WO.nil ⟨rfl,rfl⟩)) (DT.r rfl rfl rfl (WO.fieldL rfl rfl rfl (WO.nil ⟨rfl,rfl⟩)) (DT.r rfl rfl rfl (WO.fieldL rfl rfl rfl (WO.nil ⟨rfl,rfl⟩)) ?_)))))))
 refine DT.b rfl rfl rfl (WO.load rfl rfl (Cell.own (Pick.tail (Pick.tail (Pick.head))) rfl) rfl (WO.nil ⟨rfl,rfl⟩)) (DT.b rfl rfl rfl (WO.callR (r:=bdV ⟨x.ta,x.ta,t.t0,t.t1⟩) rfl Tryz.call53 (fun L w hi=>c_exactly w _ _ _) rfl (WO.nil ⟨rfl,rfl⟩)) (DT.r rfl rfl rfl (WO.fieldL rfl rfl rfl (WO.nil ⟨rfl,rfl⟩)) (DT.b rfl rfl rfl (WO.load rfl rfl (Cell.own Pick.head rfl) rfl (WO.nil ⟨rfl,rfl⟩)) (DT.r rfl rfl rfl (WO.fieldL rfl rfl rfl (WO.nil ⟨rfl,rfl⟩)) (DT.r rfl rfl rfl (WO.field0 rfl rfl rfl (WO.nil ⟨rfl,rfl⟩)) (DT.b rfl rfl rfl (WO.load rfl rfl (Cell.own (Pick.tail (Pick.tail (Pick.head))) rfl) rfl (WO.nil ⟨rfl,rfl⟩)) ?_))))))
 refine DT.r rfl rfl rfl (WO.fieldL rfl rfl rfl (WO.nil ⟨rfl,rfl⟩)) (DT.r rfl rfl rfl (WO.fieldL rfl rfl rfl (WO.nil ⟨rfl,rfl⟩)) (DT.b rfl rfl rfl (WO.load rfl rfl (Cell.own (Pick.tail (Pick.tail (Pick.head))) rfl) rfl (WO.nil ⟨rfl,rfl⟩)) (DT.b rfl rfl rfl (WO.callR (r:=bdV ⟨x.se,x.se,t.s0,t.s1⟩) rfl Tryz.call53 (fun L w hi=>c_exactly w _ _ _) rfl (WO.nil ⟨rfl,rfl⟩)) (DT.r rfl rfl rfl (WO.fieldL rfl rfl rfl (WO.nil ⟨rfl,rfl⟩)) (DT.b rfl rfl rfl (WO.load rfl rfl (Cell.own Pick.head rfl) rfl (WO.nil ⟨rfl,rfl⟩)) (DT.r rfl rfl rfl (WO.fieldL rfl rfl rfl (WO.nil ⟨rfl,rfl⟩)) (DT.r rfl rfl rfl (WO.field0 rfl rfl rfl (WO.nil ⟨rfl,rfl⟩)) ?_)))))))
 refine DT.b rfl rfl rfl (WO.load rfl rfl (Cell.own (Pick.tail (Pick.tail (Pick.head))) rfl) rfl (WO.nil ⟨rfl,rfl⟩)) (DT.r rfl rfl rfl (WO.fieldL rfl rfl rfl (WO.nil ⟨rfl,rfl⟩)) (DT.r rfl rfl rfl (WO.fieldL rfl rfl rfl (WO.nil ⟨rfl,rfl⟩)) (DT.b rfl rfl rfl (WO.load rfl rfl (Cell.own (Pick.tail (Pick.tail (Pick.head))) rfl) rfl (WO.nil ⟨rfl,rfl⟩)) (DT.b rfl rfl rfl (WO.callR (r:=bdV ⟨x.m,x.m,t.m0,t.m1⟩) rfl Tryz.call53 (fun L w hi=>c_exactly w _ _ _) rfl (WO.nil ⟨rfl,rfl⟩)) (DT.r rfl rfl rfl (WO.fieldL rfl rfl rfl (WO.nil ⟨rfl,rfl⟩)) (DT.b rfl rfl rfl (WO.load rfl rfl (Cell.own Pick.head rfl) rfl (WO.nil ⟨rfl,rfl⟩)) ?_))))))
 refine DT.r rfl rfl rfl (WO.fieldL rfl rfl rfl (WO.nil ⟨rfl,rfl⟩)) (DT.r rfl rfl rfl (WO.field0 rfl rfl rfl (WO.nil ⟨rfl,rfl⟩)) (DT.b rfl rfl rfl (WO.load rfl rfl (Cell.own (Pick.tail (Pick.tail (Pick.head))) rfl) rfl (WO.nil ⟨rfl,rfl⟩)) (DT.r rfl rfl rfl (WO.fieldL rfl rfl rfl (WO.nil ⟨rfl,rfl⟩)) (DT.r rfl rfl rfl (WO.fieldL rfl rfl rfl (WO.nil ⟨rfl,rfl⟩)) (DT.b rfl rfl rfl (WO.load rfl rfl (Cell.own (Pick.tail (Pick.tail (Pick.head))) rfl) rfl (WO.nil ⟨rfl,rfl⟩)) (DT.b rfl rfl rfl (WO.callR (r:=bdV ⟨x.b,x.b,t.b0,t.b1⟩) rfl Tryz.call53 (fun L w hi=>c_exactly w _ _ _) rfl (WO.nil ⟨rfl,rfl⟩)) (DT.r rfl rfl rfl (WO.fieldL rfl rfl rfl (WO.nil ⟨rfl,rfl⟩)) ?_)))))))
 refine DT.b rfl rfl rfl (WO.load rfl rfl (Cell.own Pick.head rfl) rfl (WO.nil ⟨rfl,rfl⟩)) (DT.r rfl rfl rfl (WO.fieldL rfl rfl rfl (WO.nil ⟨rfl,rfl⟩)) (DT.r rfl rfl rfl (WO.field0 rfl rfl rfl (WO.nil ⟨rfl,rfl⟩)) (DT.b rfl rfl rfl (WO.load rfl rfl (Cell.own (Pick.tail (Pick.tail (Pick.head))) rfl) rfl (WO.nil ⟨rfl,rfl⟩)) (DT.r rfl rfl rfl (WO.fieldL rfl rfl rfl (WO.nil ⟨rfl,rfl⟩)) (DT.r rfl rfl rfl (WO.fieldL rfl rfl rfl (WO.nil ⟨rfl,rfl⟩)) (DT.b rfl rfl rfl (WO.load rfl rfl (Cell.own (Pick.tail (Pick.tail (Pick.head))) rfl) rfl (WO.nil ⟨rfl,rfl⟩)) (DT.nil [_,_,_] rfl ?_)))))))
 refine WO.callR (r:=bdV ⟨x.r,x.r,t.r0,t.r1⟩) rfl Tryz.call53 (fun L w hi=>c_exactly w _ _ _) rfl ?_
 refine' WO.buildSl (cs:=_) rfl rfl rfl rfl ?hf rfl rfl ?hl rfl (fun v4=>?_)
 case hf=>(conv=>lhs;simp [-List.getD_eq_getElem?_getD,fillL,vcl,wrl,TTab.pl?.lget']) <;> rfl
 case hl=>rfl
 refine WO.call (Post:=fun r Hq=>∃ b,r=.func (.func 201) #[] #[.pointer (some ⟨b,0,none⟩)]∧Hq=[pt b (.cells #[.slice (some ⟨v4,0,none⟩) 6 6] 201 (0,0))]) rfl Tryz.call52 (fun L w hi=>c_bounds w _ rfl) rfl ?_
 rintro _ _ ⟨b9,rfl,rfl⟩
 refine WO.callR (r:=.bool true) rfl Tryz.call51 (fun L w hi=>c_good w ⟨b9,0,none⟩ _ [⟨x.f,x.f,t.f0,t.f1⟩,⟨x.ta,x.ta,t.t0,t.t1⟩,⟨x.se,x.se,t.s0,t.s1⟩,⟨x.m,x.m,t.m0,t.m1⟩,⟨x.b,x.b,t.b0,t.b1⟩,⟨x.r,x.r,t.r0,t.r1⟩] (Cap.of (b:=b9) (by repeat exact .head) rfl hi) (RdF.of_ow (e:=127) encBd_ok (by repeat first | exact .head | apply Pick.tail) hi) (fun b hb2=>by simp only [List.mem_cons,List.not_mem_nil,or_false] at hb2;rcases hb2 with rfl | rfl | rfl | rfl | rfl | rfl <;> (unfold OkBd;dsimp only;omega))) rfl (WO.p rfl rfl (WO.nil (W.cond_f rfl (W.skip (W.seq ?_)))))
 refine W.drawD 7 [.b 0 [],.r 1 [],.b 2 [],.r 3 [],.a 4 10 (.cells #[.int .i64 0,.int .i64 0,.int .i64 0,.int .i64 0,.int .i64 0,.int .i64 0,.int .i64 0,.int .i64 0,.int .i64 0,.int .i64 0,.int .i64 0,.int .i64 0,.int .i64 0,.int .i64 0,.int .i64 0,.int .i64 0] 115 (0,0)),.a 5 11 (.cells #[.slice none 0 0,.slice none 0 0] 130 (0,0)),.s 6 []] [] (A0:=[]) (Sub.refl _) (by kernel_rfl) ?_ ?_
 ·exact (ALok.b (ALok.r (ALok.b (ALok.r (ALok.cons rfl rfl rfl rfl rfl (ALok.cons rfl rfl rfl rfl rfl (ALok.s ALok.nil)))))))
 refine DT.b rfl rfl rfl (WO.loadA rfl rfl (Cells.own (Pick.tail (Pick.tail (Pick.tail (Pick.tail (Pick.head)))))) rfl rfl (WO.nil ⟨rfl,rfl⟩)) ?_
 refine' DT.r rfl rfl rfl ?hq ?_
 case hq =>
  refine' WO.build (cs:=_) rfl rfl rfl ?hf rfl ?_
  case hf=>(conv=>lhs;simp [-List.getD_eq_getElem?_getD,fillL,vcl,wrl,TTab.pl?.lget']) <;> rfl
  exact WO.nil ⟨rfl,rfl⟩
 refine DT.b rfl rfl rfl (WO.loadA rfl rfl (Cells.own (Pick.tail (Pick.tail (Pick.tail (Pick.head))))) rfl rfl (WO.nil ⟨rfl,rfl⟩)) ?_
 refine' DT.r rfl rfl rfl ?hq ?_
 case hq =>
  refine' WO.build (cs:=_) rfl rfl rfl ?hf rfl ?_
  case hf=>(conv=>lhs;simp [-List.getD_eq_getElem?_getD,fillL,vcl,wrl,TTab.pl?.lget']) <;> rfl
  exact WO.nil ⟨rfl,rfl⟩
 refine DT.a (fun b5=>(DT.a (fun b6=>(DT.s [_,_,_,_,_,_,_] rfl rfl rfl (WO.storeA rfl rfl rfl rfl (Pick.tail (Pick.head)) rfl (by rfl) ?_)))))
 refine WO.nil ⟨[_,_],rfl,rfl,(Keep.a (Keep.a (Keep.r (Keep.b (Keep.r (Keep.b Keep.nil)))))),?_⟩
 refine DT.nil [_,_,_,_,_,_,_] rfl (WO.storeA rfl rfl rfl rfl (Pick.tail (Pick.head)) rfl (by (rw [List.all_cons,hxo,List.all_cons,hyo];rfl)) (WO.nil (W.seq ?_)))
 refine W.drawD 7 [.b 0 [],.r 1 [],.b 2 [],.b 3 [],.b 4 [],.r 5 [],.b 6 []] [] (A0:=[]) (Sub.refl _) (by kernel_rfl) ?_ ?_
 ·repeat constructor
 refine DT.b rfl rfl rfl (WO.loadA rfl rfl (Cells.own (Pick.tail (Pick.head))) rfl rfl (WO.nil ⟨rfl,rfl⟩)) (DT.r rfl rfl rfl (WO.fieldL rfl rfl rfl (WO.nil ⟨rfl,rfl⟩)) (DT.b rfl rfl rfl (WO.load rfl rfl (Cell.own (Pick.tail (Pick.tail (Pick.tail (Pick.tail (Pick.head))))) rfl) rfl (WO.nil ⟨rfl,rfl⟩)) (DT.b rfl rfl rfl (WO.callR rfl Tryz.call54 (fun L w hi=>c_model w t x.ta h (by omega)) rfl (WO.nil ⟨rfl,rfl⟩)) (DT.b rfl rfl rfl (WO.loadA rfl rfl (Cells.own (Pick.tail (Pick.head))) rfl rfl (WO.nil ⟨rfl,rfl⟩)) (DT.r rfl rfl rfl (WO.fieldL rfl rfl rfl (WO.nil ⟨rfl,rfl⟩)) ?_)))))
 refine DT.b rfl rfl rfl (WO.load rfl rfl (Cell.own (Pick.tail (Pick.tail (Pick.tail (Pick.tail (Pick.head))))) rfl) rfl (WO.nil ⟨rfl,rfl⟩)) (DT.nil [_,_,_,_,_,_,_] rfl (WO.callR rfl Tryz.call55 (fun L w hi=>c_ship w t x.se h (by omega)) rfl (WO.p rfl rfl (WO.p rfl rfl (WO.nil (W.seq (W.sreg (WO.loadA rfl rfl (Cells.own Pick.head) rfl rfl (WO.p rfl rfl (WO.p rfl rfl (WO.min2 rfl rfl rfl (WO.p rfl rfl (WO.p rfl rfl (WO.max2 rfl rfl rfl ?_))))))))))))))
 refine' WO.build (cs:=_) rfl rfl rfl ?hf rfl ?_
 case hf=>(conv=>lhs;simp [-List.getD_eq_getElem?_getD,fillL,vcl,wrl,TTab.pl?.lget']) <;> rfl
 refine WO.callR rfl Tryz.call56 (fun L w hi=>c_has w v u xs _ _ hyo (hX.later hi) hL.n (by omega) (by omega)) rfl (WO.p rfl rfl (WO.nil (W.cond_f rfl (W.skip (W.sreg (WO.loadA rfl rfl (Cells.own (Pick.tail (Pick.head))) rfl rfl (WO.loadA rfl rfl (Cells.own Pick.head) rfl rfl (WO.loadA rfl rfl (Cells.own (Pick.tail (Pick.tail (Pick.tail (Pick.tail (Pick.head)))))) rfl rfl (WO.callR rfl Tryz.call57 (fun L w hi=>c_coef w t v u xs ys x h hin hx (hX.later hi) (hY.later hi) hL) rfl (WO.p rfl rfl (WO.p rfl rfl (WO.nil (W.ret ?_)))))))))))))
 exact fin.ret (Res.two rfl (RV.tmp rfl) (RV.tmp rfl)) rfl
def trN (t:Tst) (y0 y1 y2 y3 y4 y5:Int):Trt:=⟨t.f0+y0.tmod (t.f1-t.f0+1),t.t0+y1.tmod (t.t1-t.t0+1),t.s0+y2.tmod (t.s1-t.s0+1),t.m0+y3.tmod (t.m1-t.m0+1),t.b0+y4.tmod (t.b1-t.b0+1),t.r0+y5.tmod (t.r1-t.r0+1)⟩
theorem pkB {a b n:Int} (h:a≤b) (hn:0≤n):a≤a+n.tmod (b-a+1)∧a+n.tmod (b-a+1)≤b:=by
 have:=tmodB hn (show 0<b-a+1 by omega);omega
theorem trN_in {t:Tst} (h:OkTst t) {y0 y1 y2 y3 y4 y5:Int} (h0:0≤y0) (h1:0≤y1) (h2:0≤y2) (h3:0≤y3) (h4:0≤y4) (h5:0≤y5):TrtIn t (trN t y0 y1 y2 y3 y4 y5):=⟨pkB h.f.2.1 h0,pkB h.ta.2.1 h1,pkB h.se.2.1 h2,pkB h.m.2.1 h3,pkB h.b.2.1 h4,pkB h.r.2.1 h5⟩
theorem c_True4 (w:World) (t:Tst) (y0 y1 y2 y3 y4 y5:Int) (h:OkTst t) (h0:0≤y0∧y0≤4294967295) (h1:0≤y1∧y1≤4294967295) (h2:0≤y2∧y2≤4294967295) (h3:0≤y3∧y3≤4294967295) (h4:0≤y4∧y4≤4294967295) (h5:0≤y5∧y5≤4294967295):Ret Tryz.prog 18 [tstV t,.agg #[.int .u32 y0,.int .u32 y1,.int .u32 y2,.int .u32 y3,.int .u32 y4,.int .u32 y5]].toArray w (trtV (trN t y0 y1 y2 y3 y4 y5)):=by
 refine Ret.of mixed tyTab Tryz.func18 rfl rfl ?_
 have q1:=h.f
 have q2:=h.ta
 have q3:=h.se
 have q4:=h.m
 have q5:=h.b
 have q6:=h.r
 refine W.sreg (WO.boxA rfl rfl (fun b1 hb1=>(WO.boxA rfl rfl (fun b2 hb2=>(WO.alloc rfl rfl rfl (fun b3 hb3=>(WO.nil (W.seq ?_))))))))
 refine W.drawD 29 [.r 0 [],.b 1 [],.r 2 [],.b 3 [],.b 4 [],.r 5 [],.b 6 [],.r 7 [],.b 8 [],.b 9 [],.r 10 [],.b 11 [],.r 12 [],.b 13 [],.b 14 [],.r 15 [],.b 16 [],.r 17 [],.b 18 [],.b 19 [],.r 20 [],.b 21 [],.r 22 [],.b 23 [],.b 24 [],.r 25 [],.b 26 [],.r 27 [],.b 28 []] [] (A0:=[]) (Sub.refl _) (by kernel_rfl) ?_ ?_
 ·repeat constructor
 refine DT.r rfl rfl rfl (WO.fieldL rfl rfl rfl (WO.nil ⟨rfl,rfl⟩)) (DT.b rfl rfl rfl (WO.loadA rfl rfl (Cells.ownAt (n:=2) (Pick.tail (Pick.tail (Pick.head))) rfl) rfl rfl (WO.nil ⟨rfl,rfl⟩)) (DT.r rfl rfl rfl (WO.indexArrL (o':=0) rfl rfl rfl (by decide) rfl rfl (WO.nil ⟨rfl,rfl⟩)) (DT.b rfl rfl rfl (WO.load rfl rfl (Cell.own (Pick.tail (Pick.head)) rfl) rfl (WO.nil ⟨rfl,rfl⟩)) (DT.b rfl rfl rfl (WO.callR rfl Tryz.call58 (fun L w hi=>c_pick4 w t.f0 t.f1 y0 (by omega) h0) rfl (WO.nil ⟨rfl,rfl⟩)) (DT.r rfl rfl rfl (WO.fieldL rfl rfl rfl (WO.nil ⟨rfl,rfl⟩)) ?_)))))
 refine DT.b rfl rfl rfl (WO.loadA rfl rfl (Cells.ownAt (n:=2) (Pick.tail (Pick.tail (Pick.head))) rfl) rfl rfl (WO.nil ⟨rfl,rfl⟩)) (DT.r rfl rfl rfl (WO.indexArrL (o':=1) rfl rfl rfl (by decide) rfl rfl (WO.nil ⟨rfl,rfl⟩)) (DT.b rfl rfl rfl (WO.load rfl rfl (Cell.own (Pick.tail (Pick.head)) rfl) rfl (WO.nil ⟨rfl,rfl⟩)) (DT.b rfl rfl rfl (WO.callR rfl Tryz.call58 (fun L w hi=>c_pick4 w t.t0 t.t1 y1 (by omega) h1) rfl (WO.nil ⟨rfl,rfl⟩)) (DT.r rfl rfl rfl (WO.fieldL rfl rfl rfl (WO.nil ⟨rfl,rfl⟩)) (DT.b rfl rfl rfl (WO.loadA rfl rfl (Cells.ownAt (n:=2) (Pick.tail (Pick.tail (Pick.head))) rfl) rfl rfl (WO.nil ⟨rfl,rfl⟩)) ?_)))))
 refine DT.r rfl rfl rfl (WO.indexArrL (o':=2) rfl rfl rfl (by decide) rfl rfl (WO.nil ⟨rfl,rfl⟩)) (DT.b rfl rfl rfl (WO.load rfl rfl (Cell.own (Pick.tail (Pick.head)) rfl) rfl (WO.nil ⟨rfl,rfl⟩)) (DT.b rfl rfl rfl (WO.callR rfl Tryz.call58 (fun L w hi=>c_pick4 w t.s0 t.s1 y2 (by omega) h2) rfl (WO.nil ⟨rfl,rfl⟩)) (DT.r rfl rfl rfl (WO.fieldL rfl rfl rfl (WO.nil ⟨rfl,rfl⟩)) (DT.b rfl rfl rfl (WO.loadA rfl rfl (Cells.ownAt (n:=2) (Pick.tail (Pick.tail (Pick.head))) rfl) rfl rfl (WO.nil ⟨rfl,rfl⟩)) (DT.r rfl rfl rfl (WO.indexArrL (o':=3) rfl rfl rfl (by decide) rfl rfl (WO.nil ⟨rfl,rfl⟩)) ?_)))))
 refine DT.b rfl rfl rfl (WO.load rfl rfl (Cell.own (Pick.tail (Pick.head)) rfl) rfl (WO.nil ⟨rfl,rfl⟩)) (DT.b rfl rfl rfl (WO.callR rfl Tryz.call58 (fun L w hi=>c_pick4 w t.m0 t.m1 y3 (by omega) h3) rfl (WO.nil ⟨rfl,rfl⟩)) (DT.r rfl rfl rfl (WO.fieldL rfl rfl rfl (WO.nil ⟨rfl,rfl⟩)) (DT.b rfl rfl rfl (WO.loadA rfl rfl (Cells.ownAt (n:=2) (Pick.tail (Pick.tail (Pick.head))) rfl) rfl rfl (WO.nil ⟨rfl,rfl⟩)) (DT.r rfl rfl rfl (WO.indexArrL (o':=4) rfl rfl rfl (by decide) rfl rfl (WO.nil ⟨rfl,rfl⟩)) (DT.b rfl rfl rfl (WO.load rfl rfl (Cell.own (Pick.tail (Pick.head)) rfl) rfl (WO.nil ⟨rfl,rfl⟩)) ?_)))))
 refine DT.b rfl rfl rfl (WO.callR rfl Tryz.call58 (fun L w hi=>c_pick4 w t.b0 t.b1 y4 (by omega) h4) rfl (WO.nil ⟨rfl,rfl⟩)) (DT.r rfl rfl rfl (WO.fieldL rfl rfl rfl (WO.nil ⟨rfl,rfl⟩)) (DT.b rfl rfl rfl (WO.loadA rfl rfl (Cells.ownAt (n:=2) (Pick.tail (Pick.tail (Pick.head))) rfl) rfl rfl (WO.nil ⟨rfl,rfl⟩)) (DT.r rfl rfl rfl (WO.indexArrL (o':=5) rfl rfl rfl (by decide) rfl rfl (WO.nil ⟨rfl,rfl⟩)) (DT.b rfl rfl rfl (WO.load rfl rfl (Cell.own (Pick.tail (Pick.head)) rfl) rfl (WO.nil ⟨rfl,rfl⟩)) (DT.nil [_,_,_] rfl (WO.callR rfl Tryz.call58 (fun L w hi=>c_pick4 w t.r0 t.r1 y5 (by omega) h5) rfl ?_))))))
 refine' WO.build (cs:=_) rfl rfl rfl ?hf rfl ?_
 case hf=>(conv=>lhs;simp [-List.getD_eq_getElem?_getD,fillL,vcl,wrl,TTab.pl?.lget']) <;> rfl
 refine WO.storeA rfl rfl rfl rfl Pick.head rfl rfl (WO.nil (W.ret ?_))
 exact fin.ret (Res.one rfl (RV.cell rfl rfl rfl (Cells.own (by repeat exact .head)))) rfl
end Go.Proofs.YtfchgmiiicidcaaGreat
namespace Go.Proofs.YtfchgmiiicidcaaGreat
open Go Go.TH
attribute [local irreducible] W WO pt
set_option maxRecDepth 10000
set_option maxHeartbeats 2000000
theorem tab_get {T:List (List Int)} {i k a b:Nat} {x:Int} (hi:i<T.length) (hk:k<(T.getD i []).length):((T.set i ((T.getD i []).set k x)).getD a []).getD b 0=if a=i∧b=k then x else (T.getD a []).getD b 0:=by
 rw [List.getD_eq_getElem?_getD (l:=T.set _ _),List.getElem?_set]
 by_cases h1:i=a
 ·subst h1
  rw [if_pos rfl,if_pos hi]
  show ((T.getD i []).set k x).getD b 0=_
  rw [List.getD_eq_getElem?_getD,List.getElem?_set]
  by_cases h2:k=b
  ·subst h2;rw [if_pos rfl,if_pos hk,if_pos ⟨rfl,rfl⟩];rfl
  ·rw [if_neg h2,if_neg (fun h=>h2 h.2.symm),← List.getD_eq_getElem?_getD]
 ·rw [if_neg h1,if_neg (fun h=>h1 h.1.symm),← List.getD_eq_getElem?_getD]
theorem tab_row {T:List (List Int)} {i k a:Nat} {x:Int}:((T.set i ((T.getD i []).set k x)).getD a []).length=(T.getD a []).length:=by
 rw [List.getD_eq_getElem?_getD (l:=T.set _ _),List.getElem?_set]
 by_cases h1:i=a
 ·subst h1
  rw [if_pos rfl]
  by_cases h2:i<T.length
  ·rw [if_pos h2];simp
  ·rw [if_neg h2,List.getD_eq_getElem?_getD,List.getElem?_eq_none (by omega)]
 ·rw [if_neg h1,← List.getD_eq_getElem?_getD]
def FalI (A:List Int) (T:List (List Int)) (i k:Nat):Prop:=(∀ a,a<i→∀ b,b+1<A.length→Ch.tAt T a (b+1)≤Ch.tAt T a b)∧∀ b,b+1<k→Ch.tAt T i (b+1)≤Ch.tAt T i b
section
variable {P A:List Int} {R:Ch.Rws} {T:List (List Int)}
def falV (R:Ch.Rws) (T:List (List Int)) (i k:Nat):Int:=max (Ch.loAt R i k) (min (Ch.tAt T i k) (Ch.tAt T i (k-1)))
theorem fal_tr (hc:Ch.OkC P A R) (ht:Ch.OkTr R T) {i k:Nat} (hi:i<R.length) (hk:k<(R.getD i []).length):Ch.OkTr R (T.set i ((T.getD i []).set k (falV R T i k))):=by
 have hn:=ht.n
 have hm:=ht.m i hi
 refine ⟨by rw [List.length_set];exact hn,fun a ha=>by rw [tab_row];exact ht.m a ha,fun a ha b hb=>?_⟩
 rw [tab_get (by omega) (by omega)]
 have h1:=ht.v a ha b hb
 by_cases g:a=i∧b=k
 ·obtain ⟨rfl,rfl⟩:=g
  rw [if_pos ⟨rfl,rfl⟩]
  have h2:=hc.at_ hi hk
  unfold falV Ch.loAt Ch.tAt
  omega
 ·rw [if_neg g];exact h1
theorem fal_next (hc:Ch.OkC P A R) (ht:Ch.OkTr R T) {i k:Nat} (hi:i<R.length) (hk:k<(R.getD i []).length) (h0:0<k) (h:FalI A T i k):FalI A (T.set i ((T.getD i []).set k (falV R T i k))) i (k+1):=by
 have hn:=ht.n
 have hm:=ht.m i hi
 constructor
 ·intro a ha b hb
  unfold Ch.tAt
  rw [tab_get (by omega) (by omega),tab_get (by omega) (by omega),if_neg (by omega),if_neg (by omega)]
  exact h.1 a ha b hb
 ·intro b hb
  unfold Ch.tAt
  rw [tab_get (by omega) (by omega),tab_get (by omega) (by omega),if_neg (show ¬ (i=i∧b=k) by omega)]
  by_cases g:b+1=k
  ·rw [if_pos ⟨rfl,g⟩]
   have h1:=hc.fall hi (k:=b) (by omega)
   have h2:=(ht.v i hi b (by omega)).1
   unfold falV Ch.loAt Ch.tAt
   rw [← g]
   simp only [Nat.add_sub_cancel]
   omega
  ·rw [if_neg (by omega)]
   exact h.2 b (by omega)
theorem FalI.row (hl:∀ i,i<T.length→(T.getD i []).length=A.length) {i k:Nat} (h:FalI A T i k) (hk:A.length≤k):FalI A T (i+1) 1:=by
 refine ⟨fun a ha b hb=>?_,fun b hb=>by omega⟩
 rcases Nat.lt_or_ge a i with g | g
 ·exact h.1 a g b hb
 ·obtain rfl:a=i:=by omega
  exact h.2 b (by omega)
end
theorem c_Falling (w:World) (vp va o u:Value) (rv:List Value) (P A:List Int) (R:Ch.Rws) (bs:List Int) (hc:Ch.OkC P A R) (hbl:bs.length≤100) (hbs:∀ x∈bs,0≤x∧x≤4294967295) (hP:RdF encI 1 w.heap.size w vp P) (hA:RdF encI 1 w.heap.size w va A) (hR:RdR encP 2 w.heap.size w o rv R) (hB:RdF encU4 1 w.heap.size w u bs):Ct Tryz.prog 22 [.agg #[vp,va,o],u].toArray w fun r w'=>∃ Hq,(∃ Z:TZ,(r=Z.1∧FlT P A R Z.2.2)∧Hq=tzP R.length Z)∧Inv w [] Hq w':=by
 refine Ct.ofI (X:=TZ) (p:=fun Z r=>r=Z.1∧FlT P A R Z.2.2) (Hx:=tzP R.length) mixed tyTab Tryz.func22 rfl rfl ?_
 replace hR:RdR encP 2 (fnCx mixed tyTab Tryz.f22.ntmps w).B (fnCx mixed tyTab Tryz.f22.ntmps w).w0 o rv R:=hR
 replace hB:RdF encU4 1 (fnCx mixed tyTab Tryz.f22.ntmps w).B (fnCx mixed tyTab Tryz.f22.ntmps w).w0 u bs:=hB
 replace hP:RdF encI 1 (fnCx mixed tyTab Tryz.f22.ntmps w).B (fnCx mixed tyTab Tryz.f22.ntmps w).w0 vp P:=hP
 replace hA:RdF encI 1 (fnCx mixed tyTab Tryz.f22.ntmps w).B (fnCx mixed tyTab Tryz.f22.ntmps w).w0 va A:=hA
 have hop:=hP.sl.oc
 have hoa:=hA.sl.oc
 have hoo:=hR.sl.oc
 have hnp:=hc.np
 have hna:=hc.na
 have hnr:=hc.nr
 refine W.sreg (WO.boxA rfl rfl (fun b1 hb1=>(WO.p rfl rfl (WO.nil (W.sreg (WO.loadA rfl rfl (Cells.own Pick.head) rfl rfl (WO.p rfl rfl (WO.call (Post:=fun r Hq=>∃ Z:TZ,(r=Z.1∧Ch.OkTr R Z.2.2)∧Hq=tzP R.length Z) rfl Tryz.call66 (fun L w hi=>c_True w vp va o u rv P A R bs hc hbl hbs (hP.later hi) (hA.later hi) (hR.later hi) (hB.later hi)) rfl ?_))))))))
 rintro tv _ ⟨⟨_,rvT,T0⟩,⟨rfl,htr0⟩,rfl⟩
 unfold tzP
 dsimp only at htr0 ⊢
 refine WO.p rfl rfl (WO.nil (W.seq (W.fact (OwC.sl (e:=22) (sz:=1) (n:=R.length) (v:=tv) (cs:=rvT) (by repeat exact .head)) (fun hts=>(W.fact (RowsE.rowsLen (enc:=encI) (e:=2) (sz:=1) (rv:=rvT) (xss:=T0) (by repeat first | exact .head | apply Pick.tail)) (fun hrl0=>?_))))))
 have hrl:rvT.length=R.length:=by rw [hrl0];exact htr0.n
 refine W.sreg (WO.p rfl rfl (WO.nil (W.block ?_)))
 refine W.loop2 (fun (i:Nat) (T:List (List Int))=>i≤R.length∧Ch.OkTr R T∧FalI A T i 1)
  (fun (i:Nat) (T:List (List Int))=>[(6,.int .i64 (i:Int)),(5,tv),(2,.pointer (some ⟨b1,0,none⟩))])
  (fun (i:Nat) (T:List (List Int))=>[pt b1 (.cells #[vp,va,o] 25 (0,0)),OwC 22 1 tv R.length rvT,RowsE encI 2 1 rvT T])
  (fun (i:Nat) (T:List (List Int))=>R.length-i) 0 T0
  (by exact ⟨by omega,htr0,fun a ha=>by omega,fun b hb=>by omega⟩) ⟨rfl,rfl,rfl,trivial⟩ (by repeat (first | exact Sub.nil | refine Sub.cons (by repeat first | exact .head | apply Pick.tail) ?_)) ?_
 rintro i T ⟨hi0,htr,hfa⟩
 refine W.seq (W.sreg (WO.p rfl rfl (WO.p rfl rfl (WO.len rfl rfl hts rfl (WO.p rfl rfl (WO.nil ?_))))))
 refine W.cond_bl rfl (fun c1=>?_) (fun c1=>?_)
 ·refine W.skip (W.seq (W.block (W.sreg (WO.p rfl rfl (WO.nil (W.block ?_))))))
  refine W.loop2 (fun (k:Nat) (T:List (List Int))=>1≤k∧k≤A.length∧Ch.OkTr R T∧FalI A T i k)
   (fun (k:Nat) (T:List (List Int))=>[(7,.int .i64 (k:Int)),(6,.int .i64 (i:Int)),(5,tv),(2,.pointer (some ⟨b1,0,none⟩))])
   (fun (k:Nat) (T:List (List Int))=>[pt b1 (.cells #[vp,va,o] 25 (0,0)),OwC 22 1 tv R.length rvT,RowsE encI 2 1 rvT T])
   (fun (k:Nat) (T:List (List Int))=>A.length-k) 1 T
   (by exact ⟨by omega,by omega,htr,hfa⟩) ⟨rfl,rfl,rfl,rfl,trivial⟩ (by repeat (first | exact Sub.nil | refine Sub.cons (by repeat exact .head) ?_)) ?_
  rintro k T ⟨hk0,hk1,htr,hfa⟩
  refine W.seq ?_
  have hm:=htr.m i (by omega)
  have htn:=htr.n
  have hrw:=hc.row (show i<R.length by omega)
  refine W.fact (RowsE.rowSl (enc:=encI) (e:=2) (sz:=1) (rv:=rvT) (xss:=T) (i:=i) (by repeat first | exact .head | apply Pick.tail) (by omega)) (fun hrs=>(W.sreg (WO.p rfl rfl (WO.p rfl rfl (WO.p rfl rfl (WO.indexAddr rfl rfl rfl hts (by omega) rfl ?_))))))
  refine' WO.load (v:=_) rfl rfl ?hc rfl ?_
  case hc=>(first | (refine OwC.cell1s (e:=22) (n:=R.length) (cs:=rvT) (i:=i) ?_ (by omega);exact (by repeat (first | exact Sub.nil | refine Sub.cons (by repeat first | exact .head | apply Pick.tail) ?_))))
  refine WO.len rfl rfl hrs rfl (WO.p rfl rfl (WO.nil ?_))
  refine W.cond_bl rfl (fun c2=>?_) (fun c2=>?_)
  ·refine W.skip (W.seq (W.block ?_))
   refine W.drawD 31 [.r 0 [],.r 1 [],.r 2 [],.b 3 [],.r 4 [],.r 5 [],.b 6 [],.r 7 [],.r 8 [],.b 9 [],.r 10 [],.r 11 [],.r 12 [],.b 13 [],.r 14 [],.r 15 [],.r 16 [],.b 17 [],.r 18 [],.r 19 [],.f 20 [],.r 21 [],.r 22 [],.r 23 [],.b 24 [],.r 25 [],.r 26 [],.r 27 [],.f 28 [],.r 29 [],.r 30 []] [] (A0:=[_]) (H0:=[_,_]) (.cons (Pick.tail (Pick.tail .head)) (.cons .head (.cons .head .nil))) (by kernel_rfl) ?_ ?_
   ·repeat constructor
   refine DT.r rfl rfl rfl (WO.p rfl rfl (WO.nil ⟨rfl,rfl⟩)) (DT.r rfl rfl rfl (WO.p rfl rfl (WO.nil ⟨rfl,rfl⟩)) (DT.r rfl rfl rfl (WO.indexAddr rfl rfl rfl hts (by omega) rfl (WO.nil ⟨rfl,rfl⟩)) ?_))
   refine' DT.b rfl rfl rfl ?hq ?_
   case hq =>
    refine' WO.load (v:=_) rfl rfl ?hc rfl ?_
    case hc=>(first | (refine OwC.cell1s (e:=22) (n:=R.length) (cs:=rvT) (i:=i) ?_ (by omega);exact (by repeat (first | exact Sub.nil | refine Sub.cons (by repeat first | exact .head | apply Pick.tail) ?_))))
    exact WO.nil ⟨rfl,rfl⟩
   refine DT.r rfl rfl rfl (WO.p rfl rfl (WO.nil ⟨rfl,rfl⟩)) (DT.r rfl rfl rfl (WO.fieldL rfl rfl rfl (WO.nil ⟨rfl,rfl⟩)) (DT.b rfl rfl rfl (WO.load rfl rfl (Cell.own Pick.head rfl) rfl (WO.nil ⟨rfl,rfl⟩)) (DT.r rfl rfl rfl (WO.p rfl rfl (WO.nil ⟨rfl,rfl⟩)) (DT.r rfl rfl rfl (WO.indexAddr rfl rfl rfl hR.sl (by omega) rfl (WO.nil ⟨rfl,rfl⟩)) ?_))))
   refine' DT.b rfl rfl rfl ?hq ?_
   case hq =>
    refine' WO.load (v:=_) rfl rfl ?hc rfl ?_
    case hc=>((refine hR.cellV ?_;omega))
    exact WO.nil ⟨rfl,rfl⟩
   refine DT.r rfl rfl rfl (WO.p rfl rfl (WO.nil ⟨rfl,rfl⟩)) ?_
   refine' DT.r rfl rfl rfl ?hq ?_
   case hq =>
    refine' WO.indexAddr (n:=_) (i:=_) rfl rfl rfl ?hs ?h1 rfl ?_
    case hs=>((refine (hR.row i ?_).sl;omega))
    case h1=>(omega)
    exact WO.nil ⟨rfl,rfl⟩
   refine DT.r rfl rfl rfl (WO.field0 rfl rfl rfl (WO.nil ⟨rfl,rfl⟩)) ?_
   refine' DT.b rfl rfl rfl ?hq ?_
   case hq =>
    refine' WO.load (v:=_) rfl rfl ?hc rfl ?_
    case hc=>(first | (refine (hR.row i ?_).cell0 (i:=k) ?_ (0,0) ?_ <;> first | rfl | omega))
    exact WO.nil ⟨rfl,rfl⟩
   refine DT.r rfl rfl rfl (WO.p rfl rfl (WO.nil ⟨rfl,rfl⟩)) (DT.r rfl rfl rfl (WO.p rfl rfl (WO.nil ⟨rfl,rfl⟩)) (DT.r rfl rfl rfl (WO.indexAddr rfl rfl rfl hts (by omega) rfl (WO.nil ⟨rfl,rfl⟩)) ?_))
   refine' DT.b rfl rfl rfl ?hq ?_
   case hq =>
    refine' WO.load (v:=_) rfl rfl ?hc rfl ?_
    case hc=>(first | (refine OwC.cell1s (e:=22) (n:=R.length) (cs:=rvT) (i:=i) ?_ (by omega);exact (by repeat (first | exact Sub.nil | refine Sub.cons (by repeat first | exact .head | apply Pick.tail) ?_))))
    exact WO.nil ⟨rfl,rfl⟩
   refine DT.r rfl rfl rfl (WO.p rfl rfl (WO.nil ⟨rfl,rfl⟩)) (DT.r rfl rfl rfl (WO.indexAddr rfl rfl rfl hrs (by omega) rfl (WO.nil ⟨rfl,rfl⟩)) ?_)
   refine' DT.f [_,_,_] rfl rfl rfl rfl ?hq ?_
   case hq =>
    refine' WO.load (v:=_) rfl rfl ?hc rfl ?_
    case hc=>(first | (refine Tcell (rv:=rvT) (xss:=T) (i:=i) (k:=k) ?_ (by omega) (by omega);exact (by repeat (first | exact Sub.nil | refine Sub.cons (by repeat exact .head) ?_))))
    exact WO.nil ⟨rfl,rfl⟩
   refine DT.r rfl rfl rfl (WO.p rfl rfl (WO.nil ⟨rfl,rfl⟩)) (DT.r rfl rfl rfl (WO.p rfl rfl (WO.nil ⟨rfl,rfl⟩)) (DT.r rfl rfl rfl (WO.indexAddr rfl rfl rfl hts (by omega) rfl (WO.nil ⟨rfl,rfl⟩)) ?_))
   refine' DT.b rfl rfl rfl ?hq ?_
   case hq =>
    refine' WO.load (v:=_) rfl rfl ?hc rfl ?_
    case hc=>(first | (refine OwC.cell1s (e:=22) (n:=R.length) (cs:=rvT) (i:=i) ?_ (by omega);exact (by repeat (first | exact Sub.nil | refine Sub.cons (by repeat first | exact .head | apply Pick.tail) ?_))))
    exact WO.nil ⟨rfl,rfl⟩
   refine DT.r rfl rfl rfl (WO.p rfl rfl (WO.nil ⟨rfl,rfl⟩)) (DT.r rfl rfl rfl (WO.ar rfl rfl rfl (by unfold in64;omega) rfl (WO.nil ⟨rfl,rfl⟩)) ?_)
   refine' DT.r rfl rfl rfl ?hq ?_
   case hq =>
    refine' WO.indexAddrZ (n:=_) rfl rfl rfl ?hs ?h00 ?h1 rfl ?_
    case hs=>exact hrs
    case h00=>omega
    case h1=>(omega)
    exact WO.nil ⟨rfl,rfl⟩
   refine' DT.f [_,_,_] rfl rfl rfl rfl ?hq ?_
   case hq =>
    refine' WO.load (v:=_) rfl rfl ?hc rfl ?_
    case hc=>(first | (refine Tcell (rv:=rvT) (xss:=T) (i:=i) (k:=((k:Int)-1).toNat) ?_ (by omega) (by omega);exact (by repeat (first | exact Sub.nil | refine Sub.cons (by repeat exact .head) ?_))))
    exact WO.nil ⟨rfl,rfl⟩
   refine DT.r rfl rfl rfl (WO.min2 rfl rfl rfl (WO.nil ⟨rfl,rfl⟩)) (DT.r rfl rfl rfl (WO.max2 rfl rfl rfl (WO.nil ⟨rfl,rfl⟩)) (DT.nil [_,_,_] rfl (WO.indexAddr rfl rfl rfl hrs (by omega) rfl (WO.storeRow (xss:=T) (i:=i) (k:=k) (n:=falV R T i k) encI_ok rfl rfl (by unfold falV;rw [show k-1=((k:Int)-1).toNat by omega];rfl) rfl (by repeat exact .head) (by omega) (by omega) (WO.nil (W.region (WO.p rfl rfl (WO.ar rfl rfl rfl (by unfold in64;omega) rfl (WO.p rfl rfl (WO.nil ?_))))))))))
   refine' ⟨k+1,_,?hp,?hmu,⟨rfl,rfl,rfl,rfl,trivial⟩,?hS⟩
   case hS=>repeat (first | exact Sub.nil | refine Sub.cons (by repeat first | exact .head | apply Pick.tail) ?_)
   case hp=>exact ⟨by omega,by omega,fal_tr hc htr (by omega) (by omega),fal_next hc htr (by omega) (by omega) (by omega) hfa⟩
   case hmu=>omega
  ·refine W.exit (blk_same (W.region (WO.p rfl rfl (WO.ar rfl rfl rfl (by unfold in64;omega) rfl (WO.p rfl rfl (WO.nil ?_))))))
   refine' ⟨i+1,_,?hp,?hmu,⟨rfl,rfl,rfl,trivial⟩,?hS⟩
   case hS=>repeat (first | exact Sub.nil | refine Sub.cons (by repeat exact .head) ?_)
   case hp=>exact ⟨by omega,htr,hfa.row (fun j hj=>by rw [htr.m j (by omega),hc.row (by omega)]) (by omega)⟩
   case hmu=>omega
 ·refine W.exit (blk_same ?_)
  obtain rfl:i=R.length:=by omega
  refine W.sreg (WO.p rfl rfl (WO.p rfl rfl (WO.nil (W.ret ?_))))
  exact fin.ret (Res.one rfl (RV.tmp rfl)) ⟨(tv,rvT,T),⟨rfl,⟨htr,fun a ha b hb=>hfa.1 a (by omega) b hb⟩⟩,fun h hs=>Sub.sat (by repeat (first | exact Sub.nil | refine Sub.cons (by repeat first | exact .head | apply Pick.tail) ?_)) hs⟩
end Go.Proofs.YtfchgmiiicidcaaGreat
namespace Go.Proofs.YtfchgmiiicidcaaGreat.Sp
open Go Go.TH
attribute [local irreducible] W WO pt
set_option maxRecDepth 10000
set_option maxHeartbeats 1000000
structure Sd where
 a:Int
 b:Int
 c:Int
def encSd (s:Sd):List Value:=[.int .i64 s.a,.int .i64 s.b,.int .i64 s.c]
theorem encSd_ok:EncOk encSd 3:=⟨fun _=>rfl,fun x u hu=>by simp [encSd] at hu;rcases hu with rfl | rfl | rfl <;> rfl,by omega⟩
def sd0:Sd:=⟨0,0,0⟩
def loS (r:Rn):Sd:=⟨r.p,r.q,r.lo⟩
def hiS (r:Rn):Sd:=⟨-r.p,-r.q,-r.hi⟩
def crs (s o:Sd):Int:=s.a*o.b-s.b*o.a
def byS (s:Sd) (n:Int):Sd:=⟨s.a*n,s.b*n,s.c*n⟩
def ab (n:Int):Int:=max n (-n)
def siz (s:Sd):Int:=ab s.a+ab s.b
def addS (s o:Sd):Sd:=⟨s.a+o.a,s.b+o.b,s.c+o.c⟩
structure OkS (A B:Int) (s:Sd):Prop where
 a : -A≤s.a∧s.a≤A
 b : -A≤s.b∧s.b≤A
 c : -B≤s.c∧s.c≤B
theorem OkS.lo {r:Rn} (h:OkRn r):OkS 20 100000 (loS r):=by
 obtain ⟨h1,h2,_,h3,h4,h5⟩:=h
 unfold OkN at h1 h2
 exact ⟨h1,h2,by show _≤r.lo∧r.lo≤_;omega⟩
theorem OkS.hi {r:Rn} (h:OkRn r):OkS 20 100000 (hiS r):=by
 obtain ⟨h1,h2,_,h3,h4,h5⟩:=h
 unfold OkN at h1 h2
 exact ⟨by show _ ≤ -r.p ∧ -r.p≤_;omega,by show _ ≤ -r.q ∧ -r.q≤_;omega,by show _ ≤ -r.hi ∧ -r.hi≤_;omega⟩
theorem OkS.by_ {s:Sd} {A B N n:Int} (h:OkS A B s) (hn : -N≤n∧n≤N):OkS (A*N) (B*N) (byS s n):=⟨mul_bd h.a hn,mul_bd h.b hn,mul_bd h.c hn⟩
theorem OkS.up {s:Sd} {A B A' B':Int} (h:OkS A B s) (hA:A≤A') (hB:B≤B'):OkS A' B' s:=by
 obtain ⟨h1,h2,h3⟩:=h
 exact ⟨by omega,by omega,by omega⟩
theorem crs_bd {s o:Sd} {B B':Int} (h:OkS 20 B s) (g:OkS 20 B' o):(-400≤s.a*o.b∧s.a*o.b≤400)∧(-400≤s.b*o.a∧s.b*o.a≤400) ∧ -800≤crs s o∧crs s o≤800:=by
 have h1:=mul_bd h.a g.b
 have h2:=mul_bd h.b g.a
 unfold crs
 omega
theorem siz_bd {s:Sd} {B:Int} (h:OkS 20 B s):0≤siz s∧siz s≤40:=by
 obtain ⟨h1,h2,_⟩:=h
 unfold siz ab;omega
end Go.Proofs.YtfchgmiiicidcaaGreat.Sp
namespace Go.Proofs.YtfchgmiiicidcaaGreat.Sp
open Go Go.TH
attribute [local irreducible] W WO pt
set_option maxRecDepth 10000
set_option maxHeartbeats 1000000
def gcd2 (a b:Int):Int:=(Nat.gcd a.toNat b.toNat:Nat)
theorem gcd2_zero {a:Int} (h:0≤a):gcd2 a 0=a:=by simp [gcd2];omega
theorem gcd2_step {a b:Int} (ha:0≤a) (hb:0<b):gcd2 b (a.tmod b)=gcd2 a b:=by
 unfold gcd2
 obtain ⟨n,rfl⟩:=Int.eq_ofNat_of_zero_le ha
 obtain ⟨m,rfl⟩:=Int.eq_ofNat_of_zero_le (Int.le_of_lt hb)
 rw [Int.tmod_eq_emod_of_nonneg (by omega),← Int.natCast_emod]
 simp only [Int.toNat_natCast]
 rw [Nat.gcd_comm m (n%m),← Nat.gcd_rec,Nat.gcd_comm]
theorem tmod_lt {a b:Int} (ha:0≤a) (hb:0<b):0≤a.tmod b∧a.tmod b<b:=⟨Int.tmod_nonneg b ha,Int.tmod_lt_of_pos a hb⟩
theorem gcd2_pos {a b:Int} (hb:0<b):0<gcd2 a b:=by
 unfold gcd2
 have:0<Nat.gcd a.toNat b.toNat:=Nat.gcd_pos_of_pos_right _ (by omega)
 omega
theorem ab_nn (n:Int):0≤ab n:=by unfold ab;omega
def red (n d:Int):Int × Int:=(n.tdiv (gcd2 (ab n) d),d.tdiv (gcd2 (ab n) d))
abbrev raV (r:Int × Int):Value:=.agg #[.int .i64 r.1,.int .i64 r.2]
theorem gcd2_dvd (n:Int) {d:Int} (hd:0<d):gcd2 (ab n) d∣n∧gcd2 (ab n) d∣d:=by
 unfold gcd2
 have h1:(Nat.gcd (ab n).toNat d.toNat:Int)∣((ab n).toNat:Int):=Int.natCast_dvd_natCast.2 (Nat.gcd_dvd_left _ _)
 have h2:(Nat.gcd (ab n).toNat d.toNat:Int)∣(d.toNat:Int):=Int.natCast_dvd_natCast.2 (Nat.gcd_dvd_right _ _)
 rw [Int.toNat_of_nonneg (ab_nn n)] at h1
 rw [Int.toNat_of_nonneg (by omega)] at h2
 refine ⟨?_,h2⟩
 unfold ab at h1 ⊢
 rcases Int.le_total 0 n with h | h
 ·rwa [show max n (-n)=n by omega] at h1 ⊢
 ·rw [show max n (-n) = -n by omega] at h1 ⊢;exact Int.dvd_neg.1 h1
theorem red_parts (n:Int) {d:Int} (hd:0<d):∃ g:Int,0<g∧n=(red n d).1*g∧d=(red n d).2*g∧0<(red n d).2∧(red n d).2≤d∧ab (red n d).1≤ab n:=by
 have hg:=gcd2_pos (a:=ab n) hd
 obtain ⟨⟨x,hx⟩,⟨y,hy⟩⟩:=gcd2_dvd n hd
 have e1:n.tdiv (gcd2 (ab n) d)=x:=by
  generalize gcd2 (ab n) d=g at *
  rw [hx,Int.mul_tdiv_cancel_left _ (by omega)]
 have e2:d.tdiv (gcd2 (ab n) d)=y:=by
  generalize gcd2 (ab n) d=g at *
  rw [hy,Int.mul_tdiv_cancel_left _ (by omega)]
 have e3:red n d=(x,y):=by unfold red;rw [e1,e2]
 rw [e3]
 generalize gcd2 (ab n) d=g at *
 have hy0:0<y:=by
  rcases Int.lt_or_le 0 y with h | h
  ·exact h
  ·have:=Int.mul_nonneg (show 0≤g by omega) (show 0 ≤ -y by omega)
   rw [Int.mul_neg] at this;omega
 refine ⟨g,hg,by rw [hx];exact Int.mul_comm _ _,by rw [hy];exact Int.mul_comm _ _,hy0,?_,?_⟩
 ·show y≤d
  have:=Int.mul_le_mul_of_nonneg_right (show 1≤g by omega) (show 0≤y by omega)
  omega
 ·show ab x≤ab n
  rw [hx]
  unfold ab
  rcases Int.le_total 0 x with h | h
  ·have a1:=Int.mul_le_mul_of_nonneg_right (show 1≤g by omega) h
   rw [Int.one_mul] at a1;omega
  ·have a1:=Int.mul_le_mul_of_nonneg_right (show 1≤g by omega) (show 0 ≤ -x by omega)
   rw [Int.one_mul,Int.mul_neg] at a1;omega
theorem tdiv_bd {n g:Int} (hg:0<g) (h : -4000000000000000000≤n∧n≤4000000000000000000) : -4000000000000000000≤n.tdiv g∧n.tdiv g≤4000000000000000000:=by
 rcases Int.le_total 0 n with h0 | h0
 ·have h1:=Int.tdiv_nonneg (a:=n) (b:=g) h0 (by omega)
  have h2:=Int.tdiv_le_self (a:=n) g h0
  omega
 ·have h1:=Int.tdiv_nonneg (a := -n) (b:=g) (by omega) (by omega)
  have h2:=Int.tdiv_le_self (a := -n) g (by omega)
  rw [Int.neg_tdiv] at h1 h2;omega
end Go.Proofs.YtfchgmiiicidcaaGreat.Sp
namespace Go.Proofs.YtfchgmiiicidcaaGreat.Sp
open Go Go.TH
attribute [local irreducible] W WO pt
set_option maxRecDepth 10000
set_option maxHeartbeats 1000000
def encPr (r:Rn):List Value:=[.int .i64 r.p,.int .i64 r.q,.int .i64 r.lo,.int .i64 r.hi,.int .i64 r.p,.int .i64 r.q,.int .i64 r.lo,.int .i64 (-r.p),.int .i64 (-r.q),.int .i64 (-r.hi)]
theorem encPr_ok:EncOk encPr 10:=⟨fun _=>rfl,fun x u hu=>by simp [encPr] at hu;rcases hu with rfl | rfl | rfl | rfl | rfl | rfl | rfl | rfl | rfl | rfl <;> rfl,by omega⟩
def sds (l:List Rn):List Sd:=l.flatMap fun r=>[loS r,hiS r]
theorem sds_ok {l:List Rn} (h:OkRs l):∀ s∈sds l,OkS 20 100000 s:=fun s hs=>by
 obtain ⟨r,hr,hm⟩:=List.mem_flatMap.1 hs
 have:s=loS r∨s=hiS r:=by simpa using hm
 rcases this with rfl | rfl
 ·exact OkS.lo (h r hr)
 ·exact OkS.hi (h r hr)
structure Tbl (B:Nat) (w:World) (p:Addr) (rv sv:Value) (l:List Rn):Prop where
 c:RdC B w p [rv,sv]
 r:RdF encPr 10 B w rv l
 s:RdF encSd 3 B w sv (sds l)
theorem Tbl.later {C:Cx Tryz.prog} {H L:List HP} {w:World} {p:Addr} {rv sv:Value} {l:List Rn} (h:Tbl C.B C.w0 p rv sv l) (hi:Inv C.w0 C.M (L++H) w):Tbl w.heap.size w p rv sv l:=⟨h.c.later hi,h.r.later hi,h.s.later hi⟩
theorem Tbl.agree {B:Nat} {w w':World} {p:Addr} {rv sv:Value} {l:List Rn} (h:Tbl B w p rv sv l) (hk:∀ k,k<B→w'.heap[k]?=w.heap[k]?):Tbl B w' p rv sv l:=⟨h.c.agree hk,h.r.agree hk,h.s.agree hk⟩
theorem Tbl.own {C:Cx Tryz.prog} {H H1 H2 H3 L:List HP} {w:World} {b:Nat} {rv sv:Value} {l:List Rn} (p:Pick (pt b (.cells #[rv,sv] 287 (0,0))) H H1) (q:Pick (OwE encPr 262 10 rv l) H H2) (r:Pick (OwE encSd 101 3 sv (sds l)) H H3) (hi:Inv C.w0 C.M (L++H) w):Tbl w.heap.size w ⟨b,0,none⟩ rv sv l :=
 ⟨RdC.own p hi,RdF.of_ow encPr_ok q hi,RdF.of_ow encSd_ok r hi⟩
theorem isSl_lit {a0:Option Addr} {n c:Nat} (h:n≤9223372036854775807) (h2:0<n→∃ b o,a0=some ⟨b,o,none⟩):IsSl (.slice a0 n c) n:=⟨h,a0,c,rfl,h2⟩
end Go.Proofs.YtfchgmiiicidcaaGreat.Sp
namespace Go.Proofs.YtfchgmiiicidcaaGreat.Sp
open Go Go.TH
attribute [local irreducible] W WO pt
set_option maxRecDepth 10000
set_option maxHeartbeats 1000000
def seg {β:Type} (lo hi:Nat) (g:Nat→List β):List β:=(List.range (hi-lo)).flatMap fun t=>g (lo+t)
theorem mem_seg {β:Type} {lo hi:Nat} {g:Nat→List β} {x:β}:x∈seg lo hi g↔∃ i,lo≤i∧i<hi∧x∈g i:=by
 unfold seg
 simp only [List.mem_flatMap,List.mem_range]
 constructor
 ·rintro ⟨t,ht,hx⟩;exact ⟨lo+t,by omega,by omega,hx⟩
 ·rintro ⟨i,h1,h2,hx⟩;exact ⟨i-lo,by omega,by rw [show lo+(i-lo)=i by omega];exact hx⟩
def F3 (n a b:Nat):List (List Int):=seg (b+1) n fun c=>[[(a:Int),(b:Int),(c:Int)]]
def F2 (m n a b:Nat):List (List Int):=[(a:Int),(b:Int)]::(if m=3 then F3 n a b else [])
def F1 (m n a:Nat):List (List Int):=[(a:Int)]::seg (a+1) n (F2 m n a)
def grp (m n:Nat):List (List Int):=seg 0 n (F1 m n)
def qa (m n a:Nat):Nat:=(seg 0 a (F1 m n)).length
def qb (m n a b:Nat):Nat:=qa m n a+((seg (a+1) b (F2 m n a)).length+1)
def qc (m n a b c:Nat):Nat:=qb m n a b+((c-(b+1))+1)
end Go.Proofs.YtfchgmiiicidcaaGreat.Sp
namespace Go.Proofs.YtfchgmiiicidcaaGreat.Sp
open Go Go.TH
attribute [local irreducible] W WO pt
set_option maxRecDepth 10000
set_option maxHeartbeats 1000000
def tkS (S:List Sd) (g ys:List Int):Nat→Sd
 | 0=>sd0
 | i+1=>addS (tkS S g ys i) (byS (S.getD (g.getD i 0).toNat sd0) (ys.getD i 0))
theorem tkS_bd {S:List Sd} (hS:∀ s∈S,OkS 20 100000 s) {g ys:List Int} (hg:∀ x∈g,0≤x∧x<S.length) (hy:∀ y∈ys,-1000≤y∧y≤1000) (hl:ys.length=g.length):∀ {i:Nat},i≤g.length→OkS (100000000*i) (100000000*i) (tkS S g ys i)
 | 0,_=>⟨by simp [tkS,sd0],by simp [tkS,sd0],by simp [tkS,sd0]⟩
 | i+1,h=>by
  have h1:=tkS_bd hS hg hy hl (i:=i) (by omega)
  have hx:=hg _ (getD_mem (show i<g.length by omega) 0)
  have h2:=(hS _ (getD_mem (show (g.getD i 0).toNat<S.length by omega) sd0)).by_ (hy _ (getD_mem (show i<ys.length by omega) 0))
  have e:(100000000:Int)*((i+1:Nat):Int)=100000000*i+100000000:=by omega
  rw [e]
  obtain ⟨a1,a2,a3⟩:=h1
  obtain ⟨b1,b2,b3⟩:=h2
  exact ⟨by show _≤_+_∧_+_≤_;omega,by show _≤_+_∧_+_≤_;omega,by show _≤_+_∧_+_≤_;omega⟩
end Go.Proofs.YtfchgmiiicidcaaGreat.Sp
namespace Go.Proofs.YtfchgmiiicidcaaGreat.Sp
open Go Go.TH
attribute [local irreducible] W WO pt
set_option maxRecDepth 10000
set_option maxHeartbeats 1000000
section
variable {P:Program} {C:Cx P} {E:Env} {H:List HP}
variable {ops:Array Oper} {K:KP} {rest:List Oper} {d:Nat} {ty:TypeId} {pos:String} {af:Array Edge} {x y z:Operand} {T:TypeId}
end
abbrev atS (S:List Sd) (g:List Int) (i:Nat):Sd:=S.getD (g.getD i 0).toNat sd0
def fit2 (a b:Sd) (x y:Int):Prop:=crs a b=0∧(addS (byS a x) (byS b y)).a=0∧(addS (byS a x) (byS b y)).b=0
instance (a b:Sd) (x y:Int):Decidable (fit2 a b x y):=by unfold fit2;infer_instance
def zr2 (a b:Sd):Option (List Int):=if fit2 a b (siz b) (siz a) then some [siz b,siz a] else none
def zr3 (a b c:Sd):Option (List Int) :=
 let x:=crs b c
 let y:=crs c a
 let z:=crs a b
 if max (max x y) z<0 then (if 0<min (min (-x) (-y)) (-z) then some [-x,-y,-z] else none)
 else (if 0<min (min x y) z then some [x,y,z] else none)
def zrY (S:List Sd) (g:List Int):Option (List Int) :=
 if g.length=2 then zr2 (atS S g 0) (atS S g 1) else if g.length=3 then zr3 (atS S g 0) (atS S g 1) (atS S g 2) else none
theorem zrY_len {S:List Sd} {g ys:List Int} (h:zrY S g=some ys):ys.length=g.length:=by
 unfold zrY at h
 split at h
 ·rename_i h2
  unfold zr2 at h
  split at h
  ·cases h;exact h2.symm
  ·cases h
 ·split at h
  ·rename_i h3
   unfold zr3 at h
   dsimp only at h
   split at h
   ·split at h
    ·cases h;exact h3.symm
    ·cases h
   ·split at h
    ·cases h;exact h3.symm
    ·cases h
  ·cases h
def zrS (S:List Sd) (g:List Int) (o:Option (List Int)):Sd:=match o with
 | some ys=>tkS S g ys g.length
 | none=>sd0
def zrT (o:Option (List Int)):Int:=if o.isSome=true then 1 else 0
structure Grp (n:Nat) (g:List Int):Prop where
 len:1≤g.length∧g.length≤3
 nd:g.Nodup
 rng:∀ x∈g,0≤x∧x<n
theorem grp_ok {m n:Nat} (hm:m=2∨m=3) {g:List Int} (h:g∈grp m n):Grp n g∧g.length≤m:=by
 obtain ⟨a,_,ha,h⟩:=mem_seg.1 h
 unfold F1 at h
 rcases List.mem_cons.1 h with rfl | h
 ·exact ⟨⟨by simp,by simp,fun x hx=>by simp at hx;omega⟩,by simp;omega⟩
 ·obtain ⟨b,hb1,hb2,h⟩:=mem_seg.1 h
  unfold F2 at h
  rcases List.mem_cons.1 h with rfl | h
  ·exact ⟨⟨by simp,by simp;omega,fun x hx=>by simp at hx;omega⟩,by simp;omega⟩
  ·split at h
   ·obtain ⟨c,hc1,hc2,h⟩:=mem_seg.1 h
    have e:g=[(a:Int),(b:Int),(c:Int)]:=by simpa using h
    subst e
    exact ⟨⟨by simp,by simp;omega,fun x hx=>by simp at hx;omega⟩,by simp;omega⟩
   ·simp at h
section
variable {S:List Sd} {g:List Int}
end
theorem y2_bd {x y A:Int} (hx : -A≤x∧x≤A) (hy : -A≤y∧y≤A):∀ z∈[x,y],-A≤z∧z≤A:=fun z hz=>by
 have:z=x∨z=y:=by simpa using hz
 rcases this with rfl | rfl <;> assumption
end Go.Proofs.YtfchgmiiicidcaaGreat.Sp
namespace Go.Proofs.YtfchgmiiicidcaaGreat.Sp
open Go Go.TH
attribute [local irreducible] W WO pt
set_option maxRecDepth 10000
set_option maxHeartbeats 1000000
def dbt (S:List Sd) (g:List Int):Option (List Int):=match zrY S g with
 | some ys=>if (tkS S g ys g.length).a=0∧(tkS S g ys g.length).b=0∧0<(tkS S g ys g.length).c then some ys else none
 | none=>none
theorem dbt_some {S:List Sd} {g:List Int}:(dbt S g).isSome=true↔zrT (zrY S g)=1∧((zrS S g (zrY S g)).a=0∧(zrS S g (zrY S g)).b=0)∧0<(zrS S g (zrY S g)).c:=by
 unfold dbt zrT zrS
 cases zrY S g with
 | none=>simp
 | some ys =>
  dsimp only
  split
  ·rename_i h;simp [h]
  ·rename_i h;simp;omega
theorem dbt_zrY {S:List Sd} {g ys:List Int} (h:dbt S g=some ys):zrY S g=some ys:=by
 unfold dbt at h
 cases hz:zrY S g with
 | none=>rw [hz] at h;cases h
 | some zs =>
  rw [hz] at h
  dsimp only at h
  split at h
  ·exact h
  ·cases h
theorem dbt_def {S:List Sd} {g:List Int} (h:(dbt S g).isSome=true):∃ ys,dbt S g=some ys∧zrY S g=some ys:=by
 obtain ⟨ys,e⟩:=Option.isSome_iff_exists.1 h
 exact ⟨ys,e,dbt_zrY e⟩
abbrev grS (S:List Sd):List (List Int):=grp 3 S.length
def hitD (S:List Sd):Nat:=(grS S).findIdx fun g=>(dbt S g).isSome
abbrev hitG (S:List Sd):List Int:=(grS S).getD (hitD S) []
def Dbt (S:List Sd):Prop:=hitD S<(grS S).length
instance (S:List Sd):Decidable (Dbt S):=by unfold Dbt;infer_instance
theorem Dbt.iff {S:List Sd}:Dbt S↔∃ g∈grS S,(dbt S g).isSome=true:=by
 unfold Dbt hitD
 rw [List.findIdx_lt_length]
theorem Dbt.hit {S:List Sd} (h:Dbt S):hitG S∈grS S∧(dbt S (hitG S)).isSome=true:=by
 have e:hitG S=(grS S)[hitD S]:=by rw [hitG,List.getD_eq_getElem?_getD,List.getElem?_eq_getElem h];rfl
 rw [e]
 exact ⟨List.getElem_mem _,List.findIdx_getElem (w:=h)⟩
section
variable {S:List Sd} {b3 b4:Nat} {g:List Int} {H H' H2:List HP}
end
end Go.Proofs.YtfchgmiiicidcaaGreat.Sp
namespace Go.Proofs.YtfchgmiiicidcaaGreat.Sp
open Go Go.TH
attribute [local irreducible] W WO pt
set_option maxRecDepth 10000
set_option maxHeartbeats 1000000
abbrev Md:=Nat × Sd × Int
def md0:Md:=(0,sd0,0)
abbrev Mds.at (xs:List Md) (i:Nat):Md:=xs.getD i md0
structure OkM (x:Sd × Int):Prop where
 c : -400000000≤x.1.c∧x.1.c≤400000000
 t:0<x.2∧x.2≤1000
def gtM (x y:Sd × Int):Prop:=y.1.c*x.2<x.1.c*y.2
instance (x y:Sd × Int):Decidable (gtM x y):=by unfold gtM;infer_instance
theorem red_lt {n d m e:Int} (hd:0<d) (he:0<e):(red n d).1*(red m e).2<(red m e).1*(red n d).2↔n*e<m*d:=by
 obtain ⟨g,hg,h1,h2,_⟩:=red_parts n hd
 obtain ⟨k,hk,h3,h4,_⟩:=red_parts m he
 generalize red n d=u at *
 generalize red m e=v at *
 have e1:n*e=u.1*v.2*(g*k):=by rw [h1,h4];grind
 have e2:m*d=v.1*u.2*(g*k):=by rw [h3,h2];grind
 have hp:=Int.mul_pos hg hk
 rw [e1,e2]
 constructor
 ·exact fun h=>Int.mul_lt_mul_of_pos_right h hp
 ·intro h
  rcases Int.lt_or_le (u.1*v.2) (v.1*u.2) with q | q
  ·exact q
  ·have:=Int.mul_le_mul_of_nonneg_right q (Int.le_of_lt hp);omega
structure FirstM (xs:List Md) (n:Nat) (x:Md):Prop where
 mem:x∈xs
 max:∀ j,j<n→j<xs.length→¬ gtM (Mds.at xs j).2 x.2
end Go.Proofs.YtfchgmiiicidcaaGreat.Sp
namespace Go.Proofs.YtfchgmiiicidcaaGreat.Sp
open Go Go.TH
attribute [local irreducible] W WO pt
set_option maxRecDepth 10000
set_option maxHeartbeats 1000000
def mst1 (a:Sd) (p q:Int):Option (List Int × Int):=if fit2 a ⟨p,q,0⟩ (siz ⟨p,q,0⟩) (-(siz a)) then some ([siz ⟨p,q,0⟩],siz a) else none
def mst2 (a b:Sd) (p q:Int):Option (List Int × Int) :=
 if crs a b<0 then (if 0 < -(crs a b)∧0 ≤ -(crs ⟨p,q,0⟩ b)∧0 ≤ -(crs a ⟨p,q,0⟩) then some ([-(crs ⟨p,q,0⟩ b),-(crs a ⟨p,q,0⟩)],-(crs a b)) else none)
 else (if 0<crs a b∧0≤crs ⟨p,q,0⟩ b∧0≤crs a ⟨p,q,0⟩ then some ([crs ⟨p,q,0⟩ b,crs a ⟨p,q,0⟩],crs a b) else none)
def mstG (S:List Sd) (p q:Int) (g:List Int):Option (List Int × Int):=if g.length=1 then mst1 (atS S g 0) p q else mst2 (atS S g 0) (atS S g 1) p q
def mstL (S:List Sd) (p q:Int) (g:List Int):List (Sd × Int):=match mstG S p q g with
 | some x=>[(tkS S g x.1 g.length,x.2)]
 | none=>[]
abbrev g2S (S:List Sd):List (List Int):=grp 2 S.length
abbrev mstA (S:List Sd) (p q:Int):List (Sd × Int):=(g2S S).flatMap (mstL S p q)
theorem want_ok {p q:Int} (hp:OkN p) (hq:OkN q):OkS 20 1000000 ⟨p,q,0⟩:=⟨hp,hq,by dsimp only;omega,by dsimp only;omega⟩
theorem mst_ok {S:List Sd} (hS:∀ s∈S,OkS 20 100000 s) {p q:Int} (hp:OkN p) (hq:OkN q) {g:List Int} (hg:Grp S.length g) (h2:g.length≤2) {x:List Int × Int} (h:mstG S p q g=some x):x.1.length=g.length∧(∀ y∈x.1,-1000≤y∧y≤1000)∧(-1000≤x.2∧x.2≤1000):=by
 have hgn:=hg.len
 have hat:∀ i,i<g.length→OkS 20 1000000 (atS S g i):=fun i hi=>(hS _ (getD_mem (show (g.getD i 0).toNat<S.length by have:=hg.rng _ (getD_mem hi 0);omega) sd0)).up (by omega) (by omega)
 have hw:=want_ok hp hq
 have zw:=siz_bd hw
 have s0:=hat 0 (by omega)
 have z0:=siz_bd s0
 unfold mstG at h
 split at h
 ·rename_i h1
  unfold mst1 at h
  split at h
  ·cases h
   exact ⟨h1.symm,fun y hy=>by simp at hy;subst hy;omega,by dsimp only;omega⟩
  ·cases h
 ·rename_i h1
  have s1:=hat 1 (by omega)
  have c1:=(crs_bd s0 s1).2.2
  have c2:=(crs_bd hw s1).2.2
  have c3:=(crs_bd s0 hw).2.2
  unfold mst2 at h
  split at h
  ·split at h
   ·cases h
    exact ⟨by show 2=_;omega,y2_bd (by omega) (by omega),by dsimp only;omega⟩
   ·cases h
  ·split at h
   ·cases h
    exact ⟨by show 2=_;omega,y2_bd (by omega) (by omega),by dsimp only;omega⟩
   ·cases h
theorem siz_pos {s:Sd} (h:s.a≠0∨s.b≠0):0<siz s:=by unfold siz ab;omega
theorem mst_pos {S:List Sd} (hn:∀ s∈S,s.a≠0∨s.b≠0) {p q:Int} {g:List Int} (hg:Grp S.length g) {x:List Int × Int} (h:mstG S p q g=some x):0<x.2:=by
 have hgn:=hg.len
 unfold mstG at h
 split at h
 ·unfold mst1 at h
  split at h
  ·cases h
   exact siz_pos (hn _ (getD_mem (show (g.getD 0 0).toNat<S.length by have:=hg.rng _ (getD_mem (show 0<g.length by omega) 0);omega) sd0))
  ·cases h
 ·unfold mst2 at h
  split at h
  ·split at h
   ·rename_i c;cases h;exact c.1
   ·cases h
  ·split at h
   ·rename_i c;cases h;exact c.1
   ·cases h
theorem mstL_ok {S:List Sd} (hS:∀ s∈S,OkS 20 100000 s) (hn:∀ s∈S,s.a≠0∨s.b≠0) {p q:Int} (hp:OkN p) (hq:OkN q) {g:List Int} (hg:Grp S.length g) (h2:g.length≤2):∀ y∈mstL S p q g,OkM y:=fun y hy=>by
 unfold mstL at hy
 cases h:mstG S p q g with
 | none=>rw [h] at hy;simp at hy
 | some x =>
  rw [h] at hy
  obtain rfl:y=(tkS S g x.1 g.length,x.2):=by simpa using hy
  obtain ⟨a1,a2,a3⟩:=mst_ok hS hp hq hg h2 h
  have a4:=mst_pos hn hg h
  have a5:=(tkS_bd hS hg.rng a2 a1 (i:=g.length) (Nat.le_refl _)).c
  exact ⟨by dsimp only;omega,by dsimp only;omega⟩
theorem mstA_ok {S:List Sd} (hS:∀ s∈S,OkS 20 100000 s) (hn:∀ s∈S,s.a≠0∨s.b≠0) {p q:Int} (hp:OkN p) (hq:OkN q):∀ y∈mstA S p q,OkM y:=fun y hy=>by
 obtain ⟨g,hg,h⟩:=List.mem_flatMap.1 hy
 have:=grp_ok (m:=2) (by omega) hg
 exact mstL_ok hS hn hp hq this.1 this.2 y h
theorem sds_nz {l:List Rn} (h:OkRs l):∀ s∈sds l,s.a≠0∨s.b≠0:=fun s hs=>by
 obtain ⟨r,hr,hm⟩:=List.mem_flatMap.1 hs
 have h3:=(h r hr).2.2.1
 have:s=loS r∨s=hiS r:=by simpa using hm
 rcases this with rfl | rfl
 ·exact h3
 ·show -r.p≠0 ∨ -r.q≠0;omega
def Bnd (S:List Sd) (p q:Int):Prop:=(p=0∧q=0)∨mstA S p q≠[]
instance (S:List Sd) (p q:Int):Decidable (Bnd S p q):=by unfold Bnd;infer_instance
structure MostI (S:List Sd) (p q:Int) (x:Sd × Int):Prop where
 mem:(p=0∧q=0∧x=(sd0,1))∨(¬ (p=0∧q=0)∧x∈mstA S p q)
 max:∀ y∈mstA S p q,¬ (p=0∧q=0)→¬ gtM y x
theorem MostI.ok {l:List Rn} (h:OkRs l) {p q:Int} (hp:OkN p) (hq:OkN q) {x:Sd × Int} (hm:MostI (sds l) p q x):OkM x:=by
 rcases hm.mem with ⟨_,_,rfl⟩ | ⟨_,g⟩
 ·exact ⟨by simp [sd0],by simp⟩
 ·exact mstA_ok (sds_ok h) (sds_nz h) hp hq x g
end Go.Proofs.YtfchgmiiicidcaaGreat.Sp
namespace Go.Proofs.YtfchgmiiicidcaaGreat.Sp
open Go Go.TH
attribute [local irreducible] W WO pt
set_option maxRecDepth 10000
set_option maxHeartbeats 20000000
end Go.Proofs.YtfchgmiiicidcaaGreat.Sp
namespace Go.Proofs.YtfchgmiiicidcaaGreat.Sp
open Go Go.TH
attribute [local irreducible] W WO pt
set_option maxRecDepth 10000
set_option maxHeartbeats 2000000
end Go.Proofs.YtfchgmiiicidcaaGreat.Sp
namespace Go.Proofs.YtfchgmiiicidcaaGreat.Sp
open Go Go.TH
def fitS (s:Sd) (t:Tru):Prop:=s.c*t.d≤s.a*t.a+s.b*t.b
theorem fitS.by_ {s:Sd} {t:Tru} {y:Int} (h:fitS s t) (hy:0≤y):fitS (byS s y) t:=by
 unfold fitS at h
 have h1:=Int.mul_le_mul_of_nonneg_right h hy
 show s.c*y*t.d≤s.a*y*t.a+s.b*y*t.b
 have e1:s.c*y*t.d=s.c*t.d*y:=by grind
 have e2:s.a*y*t.a+s.b*y*t.b=(s.a*t.a+s.b*t.b)*y:=by grind
 omega
theorem fitS.add {s o:Sd} {t:Tru} (h:fitS s t) (g:fitS o t):fitS (addS s o) t:=by
 unfold fitS at h g
 show (s.c+o.c)*t.d≤(s.a+o.a)*t.a+(s.b+o.b)*t.b
 rw [Int.add_mul,Int.add_mul,Int.add_mul];omega
theorem tkS_fit {S:List Sd} {t:Tru} (h:∀ s∈S,fitS s t) {g ys:List Int} (hg:∀ x∈g,0≤x∧x<S.length) (hy:∀ y∈ys,0≤y) (hl:ys.length=g.length):∀ {i:Nat},i≤g.length→fitS (tkS S g ys i) t
 | 0,_=>by unfold fitS;simp [tkS,sd0]
 | i+1,hi=>by
  have hx:=hg _ (getD_mem (show i<g.length by omega) 0)
  exact (tkS_fit h hg hy hl (i:=i) (by omega)).add ((h _ (getD_mem (show (g.getD i 0).toNat<S.length by omega) sd0)).by_ (hy _ (getD_mem (by omega) 0)))
theorem ab_nn' (n:Int):0≤ab n:=by unfold ab;omega
theorem siz_nn (s:Sd):0≤siz s:=by unfold siz;have:=ab_nn' s.a;have:=ab_nn' s.b;omega
theorem zrY_nn {S:List Sd} {g ys:List Int} (h:zrY S g=some ys):∀ y∈ys,0≤y:=by
 unfold zrY at h
 split at h
 ·unfold zr2 at h
  split at h
  ·cases h
   intro y hy
   have:=siz_nn (atS S g 0);have:=siz_nn (atS S g 1)
   simp only [List.mem_cons,List.not_mem_nil,or_false] at hy
   rcases hy with rfl | rfl <;> omega
  ·cases h
 ·split at h
  ·unfold zr3 at h
   dsimp only at h
   split at h
   ·split at h
    ·cases h;intro y hy;simp only [List.mem_cons,List.not_mem_nil,or_false] at hy;rcases hy with rfl | rfl | rfl <;> omega
    ·cases h
   ·split at h
    ·cases h;intro y hy;simp only [List.mem_cons,List.not_mem_nil,or_false] at hy;rcases hy with rfl | rfl | rfl <;> omega
    ·cases h
  ·cases h
theorem Dbt.no {S:List Sd} (h:Dbt S) {t:Tru} (ht:0<t.d):¬ ∀ s∈S,fitS s t:=fun hf=>by
 obtain ⟨hg,hs⟩:=h.hit
 obtain ⟨ys,e,ez⟩:=dbt_def hs
 have hgr:=(grp_ok (m:=3) (by omega) hg).1
 have hfit:=tkS_fit hf hgr.rng (zrY_nn ez) (zrY_len ez) (i:=(hitG S).length) (Nat.le_refl _)
 obtain ⟨_,⟨h1,h2⟩,h3⟩:=dbt_some.1 hs
 rw [ez] at h1 h2 h3
 have h1':(tkS S (hitG S) ys (hitG S).length).a=0:=h1
 have h2':(tkS S (hitG S) ys (hitG S).length).b=0:=h2
 have h3':0<(tkS S (hitG S) ys (hitG S).length).c:=h3
 unfold fitS at hfit
 rw [h1',h2',Int.zero_mul,Int.zero_mul] at hfit
 have:=Int.mul_pos h3' ht
 omega
section
variable {S:List Sd} {p q:Int}
end
section
variable {S:List Sd}
end
end Go.Proofs.YtfchgmiiicidcaaGreat.Sp
namespace Go.Proofs.YtfchgmiiicidcaaGreat.Sp
open Go Go.TH
attribute [local irreducible] W WO pt
set_option maxRecDepth 10000
set_option maxHeartbeats 1000000
end Go.Proofs.YtfchgmiiicidcaaGreat.Sp
namespace Go.Proofs.YtfchgmiiicidcaaGreat
open Go Go.TH
theorem red_bd {n d M:Int} (hd:0<d∧d≤M) (hn:0≤n∧n≤M):(0≤(Ch.red n d).1∧(Ch.red n d).1≤M)∧(0<(Ch.red n d).2∧(Ch.red n d).2≤M):=by
  obtain ⟨k,hk,k1,k2⟩:=red_pt n hd.1
  generalize (Ch.red n d).1=u at *
  generalize (Ch.red n d).2=v at *
  have hu:0≤u:=by
    rcases Int.lt_or_le u 0 with c | c
    · have:=Int.mul_lt_mul_of_pos_right c hk;rw [Int.zero_mul] at this;omega
    · exact c
  have hv:0<v:=by
    rcases Int.lt_or_le 0 v with c | c
    · exact c
    · have:=Int.mul_le_mul_of_nonneg_right c (Int.le_of_lt hk);rw [Int.zero_mul] at this;omega
  have hu2:=Int.mul_le_mul_of_nonneg_left (show 1≤k by omega) hu
  have hv2:=Int.mul_le_mul_of_nonneg_left (show 1≤k by omega) (Int.le_of_lt hv)
  omega
theorem me_bd {P A:List Int} {R:Ch.Rws} {T:Nat→Nat→Int} {x base slope:Int} {z:Int × Int} (hc:Ch.OkC P A R) (hx:Ch.On P x) (hn:OkN base slope) (hT:∀ i k,i<P.length→k<A.length→0≤T i k∧T i k≤100000) (h:MeR A (abv P A T x base slope) A.length true z):(0≤z.1∧z.1≤1000000000000000)∧(0<z.2∧z.2≤1000000000000000):=by
  cases h with
  | here j hj hp h0=>have:=hc.ua.2 _ (getD_mem hj 0);dsimp only;omega
  | mid j hj hp h0 =>
    have hb1:=abv_bd (k:=j) hc hx hn hT (by omega)
    have hb2:=abv_bd (k:=j+1) hc hx hn hT (by omega)
    have hA1:=hc.ua.2 _ (getD_mem (show j<A.length by omega) 0)
    have hA2:=hc.ua.2 _ (getD_mem (show j+1<A.length by omega) 0)
    have hp0:=hp j (by omega)
    have hp1:abv P A T x base slope j≤5000000000:=by unfold abv;omega
    have hq1 : -5000000000≤abv P A T x base slope (j+1):=by unfold abv;omega
    have hmd:=mid_bd (a:=A.getD j 0) (b:=A.getD (j+1) 0) (p:=abv P A T x base slope j) (q := -abv P A T x base slope (j+1)) (by omega) (by omega) (by omega) (by omega)
    exact red_bd (by omega) (by omega)
end Go.Proofs.YtfchgmiiicidcaaGreat
namespace Go.Proofs.YtfchgmiiicidcaaGreat
open Go Go.TH
attribute [local irreducible] W WO pt
set_option maxRecDepth 10000
set_option maxHeartbeats 2000000
def puT (T:Nat→Nat→Int) (R:Ch.Rws) (n:Nat):List (List Int):=(List.range n).map fun i=>(List.range (R.getD i []).length).map (T i)
theorem puT_succ (T:Nat→Nat→Int) (R:Ch.Rws) (n:Nat):puT T R n++[(List.range (R.getD n []).length).map (T n)]=puT T R (n+1):=by unfold puT;rw [List.range_succ,List.map_append];rfl
theorem puT_len (T:Nat→Nat→Int) (R:Ch.Rws) (n:Nat):(puT T R n).length=n:=by unfold puT;simp
theorem puT_get {T:Nat→Nat→Int} {R:Ch.Rws} {n i:Nat} (h:i<n):(puT T R n).getD i []=(List.range (R.getD i []).length).map (T i):=by
 unfold puT;rw [List.getD_eq_getElem?_getD,List.getElem?_map,List.getElem?_range h];rfl
theorem puT_at {T:Nat→Nat→Int} {R:Ch.Rws} {n i k:Nat} (h:i<n) (hk:k<(R.getD i []).length):Ch.tAt (puT T R n) i k=T i k:=by
 unfold Ch.tAt;rw [puT_get h,ran_get hk]
theorem MeR.congr {A:List Int} {s s':Nat→Int} {n:Nat} {b:Bool} {z:Int × Int} (h:∀ k,k<n→s k=s' k) (m:MeR A s n b z):MeR A s' n b z:=by
 cases m with
 | here j hj hp h0=>exact .here j hj (fun k hk=>by rw [← h k (by omega)];exact hp k hk) (by rw [← h j hj];exact h0)
 | mid j hj hp h0=>rw [h j (by omega),h (j+1) hj];exact .mid j hj (fun k hk=>by rw [← h k (by omega)];exact hp k hk) (by rw [← h (j+1) hj];exact h0)
 | high hp=>exact .high fun k hk=>by rw [← h k hk];exact hp k hk
 | low h1 h0=>exact .low h1 (by rw [← h 0 h1];exact h0)
abbrev PZ:=Value × List Value
theorem c_pulls (w:World) (vp va o:Value) (rv:List Value) (P A:List Int) (R:Ch.Rws) (f:Nat) (first cap:List Value) (T:Nat→Nat→Int) (hc:Ch.OkC P A R) (hP:RdF encI 1 w.heap.size w vp P) (hA:RdF encI 1 w.heap.size w va A) (hR:RdR encP 2 w.heap.size w o rv R)
 (hF:Ch.FnP w.heap.size w f first cap (fun i k=>i<P.length∧k<A.length) T) (hcall:∀ (args:Array Value) (w:World),(callFunc f args).run Tryz.prog w=.ok (.enter f args) w) :
 Ct Tryz.prog 61 [.agg #[vp,va,o],.func (.func f) first.toArray cap.toArray].toArray w fun r w'=>∃ Hq,(∃ Z:PZ,r=Z.1∧Hq=[OwC 22 1 Z.1 R.length Z.2,RowsE encI 2 1 Z.2 (puT T R R.length)])∧Inv w [] Hq w':=by
 refine Ct.ofI (X:=PZ) (p:=fun Z r=>r=Z.1) (Hx:=fun Z=>[OwC 22 1 Z.1 R.length Z.2,RowsE encI 2 1 Z.2 (puT T R R.length)]) mixed tyTab Tryz.func61 rfl rfl ?_
 replace hR:RdR encP 2 (fnCx mixed tyTab Tryz.f61.ntmps w).B (fnCx mixed tyTab Tryz.f61.ntmps w).w0 o rv R:=hR
 replace hP:RdF encI 1 (fnCx mixed tyTab Tryz.f61.ntmps w).B (fnCx mixed tyTab Tryz.f61.ntmps w).w0 vp P:=hP
 replace hA:RdF encI 1 (fnCx mixed tyTab Tryz.f61.ntmps w).B (fnCx mixed tyTab Tryz.f61.ntmps w).w0 va A:=hA
 replace hF:Ch.FnP (fnCx mixed tyTab Tryz.f61.ntmps w).B (fnCx mixed tyTab Tryz.f61.ntmps w).w0 f first cap (fun i k=>i<P.length∧k<A.length) T:=hF
 have hop:=hP.sl.oc
 have hoa:=hA.sl.oc
 have hoo:=hR.sl.oc
 have hnp:=hc.np
 have hna:=hc.na
 have hnr:=hc.nr
 refine W.sreg (WO.boxA rfl rfl (fun b1 hb1=>(WO.p rfl rfl (WO.nil (W.sreg (WO.p rfl rfl (WO.nil (W.seq (W.sreg (WO.field0 rfl rfl rfl (WO.fieldL rfl rfl rfl (WO.load rfl rfl (Cell.own Pick.head rfl) rfl (WO.len rfl rfl hR.sl rfl (WO.p rfl rfl (WO.nil (W.block (W.chg (owcNil (e:=22) (sz:=1)) (W.chg (rowsNil (enc:=encI) (e:=2) (sz:=1)) ?_))))))))))))))))))
 refine W.loop3 (fun (i:Nat) (tv:Value) (rvT:List Value)=>i≤R.length)
  (fun (i:Nat) (tv:Value) (rvT:List Value)=>[(14,.int .i64 (i:Int)),(13,.int .i64 (R.length:Int)),(12,o),(5,tv),(2,.pointer (some ⟨b1,0,none⟩)),(1,.func (.func f) first.toArray cap.toArray)])
  (fun (i:Nat) (tv:Value) (rvT:List Value)=>[pt b1 (.cells #[vp,va,o] 94 (0,0)),OwC 22 1 tv i rvT,RowsE encI 2 1 rvT (puT T R i)])
  (fun (i:Nat) (tv:Value) (rvT:List Value)=>R.length-i) 0 (.slice none 0 0) []
  (by omega) ⟨rfl,rfl,rfl,rfl,rfl,rfl,trivial⟩ (by repeat (first | exact Sub.nil | refine Sub.cons (by repeat first | exact .head | apply Pick.tail) ?_)) ?_
 rintro i tv rvT hi0
 refine W.sreg (WO.p rfl rfl (WO.nil (W.seq ?_)))
 refine W.cond_bl rfl (fun c1=>?_) (fun c1=>?_)
 ·refine W.skip (W.seq (W.block (W.sreg (WO.p rfl rfl (WO.indexAddr rfl rfl rfl hR.sl (by omega) rfl ?_)))))
  refine' WO.load (v:=_) rfl rfl ?hc rfl ?_
  case hc=>((refine hR.cellV ?_;omega))
  refine WO.p rfl rfl (WO.p rfl rfl (WO.nil ?_))
  have hrw:=hc.row (show i<R.length by omega)
  refine W.sreg (WO.p rfl rfl ?_)
  refine' WO.len (n:=_) rfl rfl ?hs rfl ?_
  case hs=>((refine (hR.row i ?_).sl;omega))
  refine WO.makeI rfl rfl rfl rfl (by omega) (by omega) rfl (fun lb=>?_)
  rw [mkL_0 (T i)]
  have hlb:IsSl (.slice (some ⟨lb,0,none⟩) (R.getD i []).length (R.getD i []).length) (R.getD i []).length:=isSl_lit (by omega) (fun _=>⟨_,_,rfl⟩)
  refine WO.p rfl rfl (WO.nil (W.seq (W.sreg (WO.p rfl rfl ?_))))
  refine' WO.len (n:=_) rfl rfl ?hs rfl ?_
  case hs=>((refine (hR.row i ?_).sl;omega))
  refine WO.p rfl rfl (WO.nil (W.block ?_))
  refine W.loop (fun (k:Nat)=>k≤(R.getD i []).length)
   (fun (k:Nat)=>[(24,.int .i64 (k:Int)),(23,.int .i64 ((R.getD i []).length:Int)),(14,.int .i64 (i:Int)),(13,.int .i64 (R.length:Int)),(12,o),(8,.slice (some ⟨lb,0,none⟩) (R.getD i []).length (R.getD i []).length),(7,rv.getD i undef),(6,.int .i64 (i:Int)),(5,tv),(2,.pointer (some ⟨b1,0,none⟩)),(1,.func (.func f) first.toArray cap.toArray)])
   (fun (k:Nat)=>[pt b1 (.cells #[vp,va,o] 94 (0,0)),OwC 22 1 tv i rvT,RowsE encI 2 1 rvT (puT T R i),OwE encI 2 1 (.slice (some ⟨lb,0,none⟩) (R.getD i []).length (R.getD i []).length) (mkL (T i) k (R.getD i []).length)])
   (fun (k:Nat)=>(R.getD i []).length-k) 0
   (by omega) ⟨rfl,rfl,rfl,rfl,rfl,rfl,rfl,rfl,rfl,rfl,rfl,trivial⟩ (by repeat (first | exact Sub.nil | refine Sub.cons (by repeat first | exact .head | apply Pick.tail) ?_)) ?_
  rintro k hk0
  refine W.sreg (WO.p rfl rfl (WO.nil (W.seq ?_)))
  refine W.cond_bl rfl (fun c2=>?_) (fun c2=>?_)
  ·refine W.skip (W.seq (W.block (W.sreg (WO.p rfl rfl (WO.p rfl rfl (WO.nil (W.region (WO.p rfl rfl (WO.p rfl rfl (WO.p rfl rfl (WO.p rfl rfl (WO.p rfl rfl (WO.build rfl rfl rfl rfl rfl (WO.callCR (first:=first) (captured:=cap) rfl rfl hcall (fun L w' hi=>Ch.FnP.later (C:=fnCx mixed tyTab Tryz.f61.ntmps w) hF (Nat.le_refl _) (fun _ _=>rfl) hi (i:=i) (k:=k) ⟨by omega,by omega⟩) rfl (WO.indexAddr rfl rfl rfl hlb (by omega) rfl (WO.storeE (n:=T i k) encI_ok rfl rfl rfl rfl (by repeat first | exact .head | apply Pick.tail) (by rw [mkL_len (by omega)];omega) ?_))))))))))))))))
   rw [mkL_set (by omega)]
   refine WO.nil (W.region (WO.ar rfl rfl rfl (by unfold in64;omega) rfl (WO.p rfl rfl (WO.nil ?_))))
   refine' ⟨k+1,?hp,?hmu,⟨rfl,rfl,rfl,rfl,rfl,rfl,rfl,rfl,rfl,rfl,rfl,trivial⟩,?hS⟩
   case hS=>repeat (first | exact Sub.nil | refine Sub.cons (by repeat first | exact .head | apply Pick.tail) ?_)
   case hp=>omega
   case hmu=>omega
  ·refine W.exit (blk_same ?_)
   obtain rfl:k=(R.getD i []).length:=by omega
   rw [mkL_n]
   refine W.region (WO.p rfl rfl (WO.p rfl rfl (WO.buildSl rfl rfl rfl rfl rfl rfl rfl rfl rfl (fun v2=>?_))))
   refine' WO.append (m:=1) (news:=[.slice (some ⟨lb,0,none⟩) (R.getD i []).length (R.getD i []).length]) rfl rfl rfl rfl rfl (by repeat first | exact .head | apply Pick.tail) (isSl_lit (by omega) (fun _=>⟨_,_,rfl⟩)) (by omega) (OwC.cells (by repeat exact .head)) rfl (by simp [Value.oneCell']) (by omega) (by omega) rfl (fun g' c'=>?_)
   refine WO.chg (H':=OwC 22 1 (.slice (some ⟨g',0,none⟩) (i+1) c') (i+1) (rvT++[.slice (some ⟨lb,0,none⟩) (R.getD i []).length (R.getD i []).length])::RowsE encI 2 1 rvT (puT T R i)::OwE encI 2 1 (.slice (some ⟨lb,0,none⟩) (R.getD i []).length (R.getD i []).length) ((List.range (R.getD i []).length).map (T i))::pt b1 (.cells #[vp,va,o] 94 (0,0))::[]) (fun h hs=>Sub.sat (by repeat (first | exact Sub.nil | refine Sub.cons (by repeat first | exact .head | apply Pick.tail) ?_)) hs) ?_
   refine WO.chg (rowsSnoc (enc:=encI) (e:=2) (sz:=1) (rv:=rvT) (xss:=puT T R i) (xs:=(List.range (R.getD i []).length).map (T i)) (r:=.slice (some ⟨lb,0,none⟩) (R.getD i []).length (R.getD i []).length) (.tail .head) (.tail .head)) ?_
   rw [puT_succ]
   refine WO.p rfl rfl (WO.nil (W.region (WO.ar rfl rfl rfl (by unfold in64;omega) rfl (WO.p rfl rfl (WO.nil ?_)))))
   refine' ⟨i+1,_,_,?hp,?hmu,⟨rfl,rfl,rfl,rfl,rfl,rfl,trivial⟩,?hS⟩
   case hS=>repeat (first | exact Sub.nil | refine Sub.cons (by repeat first | exact .head | apply Pick.tail) ?_)
   case hp=>omega
   case hmu=>omega
 ·refine W.exit (blk_same ?_)
  obtain rfl:i=R.length:=by omega
  refine W.sreg (WO.p rfl rfl (WO.p rfl rfl (WO.nil (W.ret ?_))))
  exact fin.ret (Res.one rfl (RV.tmp rfl)) ⟨(tv,rvT),rfl,fun h hs=>Sub.sat (by repeat (first | exact Sub.nil | refine Sub.cons (by repeat first | exact .head | apply Pick.tail) ?_)) hs⟩
def MsR (P A:List Int) (R:Ch.Rws) (x base slope:Int) (r:Value):Prop:=∃ (b:Bool) (y z:Int × Int),r=.tuple #[.agg #[.int .i64 y.1,.int .i64 y.2,.int .i64 z.1,.int .i64 z.2],.int .i64 (if b then 0 else 5)]∧(b=true→MeR A (abv P A (Ch.loAt R) x base slope) A.length true y∧MeR A (abv P A (Ch.hiAt R) x base slope) A.length true z)
section
variable {P A:List Int} {R:Ch.Rws} {x base slope:Int}
theorem me_pu {T:Nat→Nat→Int} {b:Bool} {z:Int × Int} (hc:Ch.OkC P A R) (hx:Ch.On P x) (h:MeR A (abv P A (Ch.tAt (puT T R R.length)) x base slope) A.length b z):MeR A (abv P A T x base slope) A.length b z:=by
 have hb:=Ch.on_bd hc.up hc.np.1 hx
 have hnr:=hc.nr
 refine h.congr fun k hk=>?_
 have h1:=hc.row (show Ch.nbI P x<R.length by omega)
 have h2:=hc.row (show Ch.nbI P x+1<R.length by omega)
 unfold abv
 rw [puT_at (by omega) (by omega),puT_at (by omega) (by omega)]
theorem bd_pu {T:Nat→Nat→Int} (hc:Ch.OkC P A R) (hT:∀ i k,i<P.length→k<A.length→0≤T i k∧T i k≤100000):∀ i k,i<P.length→k<A.length→0≤Ch.tAt (puT T R R.length) i k∧Ch.tAt (puT T R R.length) i k≤100000:=fun i k h1 h2=>by
 have hnr:=hc.nr
 have h3:=hc.row (show i<R.length by omega)
 rw [puT_at (by omega) (by omega)]
 exact hT i k h1 h2
theorem row_pu {T:Nat→Nat→Int} (hc:Ch.OkC P A R):∀ i,i<(puT T R R.length).length→((puT T R R.length).getD i []).length=A.length:=fun i h=>by
 rw [puT_len] at h
 rw [puT_get h]
 simp only [List.length_map,List.length_range]
 exact hc.row h
theorem lo_bd (hc:Ch.OkC P A R):∀ i k,i<P.length→k<A.length→0≤Ch.loAt R i k∧Ch.loAt R i k≤100000:=fun i k h1 h2=>by
 have hnr:=hc.nr
 have hrw:=hc.row (show i<R.length by omega)
 have:=hc.at_ (show i<R.length by omega) (show k<(R.getD i []).length by omega)
 unfold Ch.loAt;omega
theorem hi_bd (hc:Ch.OkC P A R):∀ i k,i<P.length→k<A.length→0≤Ch.hiAt R i k∧Ch.hiAt R i k≤100000:=fun i k h1 h2=>by
 have hnr:=hc.nr
 have hrw:=hc.row (show i<R.length by omega)
 have:=hc.at_ (show i<R.length by omega) (show k<(R.getD i []).length by omega)
 unfold Ch.hiAt;omega
end
theorem rdNil2 {n:Nat} {w:World}:RdF encP 2 n w (.slice none 0 0) ([]:List (Int × Int)) :=
 ⟨⟨by simp,none,0,rfl,fun h=>by simp at h⟩,fun h=>by simp at h,fun i x h=>by simp at h⟩
theorem c_Meets (w:World) (vp va o:Value) (rv:List Value) (P A:List Int) (R:Ch.Rws) (x base slope:Int) (hc:Ch.OkC P A R) (hx:Ch.On P x) (hn:OkN base slope) (hP:RdF encI 1 w.heap.size w vp P) (hA:RdF encI 1 w.heap.size w va A) (hR:RdR encP 2 w.heap.size w o rv R):RetE Tryz.prog 20 [.agg #[vp,va,o],.int .i64 x,.agg #[.int .i64 base,.int .i64 slope]].toArray w (MsR P A R x base slope):=by
 refine RetE.of mixed tyTab Tryz.func20 rfl rfl ?_
 replace hR:RdR encP 2 (fnCx mixed tyTab Tryz.f20.ntmps w).B (fnCx mixed tyTab Tryz.f20.ntmps w).w0 o rv R:=hR
 replace hP:RdF encI 1 (fnCx mixed tyTab Tryz.f20.ntmps w).B (fnCx mixed tyTab Tryz.f20.ntmps w).w0 vp P:=hP
 replace hA:RdF encI 1 (fnCx mixed tyTab Tryz.f20.ntmps w).B (fnCx mixed tyTab Tryz.f20.ntmps w).w0 va A:=hA
 have hop:=hP.sl.oc
 have hoa:=hA.sl.oc
 have hoo:=hR.sl.oc
 have hnr:=hc.nr
 refine W.sreg (WO.boxA rfl rfl (fun b1 hb1=>(WO.boxA rfl rfl (fun b2 hb2=>(WO.alloc rfl rfl rfl (fun b3 hb3=>(WO.p rfl rfl (WO.nil (W.sreg (WO.loadA rfl rfl (Cells.own (Pick.tail (Pick.tail (Pick.head)))) rfl rfl (WO.callR rfl Tryz.call35 (fun L w hi=>Ch.c_newSheet w (.slice none 0 0) vp va o rv P A R [] hc (by simp) rdNil2 (hP.later hi) (hA.later hi) (hR.later hi)) rfl (WO.p rfl rfl (WO.p rfl rfl (WO.p rfl rfl (WO.alloc rfl rfl rfl (fun b4 hb4=>(WO.storeA rfl rfl rfl rfl Pick.head rfl (Ch.oc3 hop hoa hoo) (WO.p rfl rfl (WO.nil (W.seq (W.sreg (WO.p rfl rfl (WO.p rfl rfl (WO.nil ?_))))))))))))))))))))))))
 refine W.cond_bl rfl (fun c1=>?_) (fun c1=>?_)
 ·exfalso;omega
 ·refine W.skip (W.seq (W.sreg (WO.loadA rfl rfl (Cells.own Pick.head) rfl rfl (WO.p rfl rfl (WO.loadA rfl rfl (Cells.own (Pick.tail (Pick.tail (Pick.head)))) rfl rfl (WO.callR rfl Tryz.call59 (fun L w hi=>c_checkNeed w vp va o P A R x base slope hc hx hn hoo (hP.later hi) (hA.later hi)) rfl (WO.p rfl rfl (WO.nil (W.sreg (WO.p rfl rfl (WO.p rfl rfl (WO.nil ?_))))))))))))
  refine W.cond_bl rfl (fun c2=>?_) (fun c2=>?_)
  ·exfalso;omega
  ·refine W.skip (W.seq ?_)
   refine W.drawD 13 [.b 0 [],.b 1 [],.b 2 [],.r 3 [],.r 5 [],.b 6 [],.c 4 [],.c 7 [],.r 8 [],.r 9 [],.r 10 [],.a 11 11 (.cells #[.int .i64 0,.int .i64 0] 38 (0,0)),.s 12 []] [] (A0:=[]) (Sub.refl _) (by kernel_rfl) ?_ ?_
   ·exact (ALok.b (ALok.b (ALok.b (ALok.r (ALok.r (ALok.b (ALok.c (ALok.c (ALok.r (ALok.r (ALok.r (ALok.cons rfl rfl rfl rfl rfl (ALok.s ALok.nil)))))))))))))
   refine DT.b rfl rfl rfl (WO.loadA rfl rfl (Cells.own Pick.head) rfl rfl (WO.nil ⟨rfl,rfl⟩)) (DT.b rfl rfl rfl (WO.loadA rfl rfl (Cells.own Pick.head) rfl rfl (WO.nil ⟨rfl,rfl⟩)) (DT.b rfl rfl rfl (WO.loadA rfl rfl (Cells.own Pick.head) rfl rfl (WO.nil ⟨rfl,rfl⟩)) (DT.r rfl rfl rfl (WO.p rfl rfl (WO.nil ⟨rfl,rfl⟩)) (DT.r rfl rfl rfl (WO.p rfl rfl (WO.nil ⟨rfl,rfl⟩)) (DT.b rfl rfl rfl (WO.loadA rfl rfl (Cells.own (Pick.tail (Pick.tail (Pick.head)))) rfl rfl (WO.nil ⟨rfl,rfl⟩)) (DT.c [_,_,_,_] rfl rfl rfl rfl ?_))))))
   refine WO.call (Post:=fun r Hq=>∃ Z:PZ,r=Z.1∧Hq=[OwC 22 1 Z.1 R.length Z.2,RowsE encI 2 1 Z.2 (puT (Ch.loAt R) R R.length)]) rfl Tryz.call61 (fun L w hi=>c_pulls w vp va o rv P A R 37 [.agg #[vp,va,o]] [] (Ch.loAt R) hc (hP.later hi) (hA.later hi) (hR.later hi) (fun w' hB hk i k hs=>Ch.c_lo w' vp va o rv R i k (by omega) (by have:=hc.row (show i<R.length by omega);omega) (((hR.later hi).agree hk).up hB)) Tryz.call37) rfl ?_
   rintro tv _ ⟨⟨_,rvT⟩,rfl,rfl⟩
   dsimp only
   refine WO.nil ⟨_,[_,_],rfl,rfl,(Keep.b (Keep.r (Keep.r (Keep.b (Keep.b (Keep.b Keep.nil)))))),?_⟩
   refine DT.c [_,_,_,_,_,_] rfl rfl rfl rfl (WO.callE rfl Tryz.call60 (fun L w hi=>c_meet w vp va o tv rvT P A R (puT (Ch.loAt R) R R.length) x base slope hc hx hn hoo (by rw [puT_len];omega) (row_pu hc) (bd_pu hc (lo_bd hc)) (hP.later hi) (hA.later hi) (RdR.of_ow (e':=22) (e:=2) encI_ok (by repeat exact .head) (by repeat first | exact .head | apply Pick.tail) hi)) rfl ?_)
   rintro _ ⟨b1',y,rfl,hy⟩
   refine WO.nil ⟨_,[_,_],rfl,rfl,(Keep.c (Keep.b (Keep.r (Keep.r (Keep.b (Keep.b (Keep.b Keep.nil))))))),?_⟩
   refine DT.r rfl rfl rfl (WO.p rfl rfl (WO.nil ⟨rfl,rfl⟩)) (DT.r rfl rfl rfl (WO.p rfl rfl (WO.nil ⟨rfl,rfl⟩)) (DT.r rfl rfl rfl (WO.p rfl rfl (WO.nil ⟨rfl,rfl⟩)) (DT.a (fun b5=>(DT.s [_,_,_,_,_,_,_] rfl rfl rfl (WO.storeA rfl rfl rfl rfl Pick.head rfl rfl ?_))))))
   refine WO.nil ⟨[_,_,_],rfl,rfl,(Keep.a (Keep.r (Keep.r (Keep.r (Keep.c (Keep.c (Keep.b (Keep.r (Keep.r (Keep.b (Keep.b (Keep.b Keep.nil)))))))))))),?_⟩
   refine DT.nil [_,_,_,_,_,_,_] rfl (WO.p rfl rfl (WO.nil (W.seq ?_)))
   refine W.drawD 13 [.b 0 [],.b 1 [],.b 2 [],.r 3 [],.r 5 [],.b 6 [],.c 4 [],.c 7 [],.r 8 [],.r 9 [],.r 10 [],.a 11 13 (.cells #[.int .i64 0,.int .i64 0] 38 (0,0)),.s 12 []] [] (A0:=[]) (Sub.refl _) (by kernel_rfl) ?_ ?_
   ·exact (ALok.b (ALok.b (ALok.b (ALok.r (ALok.r (ALok.b (ALok.c (ALok.c (ALok.r (ALok.r (ALok.r (ALok.cons rfl rfl rfl rfl rfl (ALok.s ALok.nil)))))))))))))
   refine DT.b rfl rfl rfl (WO.loadA rfl rfl (Cells.own (Pick.tail (Pick.tail (Pick.tail (Pick.head))))) rfl rfl (WO.nil ⟨rfl,rfl⟩)) (DT.b rfl rfl rfl (WO.loadA rfl rfl (Cells.own (Pick.tail (Pick.tail (Pick.tail (Pick.head))))) rfl rfl (WO.nil ⟨rfl,rfl⟩)) (DT.b rfl rfl rfl (WO.loadA rfl rfl (Cells.own (Pick.tail (Pick.tail (Pick.tail (Pick.head))))) rfl rfl (WO.nil ⟨rfl,rfl⟩)) (DT.r rfl rfl rfl (WO.p rfl rfl (WO.nil ⟨rfl,rfl⟩)) (DT.r rfl rfl rfl (WO.p rfl rfl (WO.nil ⟨rfl,rfl⟩)) (DT.b rfl rfl rfl (WO.loadA rfl rfl (Cells.own (Pick.tail (Pick.tail (Pick.tail (Pick.tail (Pick.tail (Pick.head))))))) rfl rfl (WO.nil ⟨rfl,rfl⟩)) ?_)))))
   refine DT.c [_,_,_,_,_,_,_] rfl rfl rfl rfl (WO.call (Post:=fun r Hq=>∃ Z:PZ,r=Z.1∧Hq=[OwC 22 1 Z.1 R.length Z.2,RowsE encI 2 1 Z.2 (puT (Ch.hiAt R) R R.length)]) rfl Tryz.call61 (fun L w hi=>c_pulls w vp va o rv P A R 38 [.agg #[vp,va,o]] [] (Ch.hiAt R) hc (hP.later hi) (hA.later hi) (hR.later hi) (fun w' hB hk i k hs=>Ch.c_hi w' vp va o rv R i k (by omega) (by have:=hc.row (show i<R.length by omega);omega) (((hR.later hi).agree hk).up hB)) Tryz.call38) rfl ?_)
   rintro tw _ ⟨⟨_,rvW⟩,rfl,rfl⟩
   dsimp only
   refine WO.nil ⟨_,[_,_],rfl,rfl,(Keep.b (Keep.r (Keep.r (Keep.b (Keep.b (Keep.b Keep.nil)))))),?_⟩
   refine DT.c [_,_,_,_,_,_,_,_,_] rfl rfl rfl rfl (WO.callE rfl Tryz.call60 (fun L w hi=>c_meet w vp va o tw rvW P A R (puT (Ch.hiAt R) R R.length) x base slope hc hx hn hoo (by rw [puT_len];omega) (row_pu hc) (bd_pu hc (hi_bd hc)) (hP.later hi) (hA.later hi) (RdR.of_ow (e':=22) (e:=2) encI_ok (by repeat exact .head) (by repeat first | exact .head | apply Pick.tail) hi)) rfl ?_)
   rintro _ ⟨b2',z,rfl,hz⟩
   refine WO.nil ⟨_,[_,_],rfl,rfl,(Keep.c (Keep.b (Keep.r (Keep.r (Keep.b (Keep.b (Keep.b Keep.nil))))))),?_⟩
   refine DT.r rfl rfl rfl (WO.p rfl rfl (WO.nil ⟨rfl,rfl⟩)) (DT.r rfl rfl rfl (WO.p rfl rfl (WO.nil ⟨rfl,rfl⟩)) (DT.r rfl rfl rfl (WO.p rfl rfl (WO.nil ⟨rfl,rfl⟩)) (DT.a (fun b6=>(DT.s [_,_,_,_,_,_,_,_,_,_] rfl rfl rfl (WO.storeA rfl rfl rfl rfl Pick.head rfl rfl ?_))))))
   refine WO.nil ⟨[_,_,_],rfl,rfl,(Keep.a (Keep.r (Keep.r (Keep.r (Keep.c (Keep.c (Keep.b (Keep.r (Keep.r (Keep.b (Keep.b (Keep.b Keep.nil)))))))))))),?_⟩
   refine DT.nil [_,_,_,_,_,_,_,_,_,_] rfl (WO.p rfl rfl (WO.nil (W.seq (W.sreg (WO.p rfl rfl (WO.p rfl rfl (WO.p rfl rfl ?_)))))))
   refine WO.guard_b rfl rfl (fun c3=>?_) (fun c3=>?_)
   ·refine WO.no rfl rfl (WO.no rfl rfl (WO.p rfl rfl (WO.nil (W.cond_t rfl (W.sreg (WO.build rfl rfl rfl rfl rfl (WO.storeA rfl rfl rfl rfl (Pick.tail (Pick.tail (Pick.tail (Pick.tail (Pick.tail (Pick.tail (Pick.tail (Pick.head)))))))) rfl rfl (WO.p rfl rfl (WO.nil (W.ret (fin.ret (Res.two rfl (RV.cell rfl rfl rfl (Cells.own (by repeat exact .head))) (RV.tmp rfl)) ?_)))))))))))
    exact ⟨false,(_,_),(_,_),rfl,fun e=>by cases e⟩
   ·refine WO.pg rfl rfl rfl (WO.pg rfl rfl rfl (WO.p rfl rfl (WO.nil ?_)))
    refine W.cond rfl (fun c4=>?_) (fun c4=>?_)
    ·refine W.sreg (WO.build rfl rfl rfl rfl rfl (WO.storeA rfl rfl rfl rfl (Pick.tail (Pick.tail (Pick.tail (Pick.tail (Pick.tail (Pick.tail (Pick.tail (Pick.head)))))))) rfl rfl (WO.p rfl rfl (WO.nil (W.ret (fin.ret (Res.two rfl (RV.cell rfl rfl rfl (Cells.own (by repeat exact .head))) (RV.tmp rfl)) ?_))))))
     exact ⟨false,(_,_),(_,_),rfl,fun e=>by cases e⟩
    ·refine W.skip (W.sreg (WO.loadA rfl rfl (Cells.own (Pick.tail (Pick.tail (Pick.tail (Pick.head))))) rfl rfl (WO.loadA rfl rfl (Cells.own Pick.head) rfl rfl (WO.build rfl rfl rfl rfl rfl (WO.storeA rfl rfl rfl rfl (Pick.tail (Pick.tail (Pick.tail (Pick.tail (Pick.tail (Pick.tail (Pick.tail (Pick.head)))))))) rfl rfl (WO.p rfl rfl (WO.nil (W.ret (fin.ret (Res.two rfl (RV.cell rfl rfl rfl (Cells.own (by repeat exact .head))) (RV.tmp rfl)) ?_)))))))))
     (obtain rfl:b1'=true:=(by cases b1' <;> simp_all);obtain rfl:b2'=true:=(by cases b2' <;> simp_all);exact ⟨true,(_,_),(_,_),rfl,fun _=>⟨me_pu hc hx hy,me_pu hc hx hz⟩⟩)
end Go.Proofs.YtfchgmiiicidcaaGreat
namespace Go.Proofs.YtfchgmiiicidcaaGreat
open Go Go.TH
set_option maxRecDepth 10000
section
variable {P A:List Int} {R:Ch.Rws} {x slope:Int}
theorem abv_le {T T':Nat→Nat→Int} {b b':Int} (hc:Ch.OkC P A R) (hx:Ch.On P x) (h:∀ i,i<P.length→∀ k,k<A.length→T i k≤T' i k) (hb:b'≤b):∀ k,k<A.length→abv P A T x b slope k≤abv P A T' x b' slope k:=fun k hk=>by
  have hf:=Ch.fr_bd hc.up hc.np.1 hx
  have hb2:=Ch.on_bd hc.up hc.np.1 hx
  have h1:=Int.mul_le_mul_of_nonneg_left (h _ (show Ch.nbI P x<P.length by omega) k hk) hf.1.1
  have h2:=Int.mul_le_mul_of_nonneg_left (h _ hb2.1 k hk) hf.2.1.1
  have h3:=Int.mul_le_mul_of_nonneg_left (show b'+slope*A.getD k 0≤b+slope*A.getD k 0 by omega) (Int.le_of_lt hf.2.2)
  unfold abv
  omega
def FallT (P A:List Int) (T:Nat→Nat→Int):Prop:=∀ i,i<P.length→∀ k,k+1<A.length→T i (k+1)≤T i k
theorem lo_fall (hc:Ch.OkC P A R):FallT P A (Ch.loAt R):=fun i hi k hk=>by
  have h1:=hc.nr
  have h2:=hc.row (i:=i) (by omega)
  exact (hc.fall (i:=i) (k:=k) (by omega) (by omega)).1
theorem hi_fall (hc:Ch.OkC P A R):FallT P A (Ch.hiAt R):=fun i hi k hk=>by
  have h1:=hc.nr
  have h2:=hc.row (i:=i) (by omega)
  exact (hc.fall (i:=i) (k:=k) (by omega) (by omega)).2
theorem meR_le {T T':Nat→Nat→Int} {b b':Int} {y z:Int × Int} (hc:Ch.OkC P A R) (hx:Ch.On P x) (hs:1≤slope) (h:∀ i,i<P.length→∀ k,k<A.length→T i k≤T' i k) (hb:b'≤b) (hf:FallT P A T) (hf':FallT P A T') (m:MeR A (abv P A T x b slope) A.length true y) (m':MeR A (abv P A T' x b' slope) A.length true z):bl (z.1*y.2<y.1*z.2)=false:=by
  obtain ⟨n1,d1,rfl,M⟩:=m.mt hc.na.1 (fun i j h1 h2=>hc.ua.1.lt h1 h2) (abv_dec hc hx hs hf)
  obtain ⟨n2,d2,rfl,M'⟩:=m'.mt hc.na.1 (fun i j h1 h2=>hc.ua.1.lt h1 h2) (abv_dec hc hx hs hf')
  have:=mt_mono (abv_le (slope:=slope) hc hx h hb) M M'
  refine bl_f.2 ?_
  rw [red_lt M'.dp M.dp]
  omega
/-- if the least and the most meet, so does what is between -/
theorem meR_yes {T0 T T1:Nat→Nat→Int} {b0 b b1:Int} {bz:Bool} {y z u:Int × Int} (hc:Ch.OkC P A R) (hx:Ch.On P x) (hs:1≤slope) (h0:∀ i,i<P.length→∀ k,k<A.length→T0 i k≤T i k) (h1:∀ i,i<P.length→∀ k,k<A.length→T i k≤T1 i k) (hb0:b≤b0) (hb1:b1≤b) (hf0:FallT P A T0) (hf1:FallT P A T1) (m0:MeR A (abv P A T0 x b0 slope) A.length true y) (m1:MeR A (abv P A T1 x b1 slope) A.length true z) (m:MeR A (abv P A T x b slope) A.length bz u):bz=true:=by
  have hn:=hc.na
  have e0:=m0.ends (abv_dec hc hx hs hf0)
  have e1:=m1.ends (abv_dec hc hx hs hf1)
  have l0:=abv_le (slope:=slope) hc hx h0 hb0 0 (by omega)
  have l1:=abv_le (slope:=slope) hc hx h1 hb1 (A.length-1) (by omega)
  exact m.yes (by omega) (by omega) (by omega)
theorem tr_lo {T:List (List Int)} (hc:Ch.OkC P A R) (ht:Ch.OkTr R T):∀ i,i<P.length→∀ k,k<A.length→Ch.loAt R i k≤Ch.tAt T i k:=fun i hi k hk=>by
  have h1:=hc.nr
  have h2:=hc.row (i:=i) (by omega)
  exact (ht.v i (by omega) k (by omega)).1
theorem tr_hi {T:List (List Int)} (hc:Ch.OkC P A R) (ht:Ch.OkTr R T):∀ i,i<P.length→∀ k,k<A.length→Ch.tAt T i k≤Ch.hiAt R i k:=fun i hi k hk=>by
  have h1:=hc.nr
  have h2:=hc.row (i:=i) (by omega)
  exact (ht.v i (by omega) k (by omega)).2
end
end Go.Proofs.YtfchgmiiicidcaaGreat
namespace Go.Proofs.YtfchgmiiicidcaaGreat
open Go Go.TH
attribute [local irreducible] W WO pt
set_option maxRecDepth 10000
set_option maxHeartbeats 2000000
theorem ref_rising (w:World) (v:Value) (l:List Int) (hR:RdF encI 1 w.heap.size w v l):Ret Tryz.prog 79 [v].toArray w (.bool (bl (Ch.Ris l))):=by
 refine Ret.of mixed tyTab Tryz.func79 rfl rfl ?_
 replace hR:RdF encI 1 (fnCx mixed tyTab Tryz.f79.ntmps w).B (fnCx mixed tyTab Tryz.f79.ntmps w).w0 v l:=hR
 have hle:=hR.sl.le
 refine W.sreg (WO.p rfl rfl (WO.nil (W.seq (W.sreg (WO.p rfl rfl (WO.nil (W.block ?_)))))))
 refine W.loop (fun (i:Nat)=>i≤l.length∧Ch.Up l i∧∀ x∈l.take i,0≤x∧x≤2000)
  (fun (i:Nat)=>[(3,.int .i64 (i:Int)),(0,v)])
  (fun (i:Nat)=>[])
  (fun (i:Nat)=>l.length-i) 0
  (by exact ⟨by omega,fun i hi=>by omega,by simp⟩) ⟨rfl,rfl,trivial⟩ (by repeat (first | exact Sub.nil | refine Sub.cons (by repeat first | exact .head | apply Pick.tail) ?_)) ?_
 rintro i ⟨hi0,hu,ha⟩
 refine W.seq (W.sreg (WO.p rfl rfl (WO.p rfl rfl (WO.len rfl rfl hR.sl rfl (WO.p rfl rfl (WO.nil ?_))))))
 refine W.cond_bl rfl (fun c1=>?_) (fun c1=>?_)
 ·refine W.skip (W.seq (W.block (W.seq ?_)))
  refine W.drawD 25 [.r 0 [],.r 1 [],.r 2 [],.b 3 [],.r 4 [],.r 5 [],.r 6 [],.r 7 [],.r 8 [],.b 9 [],.r 10 [],.r 11 [],.r 12 [],.r 13 [],.r 14 [],.r 15 [],.r 16 [],.r 17 [],.r 18 [],.b 19 [],.r 20 [],.r 21 [],.r 22 [],.r 23 [],.b 24 []] [] (A0:=[]) (Sub.refl _) (by kernel_rfl) ?_ ?_
  ·repeat constructor
  refine DT.r rfl rfl rfl (WO.p rfl rfl (WO.nil ⟨rfl,rfl⟩)) (DT.r rfl rfl rfl (WO.p rfl rfl (WO.nil ⟨rfl,rfl⟩)) (DT.r rfl rfl rfl (WO.indexAddr rfl rfl rfl hR.sl (by omega) rfl (WO.nil ⟨rfl,rfl⟩)) ?_))
  refine' DT.b rfl rfl rfl ?hq ?_
  case hq =>
   refine' WO.load (v:=_) rfl rfl ?hc rfl ?_
   case hc=>(first | (refine hR.cell0 (i:=i) ?_ 0 ?_ <;> first | rfl | omega))
   exact WO.nil ⟨rfl,rfl⟩
  refine DT.r rfl rfl rfl (WO.p rfl rfl (WO.nil ⟨rfl,rfl⟩)) ?_
  refine DT.rB rfl rfl rfl (WO.p rfl rfl (WO.nil ⟨rfl,rfl⟩)) (fun c2=>?_) (fun c2=>?_)
  ·refine DT.r rfl rfl rfl (WO.no rfl rfl (WO.nil ⟨rfl,rfl⟩)) (DT.r rfl rfl rfl (WO.no rfl rfl (WO.nil ⟨rfl,rfl⟩)) (DT.r rfl rfl rfl (WO.no rfl rfl (WO.nil ⟨rfl,rfl⟩)) (DT.b rfl rfl rfl (WO.no rfl rfl (WO.nil ⟨rfl,rfl⟩)) (DT.r rfl rfl rfl (WO.no rfl rfl (WO.nil ⟨rfl,rfl⟩)) (DT.r rfl rfl rfl (WO.p rfl rfl (WO.nil ⟨rfl,rfl⟩)) (DT.r rfl rfl rfl (WO.p rfl rfl (WO.nil ⟨rfl,rfl⟩)) (DT.r rfl rfl rfl (WO.no rfl rfl (WO.nil ⟨rfl,rfl⟩)) (DT.r rfl rfl rfl (WO.no rfl rfl (WO.nil ⟨rfl,rfl⟩)) (DT.r rfl rfl rfl (WO.no rfl rfl (WO.nil ⟨rfl,rfl⟩)) (DT.r rfl rfl rfl (WO.no rfl rfl (WO.nil ⟨rfl,rfl⟩)) (DT.r rfl rfl rfl (WO.no rfl rfl (WO.nil ⟨rfl,rfl⟩)) ?_)))))))))))
   refine DT.r rfl rfl rfl (WO.no rfl rfl (WO.nil ⟨rfl,rfl⟩)) (DT.b rfl rfl rfl (WO.no rfl rfl (WO.nil ⟨rfl,rfl⟩)) (DT.r rfl rfl rfl (WO.no rfl rfl (WO.nil ⟨rfl,rfl⟩)) (DT.r rfl rfl rfl (WO.no rfl rfl (WO.nil ⟨rfl,rfl⟩)) (DT.r rfl rfl rfl (WO.no rfl rfl (WO.nil ⟨rfl,rfl⟩)) (DT.r rfl rfl rfl (WO.no rfl rfl (WO.nil ⟨rfl,rfl⟩)) (DT.b rfl rfl rfl (WO.no rfl rfl (WO.nil ⟨rfl,rfl⟩)) (DT.nil [] rfl (WO.no rfl rfl (WO.no rfl rfl (WO.p rfl rfl (WO.nil (W.cond_t rfl (W.sreg (WO.p rfl rfl (WO.nil (W.ret (fin.ret (Res.one rfl (RV.tmp rfl)) (congrArg Value.bool ?_))))))))))))))))))
   (refine (bl_f.2 (fun h=>?_)).symm;have h2:=h.2 _ (getD_mem (show i<l.length by omega) 0);omega)
  ·refine DT.r rfl rfl rfl (WO.pg rfl rfl rfl (WO.nil ⟨rfl,rfl⟩)) (DT.r rfl rfl rfl (WO.pg rfl rfl rfl (WO.nil ⟨rfl,rfl⟩)) (DT.r rfl rfl rfl (WO.go' rfl (WO.indexAddr rfl rfl rfl hR.sl (by omega) rfl (WO.nil ⟨rfl,rfl⟩))) ?_))
   refine' DT.b rfl rfl rfl ?hq ?_
   case hq =>
    refine WO.go' rfl ?_
    refine' WO.load (v:=_) rfl rfl ?hc rfl ?_
    case hc=>(first | (refine hR.cell0 (i:=i) ?_ 0 ?_ <;> first | rfl | omega))
    exact WO.nil ⟨rfl,rfl⟩
   refine DT.r rfl rfl rfl (WO.pg rfl rfl rfl (WO.nil ⟨rfl,rfl⟩)) (DT.r rfl rfl rfl (WO.p rfl rfl (WO.nil ⟨rfl,rfl⟩)) ?_)
   refine DT.rB rfl rfl rfl (WO.p rfl rfl (WO.nil ⟨rfl,rfl⟩)) (fun c3=>?_) (fun c3=>?_)
   ·refine DT.r rfl rfl rfl (WO.no rfl rfl (WO.nil ⟨rfl,rfl⟩)) (DT.r rfl rfl rfl (WO.no rfl rfl (WO.nil ⟨rfl,rfl⟩)) (DT.r rfl rfl rfl (WO.no rfl rfl (WO.nil ⟨rfl,rfl⟩)) (DT.r rfl rfl rfl (WO.no rfl rfl (WO.nil ⟨rfl,rfl⟩)) (DT.r rfl rfl rfl (WO.no rfl rfl (WO.nil ⟨rfl,rfl⟩)) (DT.r rfl rfl rfl (WO.no rfl rfl (WO.nil ⟨rfl,rfl⟩)) (DT.b rfl rfl rfl (WO.no rfl rfl (WO.nil ⟨rfl,rfl⟩)) (DT.r rfl rfl rfl (WO.no rfl rfl (WO.nil ⟨rfl,rfl⟩)) (DT.r rfl rfl rfl (WO.no rfl rfl (WO.nil ⟨rfl,rfl⟩)) (DT.r rfl rfl rfl (WO.no rfl rfl (WO.nil ⟨rfl,rfl⟩)) (DT.r rfl rfl rfl (WO.no rfl rfl (WO.nil ⟨rfl,rfl⟩)) (DT.b rfl rfl rfl (WO.no rfl rfl (WO.nil ⟨rfl,rfl⟩)) (DT.nil [] rfl ?_))))))))))))
    refine WO.no rfl rfl (WO.no rfl rfl (WO.p rfl rfl (WO.nil (W.cond_t rfl (W.sreg (WO.p rfl rfl (WO.nil (W.ret (fin.ret (Res.one rfl (RV.tmp rfl)) (congrArg Value.bool ?_))))))))))
    (refine (bl_f.2 (fun h=>?_)).symm;have h2:=h.2 _ (getD_mem (show i<l.length by omega) 0);omega)
   ·refine DT.r rfl rfl rfl (WO.pg rfl rfl rfl (WO.nil ⟨rfl,rfl⟩)) (DT.r rfl rfl rfl (WO.pg rfl rfl rfl (WO.nil ⟨rfl,rfl⟩)) ?_)
    refine DT.rB rfl rfl rfl (WO.pg rfl rfl rfl (WO.nil ⟨rfl,rfl⟩)) (fun c4=>?_) (fun c4=>?_)
    ·refine DT.r rfl rfl rfl (WO.pg rfl rfl rfl (WO.nil ⟨rfl,rfl⟩)) (DT.r rfl rfl rfl (WO.pg rfl rfl rfl (WO.nil ⟨rfl,rfl⟩)) (DT.r rfl rfl rfl (WO.go' rfl (WO.indexAddr rfl rfl rfl hR.sl (by omega) rfl (WO.nil ⟨rfl,rfl⟩))) ?_))
     refine' DT.b rfl rfl rfl ?hq ?_
     case hq =>
      refine WO.go' rfl ?_
      refine' WO.load (v:=_) rfl rfl ?hc rfl ?_
      case hc=>(first | (refine hR.cell0 (i:=i) ?_ 0 ?_ <;> first | rfl | omega))
      exact WO.nil ⟨rfl,rfl⟩
     refine DT.r rfl rfl rfl (WO.pg rfl rfl rfl (WO.nil ⟨rfl,rfl⟩)) (DT.r rfl rfl rfl (WO.pg rfl rfl rfl (WO.nil ⟨rfl,rfl⟩)) (DT.r rfl rfl rfl (WO.go' rfl (WO.ar rfl rfl rfl (by unfold in64;omega) rfl (WO.nil ⟨rfl,rfl⟩))) ?_))
     refine' DT.r rfl rfl rfl ?hq ?_
     case hq =>
      refine WO.go' rfl ?_
      refine' WO.indexAddrZ (n:=_) rfl rfl rfl ?hs ?h00 ?h1 rfl ?_
      case hs=>exact hR.sl
      case h00=>omega
      case h1=>(omega)
      exact WO.nil ⟨rfl,rfl⟩
     refine' DT.b rfl rfl rfl ?hq ?_
     case hq =>
      refine WO.go' rfl ?_
      refine' WO.load (v:=_) rfl rfl ?hc rfl ?_
      case hc=>(first | (refine hR.cell0 (i:=((i:Int)-1).toNat) ?_ 0 ?_ <;> first | rfl | omega))
      exact WO.nil ⟨rfl,rfl⟩
     refine DT.nil [] rfl (WO.pg rfl rfl rfl (WO.pg rfl rfl rfl (WO.p rfl rfl (WO.nil ?_))))
     refine W.cond_bl rfl (fun c5=>?_) (fun c5=>?_)
     ·refine W.sreg (WO.p rfl rfl (WO.nil (W.ret (fin.ret (Res.one rfl (RV.tmp rfl)) (congrArg Value.bool ?_)))))
      (refine (bl_f.2 (fun h=>?_)).symm;have h1:=h.1 i (by omega) (by omega);rw [show i-1=((i:Int)-1).toNat by omega] at h1;omega)
     ·refine W.skip (W.region (WO.p rfl rfl (WO.ar rfl rfl rfl (by unfold in64;omega) rfl (WO.p rfl rfl (WO.nil ?_)))))
      refine' ⟨i+1,?hp,?hmu,⟨rfl,rfl,trivial⟩,?hS⟩
      case hS=>repeat (first | exact Sub.nil | refine Sub.cons (by repeat first | exact .head | apply Pick.tail) ?_)
      case hp=>exact ⟨by omega,hu.next fun h0=>(by rw [show i-1=((i:Int)-1).toNat by omega];omega),all_succ (by omega) 0 ha (by omega)⟩
      case hmu=>omega
    ·refine DT.r rfl rfl rfl (WO.no rfl rfl (WO.nil ⟨rfl,rfl⟩)) (DT.r rfl rfl rfl (WO.no rfl rfl (WO.nil ⟨rfl,rfl⟩)) (DT.r rfl rfl rfl (WO.no rfl rfl (WO.nil ⟨rfl,rfl⟩)) (DT.b rfl rfl rfl (WO.no rfl rfl (WO.nil ⟨rfl,rfl⟩)) (DT.r rfl rfl rfl (WO.no rfl rfl (WO.nil ⟨rfl,rfl⟩)) (DT.r rfl rfl rfl (WO.no rfl rfl (WO.nil ⟨rfl,rfl⟩)) (DT.r rfl rfl rfl (WO.no rfl rfl (WO.nil ⟨rfl,rfl⟩)) (DT.r rfl rfl rfl (WO.no rfl rfl (WO.nil ⟨rfl,rfl⟩)) (DT.b rfl rfl rfl (WO.no rfl rfl (WO.nil ⟨rfl,rfl⟩)) (DT.nil [] rfl (WO.no rfl rfl (WO.pg rfl rfl rfl (WO.p rfl rfl (WO.nil (W.cond_f rfl (W.skip (W.region ?_))))))))))))))))
     refine WO.p rfl rfl (WO.ar rfl rfl rfl (by unfold in64;omega) rfl (WO.p rfl rfl (WO.nil ?_)))
     refine' ⟨i+1,?hp,?hmu,⟨rfl,rfl,trivial⟩,?hS⟩
     case hS=>repeat (first | exact Sub.nil | refine Sub.cons (by repeat first | exact .head | apply Pick.tail) ?_)
     case hp=>exact ⟨by omega,hu.next fun h0=>(by rw [show i-1=((i:Int)-1).toNat by omega];omega),all_succ (by omega) 0 ha (by omega)⟩
     case hmu=>omega
 ·refine W.exit (blk_same (W.sreg (WO.p rfl rfl (WO.nil (W.ret (fin.ret (Res.one rfl (RV.tmp rfl)) (congrArg Value.bool ?_)))))))
  (have hl:i=l.length:=(by omega);subst hl;rw [List.take_length] at ha;exact (bl_t.2 ⟨hu,ha⟩).symm)
end Go.Proofs.YtfchgmiiicidcaaGreat
namespace Go.Proofs.YtfchgmiiicidcaaGreat
open Go Go.TH
attribute [local irreducible] W WO pt
set_option maxRecDepth 10000
set_option maxHeartbeats 2000000
def ptN (l:List Int) (g:Int):Int:=l.getD 0 0+g.tmod (l.getD (l.length-1) 0-l.getD 0 0+1)
theorem pt_bd {l:List Int} {g:Int} (hr:Ch.Ris l) (h2:2≤l.length) (hg:0≤g):l.getD 0 0≤ptN l g∧ptN l g≤l.getD (l.length-1) 0∧(0≤l.getD 0 0∧l.getD 0 0≤l.getD (l.length-1) 0∧l.getD (l.length-1) 0≤2000):=by
 have h0:=hr.2 _ (getD_mem (show 0<l.length by omega) 0)
 have h1:=hr.2 _ (getD_mem (show l.length-1<l.length by omega) 0)
 have hlt:=hr.1.lt (show 0<l.length-1 by omega) (show l.length-1<l.length by omega)
 have m0:=Int.tmod_nonneg (l.getD (l.length-1) 0-l.getD 0 0+1) hg
 have m1:=Int.tmod_lt_of_pos g (show 0<l.getD (l.length-1) 0-l.getD 0 0+1 by omega)
 unfold ptN
 omega
theorem pt_on {l:List Int} {g:Int} (hr:Ch.Ris l) (h2:2≤l.length) (hg:0≤g):Ch.On l (ptN l g):=by
 have h:=pt_bd hr h2 hg
 refine ⟨h.1,List.findIdx_lt_length.2 ⟨l.getD (l.length-1) 0,getD_mem (by omega) 0,decide_eq_true h.2.1⟩⟩
theorem c_Point (w:World) (vp va o:Value) (P A:List Int) (R:Ch.Rws) (g h:Int) (hg:0≤g∧g≤65535) (hh:0≤h∧h≤65535) (hc:Ch.OkC P A R) (ho:o.oneCell'=true) (hP:RdF encI 1 w.heap.size w vp P) (hA:RdF encI 1 w.heap.size w va A):Ret Tryz.prog 19 [.agg #[vp,va,o],.agg #[.int .u16 g,.int .u16 h]].toArray w (.agg #[.int .i64 (ptN P g),.int .i64 (ptN A h)]):=by
 refine Ret.of mixed tyTab Tryz.func19 rfl rfl ?_
 replace hP:RdF encI 1 (fnCx mixed tyTab Tryz.f19.ntmps w).B (fnCx mixed tyTab Tryz.f19.ntmps w).w0 vp P:=hP
 replace hA:RdF encI 1 (fnCx mixed tyTab Tryz.f19.ntmps w).B (fnCx mixed tyTab Tryz.f19.ntmps w).w0 va A:=hA
 have hlp:=hP.sl.le
 have hla:=hA.sl.le
 have hnp:=hc.np
 have hna:=hc.na
 have bp:=pt_bd hc.up hnp.1 hg.1
 have ba:=pt_bd hc.ua hna.1 hh.1
 unfold ptN at bp ba
 have e1:((P.length:Int)-1).toNat=P.length-1:=by omega
 have e2:((A.length:Int)-1).toNat=A.length-1:=by omega
 rw [← e1] at bp
 rw [← e2] at ba
 unfold ptN
 rw [← e1,← e2]
 refine W.sreg (WO.boxA rfl rfl (fun b1 hb1=>(WO.boxA rfl rfl (fun b2 hb2=>(WO.alloc rfl rfl rfl (fun b3 hb3=>(WO.nil (W.seq ?_))))))))
 refine W.drawD 13 [.r 0 [],.b 1 [],.r 2 [],.b 3 [],.r 4 [],.b 5 [],.r 6 [],.b 7 [],.r 8 [],.r 9 [],.r 10 [],.b 11 [],.r 12 []] [] (A0:=[]) (Sub.refl _) (by kernel_rfl) ?_ ?_
 ·repeat constructor
 refine DT.r rfl rfl rfl (WO.field0 rfl rfl rfl (WO.nil ⟨rfl,rfl⟩)) (DT.b rfl rfl rfl (WO.load rfl rfl (Cell.own (Pick.tail (Pick.tail (Pick.head))) rfl) rfl (WO.nil ⟨rfl,rfl⟩)) (DT.r rfl rfl rfl (WO.indexAddr (i:=0) rfl rfl rfl hP.sl (by omega) rfl (WO.nil ⟨rfl,rfl⟩)) ?_))
 refine' DT.b rfl rfl rfl ?hq ?_
 case hq =>
  refine' WO.load (v:=_) rfl rfl ?hc rfl ?_
  case hc=>(first | (refine hP.cell0 (i:=0) ?_ 0 ?_ <;> first | rfl | omega))
  exact WO.nil ⟨rfl,rfl⟩
 refine DT.r rfl rfl rfl (WO.field0 rfl rfl rfl (WO.nil ⟨rfl,rfl⟩)) (DT.b rfl rfl rfl (WO.load rfl rfl (Cell.own (Pick.tail (Pick.tail (Pick.head))) rfl) rfl (WO.nil ⟨rfl,rfl⟩)) (DT.r rfl rfl rfl (WO.field0 rfl rfl rfl (WO.nil ⟨rfl,rfl⟩)) (DT.b rfl rfl rfl (WO.load rfl rfl (Cell.own (Pick.tail (Pick.tail (Pick.head))) rfl) rfl (WO.nil ⟨rfl,rfl⟩)) (DT.r rfl rfl rfl (WO.len rfl rfl hP.sl rfl (WO.nil ⟨rfl,rfl⟩)) (DT.r rfl rfl rfl (WO.ar rfl rfl rfl (by unfold in64;omega) rfl (WO.nil ⟨rfl,rfl⟩)) ?_)))))
 refine' DT.r rfl rfl rfl ?hq ?_
 case hq =>
  refine' WO.indexAddrZ (n:=_) rfl rfl rfl ?hs ?h00 ?h1 rfl ?_
  case hs=>exact hP.sl
  case h00=>omega
  case h1=>(omega)
  exact WO.nil ⟨rfl,rfl⟩
 refine' DT.b rfl rfl rfl ?hq ?_
 case hq =>
  refine' WO.load (v:=_) rfl rfl ?hc rfl ?_
  case hc=>(first | (refine hP.cell0 (i:=((P.length:Int)-1).toNat) ?_ 0 ?_ <;> first | rfl | omega))
  exact WO.nil ⟨rfl,rfl⟩
 refine DT.r rfl rfl rfl (WO.p rfl rfl (WO.nil ⟨rfl,rfl⟩)) (DT.nil [_,_,_] rfl (WO.p rfl rfl (WO.nil (W.seq ?_))))
 refine W.drawD 13 [.r 0 [],.b 1 [],.r 2 [],.b 3 [],.r 4 [],.b 5 [],.r 6 [],.b 7 [],.r 8 [],.r 9 [],.r 10 [],.b 11 [],.r 12 []] [] (A0:=[]) (Sub.refl _) (by kernel_rfl) ?_ ?_
 ·repeat constructor
 refine DT.r rfl rfl rfl (WO.fieldL rfl rfl rfl (WO.nil ⟨rfl,rfl⟩)) (DT.b rfl rfl rfl (WO.load rfl rfl (Cell.own (Pick.tail (Pick.tail (Pick.head))) rfl) rfl (WO.nil ⟨rfl,rfl⟩)) (DT.r rfl rfl rfl (WO.indexAddr (i:=0) rfl rfl rfl hA.sl (by omega) rfl (WO.nil ⟨rfl,rfl⟩)) ?_))
 refine' DT.b rfl rfl rfl ?hq ?_
 case hq =>
  refine' WO.load (v:=_) rfl rfl ?hc rfl ?_
  case hc=>(first | (refine hA.cell0 (i:=0) ?_ 0 ?_ <;> first | rfl | omega))
  exact WO.nil ⟨rfl,rfl⟩
 refine DT.r rfl rfl rfl (WO.fieldL rfl rfl rfl (WO.nil ⟨rfl,rfl⟩)) (DT.b rfl rfl rfl (WO.load rfl rfl (Cell.own (Pick.tail (Pick.tail (Pick.head))) rfl) rfl (WO.nil ⟨rfl,rfl⟩)) (DT.r rfl rfl rfl (WO.fieldL rfl rfl rfl (WO.nil ⟨rfl,rfl⟩)) (DT.b rfl rfl rfl (WO.load rfl rfl (Cell.own (Pick.tail (Pick.tail (Pick.head))) rfl) rfl (WO.nil ⟨rfl,rfl⟩)) (DT.r rfl rfl rfl (WO.len rfl rfl hA.sl rfl (WO.nil ⟨rfl,rfl⟩)) (DT.r rfl rfl rfl (WO.ar rfl rfl rfl (by unfold in64;omega) rfl (WO.nil ⟨rfl,rfl⟩)) ?_)))))
 refine' DT.r rfl rfl rfl ?hq ?_
 case hq =>
  refine' WO.indexAddrZ (n:=_) rfl rfl rfl ?hs ?h00 ?h1 rfl ?_
  case hs=>exact hA.sl
  case h00=>omega
  case h1=>(omega)
  exact WO.nil ⟨rfl,rfl⟩
 refine' DT.b rfl rfl rfl ?hq ?_
 case hq =>
  refine' WO.load (v:=_) rfl rfl ?hc rfl ?_
  case hc=>(first | (refine hA.cell0 (i:=((A.length:Int)-1).toNat) ?_ 0 ?_ <;> first | rfl | omega))
  exact WO.nil ⟨rfl,rfl⟩
 refine DT.r rfl rfl rfl (WO.p rfl rfl (WO.nil ⟨rfl,rfl⟩)) (DT.nil [_,_,_] rfl (WO.p rfl rfl (WO.nil (W.seq ?_))))
 refine W.drawD 20 [.r 0 [],.r 1 [],.b 2 [],.r 3 [],.r 4 [],.r 5 [],.r 6 [],.r 7 [],.r 8 [],.r 9 [],.r 10 [],.r 11 [],.b 12 [],.r 13 [],.r 14 [],.r 15 [],.r 16 [],.r 17 [],.r 18 [],.r 19 []] [] (A0:=[_]) (H0:=[_,_]) (.cons .head (.cons .head (.cons .head .nil))) (by kernel_rfl) ?_ ?_
 ·repeat constructor
 refine DT.r rfl rfl rfl (WO.p rfl rfl (WO.nil ⟨rfl,rfl⟩)) (DT.r rfl rfl rfl (WO.indexArrL (o':=0) rfl rfl rfl (by decide) rfl rfl (WO.nil ⟨rfl,rfl⟩)) (DT.b rfl rfl rfl (WO.load rfl rfl (Cell.own Pick.head rfl) rfl (WO.nil ⟨rfl,rfl⟩)) (DT.r rfl rfl rfl (WO.conv64 rfl rfl rfl (by unfold in64;omega) rfl (WO.nil ⟨rfl,rfl⟩)) (DT.r rfl rfl rfl (WO.p rfl rfl (WO.nil ⟨rfl,rfl⟩)) (DT.r rfl rfl rfl (WO.p rfl rfl (WO.nil ⟨rfl,rfl⟩)) (DT.r rfl rfl rfl (WO.ar rfl rfl rfl (by unfold in64;omega) rfl (WO.nil ⟨rfl,rfl⟩)) (DT.r rfl rfl rfl (WO.ar rfl rfl rfl (by unfold in64;omega) rfl (WO.nil ⟨rfl,rfl⟩)) (DT.r rfl rfl rfl (WO.rem rfl rfl (by omega) rfl (WO.nil ⟨rfl,rfl⟩)) ?_))))))))
 refine DT.r rfl rfl rfl (WO.ar rfl rfl rfl (by unfold in64;omega) rfl (WO.nil ⟨rfl,rfl⟩)) (DT.r rfl rfl rfl (WO.p rfl rfl (WO.nil ⟨rfl,rfl⟩)) (DT.r rfl rfl rfl (WO.indexArrL (o':=1) rfl rfl rfl (by decide) rfl rfl (WO.nil ⟨rfl,rfl⟩)) (DT.b rfl rfl rfl (WO.load rfl rfl (Cell.own Pick.head rfl) rfl (WO.nil ⟨rfl,rfl⟩)) (DT.r rfl rfl rfl (WO.conv64 rfl rfl rfl (by unfold in64;omega) rfl (WO.nil ⟨rfl,rfl⟩)) (DT.r rfl rfl rfl (WO.p rfl rfl (WO.nil ⟨rfl,rfl⟩)) (DT.r rfl rfl rfl (WO.p rfl rfl (WO.nil ⟨rfl,rfl⟩)) (DT.r rfl rfl rfl (WO.ar rfl rfl rfl (by unfold in64;omega) rfl (WO.nil ⟨rfl,rfl⟩)) ?_)))))))
 refine DT.r rfl rfl rfl (WO.ar rfl rfl rfl (by unfold in64;omega) rfl (WO.nil ⟨rfl,rfl⟩)) (DT.r rfl rfl rfl (WO.rem rfl rfl (by omega) rfl (WO.nil ⟨rfl,rfl⟩)) (DT.r rfl rfl rfl (WO.ar rfl rfl rfl (by unfold in64;omega) rfl (WO.nil ⟨rfl,rfl⟩)) (DT.nil [_,_,_] rfl (WO.build rfl rfl rfl rfl rfl (WO.storeA rfl rfl rfl rfl Pick.head rfl rfl (WO.nil (W.ret ?_)))))))
 (rw [e1,e2];exact fin.ret (Res.one rfl (RV.cell rfl rfl rfl (Cells.own (by repeat exact .head)))) rfl)
end Go.Proofs.YtfchgmiiicidcaaGreat
namespace Go.Proofs.YtfchgmiiicidcaaGreat
open Go Go.TH
attribute [local irreducible] W WO pt
set_option maxRecDepth 10000
set_option maxHeartbeats 4000000
def rgX (x:Int × Int):Prop:=0≤x.1∧x.1≤x.2∧x.2≤100000
def flR (r:List (Int × Int)) (n:Nat):Prop:=∀ k,k<n→0<k→(r.getD k (0,0)).1≤(r.getD (k-1) (0,0)).1∧(r.getD k (0,0)).2≤(r.getD (k-1) (0,0)).2
theorem flR.next {r:List (Int × Int)} {n:Nat} (h:flR r n) (g:(r.getD n (0,0)).1≤(r.getD ((n:Int)-1).toNat (0,0)).1∧(r.getD n (0,0)).2≤(r.getD ((n:Int)-1).toNat (0,0)).2):flR r (n+1):=fun k hk h0=>by
 rcases Nat.lt_or_ge k n with q | q
 ·exact h k q h0
 ·obtain rfl:k=n:=by omega
  rw [show k-1=((k:Int)-1).toNat by omega];exact g
theorem ref_CheckChart (w:World) (vp va o:Value) (rv:List Value) (P A:List Int) (R:Ch.Rws) (hP:RdF encI 1 w.heap.size w vp P) (hA:RdF encI 1 w.heap.size w va A) (hR:RdR encP 2 w.heap.size w o rv R):RetE Tryz.prog 31 [.agg #[vp,va,o]].toArray w (fun r=>∃ e:Int,r=.int .i64 e∧(e=0→Ch.OkC P A R)):=by
 refine RetE.of mixed tyTab Tryz.func31 rfl rfl ?_
 replace hR:RdR encP 2 (fnCx mixed tyTab Tryz.f31.ntmps w).B (fnCx mixed tyTab Tryz.f31.ntmps w).w0 o rv R:=hR
 replace hP:RdF encI 1 (fnCx mixed tyTab Tryz.f31.ntmps w).B (fnCx mixed tyTab Tryz.f31.ntmps w).w0 vp P:=hP
 replace hA:RdF encI 1 (fnCx mixed tyTab Tryz.f31.ntmps w).B (fnCx mixed tyTab Tryz.f31.ntmps w).w0 va A:=hA
 have hle:=hR.sl.le
 have hrl:∀ j,j<R.length→(R.getD j []).length≤9223372036854775807:=fun j hj=>(hR.row j hj).sl.le
 refine W.sreg (WO.boxA rfl rfl (fun b1 hb1=>(WO.p rfl rfl (WO.nil (W.seq (W.sreg (WO.field0 rfl rfl rfl (WO.load rfl rfl (Cell.own Pick.head rfl) rfl ?_))))))))
 refine' WO.len (n:=_) rfl rfl ?hs rfl ?_
 case hs=>(first | exact hP.sl)
 refine WO.p rfl rfl (WO.p rfl rfl ?_)
 refine WO.guard_bl rfl rfl (fun c1=>?_) (fun c1=>?_)
 ·refine WO.no rfl rfl (WO.no rfl rfl (WO.no rfl rfl (WO.no rfl rfl (WO.p rfl rfl (WO.p rfl rfl (WO.no rfl rfl (WO.no rfl rfl (WO.no rfl rfl (WO.no rfl rfl (WO.p rfl rfl (WO.p rfl rfl (WO.no rfl rfl (WO.no rfl rfl (WO.no rfl rfl (WO.no rfl rfl (WO.p rfl rfl (WO.nil (W.cond_t rfl (W.sreg (WO.p rfl rfl (WO.nil (W.ret ?_))))))))))))))))))))))
  refine fin.ret (Res.one rfl (RV.tmp rfl)) ⟨_,rfl,fun he=>?_⟩
  (exfalso;omega)
 ·refine WO.go' rfl (WO.field0 rfl rfl rfl (WO.go' rfl (WO.load rfl rfl (Cell.own Pick.head rfl) rfl (WO.go' rfl ?_))))
  refine' WO.len (n:=_) rfl rfl ?hs rfl ?_
  case hs=>(first | exact hP.sl)
  refine WO.pg rfl rfl rfl (WO.p rfl rfl (WO.p rfl rfl ?_))
  refine WO.guard_bl rfl rfl (fun c2=>?_) (fun c2=>?_)
  ·refine WO.no rfl rfl (WO.no rfl rfl (WO.no rfl rfl (WO.no rfl rfl (WO.p rfl rfl (WO.p rfl rfl (WO.no rfl rfl (WO.no rfl rfl (WO.no rfl rfl (WO.no rfl rfl (WO.p rfl rfl (WO.nil (W.cond_t rfl (W.sreg (WO.p rfl rfl (WO.nil (W.ret ?_))))))))))))))))
   refine fin.ret (Res.one rfl (RV.tmp rfl)) ⟨_,rfl,fun he=>?_⟩
   (exfalso;omega)
  ·refine WO.go' rfl (WO.fieldL rfl rfl rfl (WO.go' rfl (WO.load rfl rfl (Cell.own Pick.head rfl) rfl (WO.go' rfl ?_))))
   refine' WO.len (n:=_) rfl rfl ?hs rfl ?_
   case hs=>(first | exact hA.sl)
   refine WO.pg rfl rfl rfl (WO.p rfl rfl (WO.p rfl rfl ?_))
   refine WO.guard_bl rfl rfl (fun c3=>?_) (fun c3=>?_)
   ·refine WO.no rfl rfl (WO.no rfl rfl (WO.no rfl rfl (WO.no rfl rfl (WO.p rfl rfl (WO.nil (W.cond_t rfl (W.sreg (WO.p rfl rfl (WO.nil (W.ret ?_))))))))))
    refine fin.ret (Res.one rfl (RV.tmp rfl)) ⟨_,rfl,fun he=>?_⟩
    (exfalso;omega)
   ·refine WO.go' rfl (WO.fieldL rfl rfl rfl (WO.go' rfl (WO.load rfl rfl (Cell.own Pick.head rfl) rfl (WO.go' rfl ?_))))
    refine' WO.len (n:=_) rfl rfl ?hs rfl ?_
    case hs=>(first | exact hA.sl)
    refine WO.pg rfl rfl rfl (WO.p rfl rfl (WO.nil ?_))
    refine W.cond_bl rfl (fun c4=>?_) (fun c4=>?_)
    ·refine W.sreg (WO.p rfl rfl (WO.nil (W.ret ?_)))
     refine fin.ret (Res.one rfl (RV.tmp rfl)) ⟨_,rfl,fun he=>?_⟩
     (exfalso;omega)
    ·refine W.skip (W.seq (W.sreg (WO.fieldL rfl rfl rfl (WO.load rfl rfl (Cell.own Pick.head rfl) rfl ?_))))
     refine' WO.len (n:=_) rfl rfl ?hs rfl ?_
     case hs=>(first | exact hR.sl)
     refine WO.field0 rfl rfl rfl (WO.load rfl rfl (Cell.own Pick.head rfl) rfl ?_)
     refine' WO.len (n:=_) rfl rfl ?hs rfl ?_
     case hs=>(first | exact hP.sl)
     refine WO.p rfl rfl (WO.nil ?_)
     refine W.cond_bl rfl (fun c5=>?_) (fun c5=>?_)
     ·refine W.sreg (WO.p rfl rfl (WO.nil (W.ret ?_)))
      refine fin.ret (Res.one rfl (RV.tmp rfl)) ⟨_,rfl,fun he=>?_⟩
      (exfalso;omega)
     ·refine W.skip (W.seq (W.sreg (WO.p rfl rfl (WO.nil (W.block ?_)))))
      refine W.loop (fun (i:Nat)=>i≤R.length∧∀ r∈R.take i,r.length=A.length)
       (fun (i:Nat)=>[(3,.int .i64 (i:Int)),(1,.pointer (some ⟨b1,0,none⟩))])
       (fun (i:Nat)=>[pt b1 (.cells #[vp,va,o] 25 (0,0))])
       (fun (i:Nat)=>R.length-i) 0
       (by exact ⟨by omega,by simp⟩) ⟨rfl,rfl,trivial⟩ (by repeat (first | exact Sub.nil | refine Sub.cons (by repeat exact .head) ?_)) ?_
      rintro i ⟨hi0,hl0⟩
      refine W.seq (W.sreg (WO.p rfl rfl (WO.fieldL rfl rfl rfl (WO.load rfl rfl (Cell.own Pick.head rfl) rfl ?_))))
      refine' WO.len (n:=_) rfl rfl ?hs rfl ?_
      case hs=>(first | exact hR.sl)
      refine WO.p rfl rfl (WO.nil ?_)
      refine W.cond_bl rfl (fun c6=>?_) (fun c6=>?_)
      ·refine W.skip (W.seq (W.block (W.seq ?_)))
       have hq0:=hrl i (by omega)
       refine W.drawD 9 [.r 0 [],.b 1 [],.r 2 [],.r 3 [],.b 4 [],.r 5 [],.r 6 [],.b 7 [],.r 8 []] [] (A0:=[]) (Sub.refl _) (by kernel_rfl) ?_ ?_
       ·repeat constructor
       refine DT.r rfl rfl rfl (WO.fieldL rfl rfl rfl (WO.nil ⟨rfl,rfl⟩)) (DT.b rfl rfl rfl (WO.load rfl rfl (Cell.own Pick.head rfl) rfl (WO.nil ⟨rfl,rfl⟩)) (DT.r rfl rfl rfl (WO.p rfl rfl (WO.nil ⟨rfl,rfl⟩)) ?_))
       refine' DT.r rfl rfl rfl ?hq ?_
       case hq =>
        refine' WO.indexAddr (n:=_) (i:=_) rfl rfl rfl ?hs ?h1 rfl ?_
        case hs=>(first | exact hR.sl)
        case h1=>(omega)
        exact WO.nil ⟨rfl,rfl⟩
       refine' DT.b rfl rfl rfl ?hq ?_
       case hq =>
        refine' WO.load (v:=_) rfl rfl ?hc rfl ?_
        case hc=>(first | first | (refine hR.cellV ?_;omega) | (refine (hR.row i ?_).cell0 (i:=k) ?_ (0,0) ?_ <;> first | rfl | omega) | (refine (hR.row i ?_).cell0 (i:=((k:Int)-1).toNat) ?_ (0,0) ?_ <;> first | rfl | omega) | (refine (hR.row i ?_).cellAt (i:=k) (j:=1) ?_ (0,0) ?_ <;> first | rfl | omega) | (refine (hR.row i ?_).cellAt (i:=((k:Int)-1).toNat) (j:=1) ?_ (0,0) ?_ <;> first | rfl | omega))
        exact WO.nil ⟨rfl,rfl⟩
       refine' DT.r rfl rfl rfl ?hq ?_
       case hq =>
        refine' WO.len (n:=_) rfl rfl ?hs rfl ?_
        case hs=>(first | (refine (hR.row i ?_).sl;omega))
        exact WO.nil ⟨rfl,rfl⟩
       refine DT.r rfl rfl rfl (WO.fieldL rfl rfl rfl (WO.nil ⟨rfl,rfl⟩)) (DT.b rfl rfl rfl (WO.load rfl rfl (Cell.own Pick.head rfl) rfl (WO.nil ⟨rfl,rfl⟩)) ?_)
       refine' DT.r rfl rfl rfl ?hq ?_
       case hq =>
        refine' WO.len (n:=_) rfl rfl ?hs rfl ?_
        case hs=>(first | exact hA.sl)
        exact WO.nil ⟨rfl,rfl⟩
       refine DT.nil [_] rfl (WO.p rfl rfl (WO.nil ?_))
       refine W.cond_bl rfl (fun c7=>?_) (fun c7=>?_)
       ·refine W.sreg (WO.p rfl rfl (WO.nil (W.ret ?_)))
        refine fin.ret (Res.one rfl (RV.tmp rfl)) ⟨_,rfl,fun he=>?_⟩
        (exfalso;omega)
       ·refine W.skip (W.region (WO.p rfl rfl (WO.ar rfl rfl rfl (by unfold in64;omega) rfl (WO.p rfl rfl (WO.nil ?_)))))
        refine' ⟨i+1,?hp,?hmu,⟨rfl,rfl,trivial⟩,?hS⟩
        case hS=>repeat (first | exact Sub.nil | refine Sub.cons (by repeat exact .head) ?_)
        case hp=>exact ⟨by omega,all_succ (by omega) [] hl0 (by omega)⟩
        case hmu=>omega
      ·refine W.exit (blk_same (W.seq ?_))
       obtain rfl:R.length=i:=by omega
       rw [List.take_length] at hl0
       refine W.sreg (WO.field0 rfl rfl rfl (WO.load rfl rfl (Cell.own Pick.head rfl) rfl (WO.callR rfl Tryz.call79 (fun L w hi=>ref_rising w vp P (hP.later hi)) rfl (WO.p rfl rfl (WO.p rfl rfl ?_)))))
       refine WO.guard_nbl rfl rfl (fun c8=>?_) (fun c8=>?_)
       ·refine WO.no rfl rfl (WO.no rfl rfl (WO.no rfl rfl (WO.no rfl rfl (WO.p rfl rfl (WO.nil (W.cond_t rfl (W.sreg (WO.p rfl rfl (WO.nil (W.ret ?_))))))))))
        refine fin.ret (Res.one rfl (RV.tmp rfl)) ⟨_,rfl,fun he=>?_⟩
        (exfalso;omega)
       ·refine WO.go' rfl (WO.fieldL rfl rfl rfl (WO.go' rfl (WO.load rfl rfl (Cell.own Pick.head rfl) rfl (WO.go' rfl (WO.callR rfl Tryz.call79 (fun L w hi=>ref_rising w va A (hA.later hi)) rfl (WO.pg rfl rfl rfl (WO.p rfl rfl (WO.nil ?_))))))))
        refine W.cond_nbl rfl (fun c9=>?_) (fun c9=>?_)
        ·refine W.sreg (WO.p rfl rfl (WO.nil (W.ret ?_)))
         refine fin.ret (Res.one rfl (RV.tmp rfl)) ⟨_,rfl,fun he=>?_⟩
         (exfalso;omega)
        ·refine W.skip (W.seq (W.sreg (WO.p rfl rfl (WO.nil (W.block ?_)))))
         refine W.loop (fun (i:Nat)=>i≤R.length∧∀ r∈R.take i,∀ x∈r,rgX x)
          (fun (i:Nat)=>[(4,.int .i64 (i:Int)),(1,.pointer (some ⟨b1,0,none⟩))])
          (fun (i:Nat)=>[pt b1 (.cells #[vp,va,o] 25 (0,0))])
          (fun (i:Nat)=>R.length-i) 0
          (by exact ⟨by omega,by simp⟩) ⟨rfl,rfl,trivial⟩ (by repeat (first | exact Sub.nil | refine Sub.cons (by repeat exact .head) ?_)) ?_
         rintro i ⟨hi1,hg0⟩
         refine W.seq (W.sreg (WO.p rfl rfl (WO.fieldL rfl rfl rfl (WO.load rfl rfl (Cell.own Pick.head rfl) rfl ?_))))
         refine' WO.len (n:=_) rfl rfl ?hs rfl ?_
         case hs=>(first | exact hR.sl)
         refine WO.p rfl rfl (WO.nil ?_)
         refine W.cond_bl rfl (fun c10=>?_) (fun c10=>?_)
         ·refine W.skip (W.seq (W.block (W.sreg (WO.p rfl rfl (WO.nil (W.block ?_))))))
          refine W.loop (fun (k:Nat)=>k≤(R.getD i []).length∧∀ x∈(R.getD i []).take k,rgX x)
           (fun (k:Nat)=>[(5,.int .i64 (k:Int)),(4,.int .i64 (i:Int)),(1,.pointer (some ⟨b1,0,none⟩))])
           (fun (k:Nat)=>[pt b1 (.cells #[vp,va,o] 25 (0,0))])
           (fun (k:Nat)=>(R.getD i []).length-k) 0
           (by exact ⟨by omega,by simp⟩) ⟨rfl,rfl,rfl,trivial⟩ (by repeat (first | exact Sub.nil | refine Sub.cons (by repeat exact .head) ?_)) ?_
          rintro k ⟨hk0,hk1⟩
          refine W.seq ?_
          have hq0:=hrl i (by omega)
          refine W.sreg (WO.p rfl rfl (WO.fieldL rfl rfl rfl (WO.load rfl rfl (Cell.own Pick.head rfl) rfl (WO.p rfl rfl ?_))))
          refine' WO.indexAddr (n:=_) (i:=_) rfl rfl rfl ?hs ?h1 rfl ?_
          case hs=>(first | exact hR.sl)
          case h1=>(omega)
          refine' WO.load (v:=_) rfl rfl ?hc rfl ?_
          case hc=>(first | first | (refine hR.cellV ?_;omega) | (refine (hR.row i ?_).cell0 (i:=k) ?_ (0,0) ?_ <;> first | rfl | omega) | (refine (hR.row i ?_).cell0 (i:=((k:Int)-1).toNat) ?_ (0,0) ?_ <;> first | rfl | omega) | (refine (hR.row i ?_).cellAt (i:=k) (j:=1) ?_ (0,0) ?_ <;> first | rfl | omega) | (refine (hR.row i ?_).cellAt (i:=((k:Int)-1).toNat) (j:=1) ?_ (0,0) ?_ <;> first | rfl | omega))
          refine' WO.len (n:=_) rfl rfl ?hs rfl ?_
          case hs=>(first | (refine (hR.row i ?_).sl;omega))
          refine WO.p rfl rfl (WO.nil ?_)
          refine W.cond_bl rfl (fun c11=>?_) (fun c11=>?_)
          ·refine W.skip (W.seq (W.block (W.sreg (WO.fieldL rfl rfl rfl (WO.load rfl rfl (Cell.own Pick.head rfl) rfl (WO.p rfl rfl ?_))))))
           refine' WO.indexAddr (n:=_) (i:=_) rfl rfl rfl ?hs ?h1 rfl ?_
           case hs=>(first | exact hR.sl)
           case h1=>(omega)
           refine' WO.load (v:=_) rfl rfl ?hc rfl ?_
           case hc=>(first | first | (refine hR.cellV ?_;omega) | (refine (hR.row i ?_).cell0 (i:=k) ?_ (0,0) ?_ <;> first | rfl | omega) | (refine (hR.row i ?_).cell0 (i:=((k:Int)-1).toNat) ?_ (0,0) ?_ <;> first | rfl | omega) | (refine (hR.row i ?_).cellAt (i:=k) (j:=1) ?_ (0,0) ?_ <;> first | rfl | omega) | (refine (hR.row i ?_).cellAt (i:=((k:Int)-1).toNat) (j:=1) ?_ (0,0) ?_ <;> first | rfl | omega))
           refine WO.p rfl rfl ?_
           refine' WO.indexAddr (n:=_) (i:=_) rfl rfl rfl ?hs ?h1 rfl ?_
           case hs=>(first | (refine (hR.row i ?_).sl;omega))
           case h1=>(omega)
           refine' WO.loadA (vs:=_) rfl rfl ?hc ?hl rfl ?_
           case hc=>((refine (hR.row i ?_).cells ?_ (0,0) <;> omega))
           case hl=>rfl
           refine WO.alloc rfl rfl rfl (fun b2 hb2=>(WO.storeA rfl rfl rfl rfl Pick.head rfl rfl (WO.nil (W.sreg (WO.field0 rfl rfl rfl (WO.load rfl rfl (Cell.own Pick.head rfl) rfl (WO.p rfl rfl (WO.p rfl rfl ?_))))))))
           refine WO.guard_bl rfl rfl (fun c12=>?_) (fun c12=>?_)
           ·refine WO.no rfl rfl (WO.no rfl rfl (WO.no rfl rfl (WO.no rfl rfl (WO.no rfl rfl (WO.p rfl rfl (WO.p rfl rfl (WO.no rfl rfl (WO.no rfl rfl (WO.no rfl rfl (WO.p rfl rfl (WO.nil (W.cond_t rfl (W.sreg (WO.p rfl rfl (WO.nil (W.ret ?_))))))))))))))))
            refine fin.ret (Res.one rfl (RV.tmp rfl)) ⟨_,rfl,fun he=>?_⟩
            (exfalso;omega)
           ·refine WO.go' rfl (WO.field0 rfl rfl rfl (WO.go' rfl (WO.load rfl rfl (Cell.own Pick.head rfl) rfl (WO.go' rfl (WO.fieldL rfl rfl rfl (WO.go' rfl (WO.load rfl rfl (Cell.own Pick.head rfl) rfl (WO.pg rfl rfl rfl (WO.p rfl rfl (WO.p rfl rfl ?_))))))))))
            refine WO.guard_bl rfl rfl (fun c13=>?_) (fun c13=>?_)
            ·refine WO.no rfl rfl (WO.no rfl rfl (WO.no rfl rfl (WO.p rfl rfl (WO.nil (W.cond_t rfl (W.sreg (WO.p rfl rfl (WO.nil (W.ret ?_)))))))))
             refine fin.ret (Res.one rfl (RV.tmp rfl)) ⟨_,rfl,fun he=>?_⟩
             (exfalso;omega)
            ·refine WO.go' rfl (WO.fieldL rfl rfl rfl (WO.go' rfl (WO.load rfl rfl (Cell.own Pick.head rfl) rfl (WO.pg rfl rfl rfl (WO.p rfl rfl (WO.nil ?_))))))
             refine W.cond_bl rfl (fun c14=>?_) (fun c14=>?_)
             ·refine W.sreg (WO.p rfl rfl (WO.nil (W.ret ?_)))
              refine fin.ret (Res.one rfl (RV.tmp rfl)) ⟨_,rfl,fun he=>?_⟩
              (exfalso;omega)
             ·refine W.skip (W.region (WO.p rfl rfl (WO.ar rfl rfl rfl (by unfold in64;omega) rfl (WO.p rfl rfl (WO.nil ?_)))))
              refine' ⟨k+1,?hp,?hmu,⟨rfl,rfl,rfl,trivial⟩,?hS⟩
              case hS=>repeat (first | exact Sub.nil | refine Sub.cons (by repeat first | exact .head | apply Pick.tail) ?_)
              case hp=>exact ⟨by omega,all_succ (by omega) (0,0) hk1 (by unfold rgX;omega)⟩
              case hmu=>omega
          ·refine W.exit (blk_same (W.region (WO.p rfl rfl (WO.ar rfl rfl rfl (by unfold in64;omega) rfl (WO.p rfl rfl (WO.nil ?_))))))
           refine' ⟨i+1,?hp,?hmu,⟨rfl,rfl,trivial⟩,?hS⟩
           case hS=>repeat (first | exact Sub.nil | refine Sub.cons (by repeat exact .head) ?_)
           case hp=>exact ⟨by omega,all_succ (by omega) [] hg0 (all_len (by omega) hk1)⟩
           case hmu=>omega
         ·refine W.exit (blk_same (W.seq ?_))
          obtain rfl:R.length=i:=by omega
          rw [List.take_length] at hg0
          refine W.sreg (WO.p rfl rfl (WO.nil (W.block ?_)))
          refine W.loop (fun (i:Nat)=>i≤R.length∧∀ r∈R.take i,flR r r.length)
           (fun (i:Nat)=>[(7,.int .i64 (i:Int)),(1,.pointer (some ⟨b1,0,none⟩))])
           (fun (i:Nat)=>[pt b1 (.cells #[vp,va,o] 25 (0,0))])
           (fun (i:Nat)=>R.length-i) 0
           (by exact ⟨by omega,by simp⟩) ⟨rfl,rfl,trivial⟩ (by repeat (first | exact Sub.nil | refine Sub.cons (by repeat exact .head) ?_)) ?_
          rintro i ⟨hi2,hf0⟩
          refine W.seq (W.sreg (WO.p rfl rfl (WO.fieldL rfl rfl rfl (WO.load rfl rfl (Cell.own Pick.head rfl) rfl ?_))))
          refine' WO.len (n:=_) rfl rfl ?hs rfl ?_
          case hs=>(first | exact hR.sl)
          refine WO.p rfl rfl (WO.nil ?_)
          refine W.cond_bl rfl (fun c15=>?_) (fun c15=>?_)
          ·refine W.skip (W.seq (W.block (W.sreg (WO.p rfl rfl (WO.nil (W.block ?_))))))
           refine W.loop (fun (k:Nat)=>(1≤k∧k≤(R.getD i []).length+1)∧flR (R.getD i []) k)
            (fun (k:Nat)=>[(8,.int .i64 (k:Int)),(7,.int .i64 (i:Int)),(1,.pointer (some ⟨b1,0,none⟩))])
            (fun (k:Nat)=>[pt b1 (.cells #[vp,va,o] 25 (0,0))])
            (fun (k:Nat)=>(R.getD i []).length+1-k) 1
            (by exact ⟨by omega,fun m h1 h2=>by omega⟩) ⟨rfl,rfl,rfl,trivial⟩ (by repeat (first | exact Sub.nil | refine Sub.cons (by repeat exact .head) ?_)) ?_
           rintro k ⟨hk2,hk3⟩
           refine W.seq ?_
           have hq0:=hrl i (by omega)
           refine W.sreg (WO.p rfl rfl (WO.fieldL rfl rfl rfl (WO.load rfl rfl (Cell.own Pick.head rfl) rfl (WO.p rfl rfl ?_))))
           refine' WO.indexAddr (n:=_) (i:=_) rfl rfl rfl ?hs ?h1 rfl ?_
           case hs=>(first | exact hR.sl)
           case h1=>(omega)
           refine' WO.load (v:=_) rfl rfl ?hc rfl ?_
           case hc=>(first | first | (refine hR.cellV ?_;omega) | (refine (hR.row i ?_).cell0 (i:=k) ?_ (0,0) ?_ <;> first | rfl | omega) | (refine (hR.row i ?_).cell0 (i:=((k:Int)-1).toNat) ?_ (0,0) ?_ <;> first | rfl | omega) | (refine (hR.row i ?_).cellAt (i:=k) (j:=1) ?_ (0,0) ?_ <;> first | rfl | omega) | (refine (hR.row i ?_).cellAt (i:=((k:Int)-1).toNat) (j:=1) ?_ (0,0) ?_ <;> first | rfl | omega))
           refine' WO.len (n:=_) rfl rfl ?hs rfl ?_
           case hs=>(first | (refine (hR.row i ?_).sl;omega))
           refine WO.p rfl rfl (WO.nil ?_)
           refine W.cond_bl rfl (fun c16=>?_) (fun c16=>?_)
           ·refine W.skip (W.seq (W.block (W.seq ?_)))
            refine W.drawD 40 [.r 0 [],.b 1 [],.r 2 [],.r 3 [],.b 4 [],.r 5 [],.r 6 [],.r 7 [],.b 8 [],.r 9 [],.b 10 [],.r 11 [],.r 12 [],.b 13 [],.r 14 [],.r 15 [],.r 16 [],.r 17 [],.b 18 [],.r 19 [],.r 20 [],.r 21 [],.b 22 [],.r 23 [],.r 24 [],.b 25 [],.r 26 [],.r 27 [],.r 28 [],.b 29 [],.r 30 [],.b 31 [],.r 32 [],.r 33 [],.b 34 [],.r 35 [],.r 36 [],.r 37 [],.r 38 [],.b 39 []] [] (A0:=[]) (Sub.refl _) (by kernel_rfl) ?_ ?_
            ·repeat constructor
            refine DT.r rfl rfl rfl (WO.fieldL rfl rfl rfl (WO.nil ⟨rfl,rfl⟩)) (DT.b rfl rfl rfl (WO.load rfl rfl (Cell.own Pick.head rfl) rfl (WO.nil ⟨rfl,rfl⟩)) (DT.r rfl rfl rfl (WO.p rfl rfl (WO.nil ⟨rfl,rfl⟩)) ?_))
            refine' DT.r rfl rfl rfl ?hq ?_
            case hq =>
             refine' WO.indexAddr (n:=_) (i:=_) rfl rfl rfl ?hs ?h1 rfl ?_
             case hs=>(first | exact hR.sl)
             case h1=>(omega)
             exact WO.nil ⟨rfl,rfl⟩
            refine' DT.b rfl rfl rfl ?hq ?_
            case hq =>
             refine' WO.load (v:=_) rfl rfl ?hc rfl ?_
             case hc=>(first | first | (refine hR.cellV ?_;omega) | (refine (hR.row i ?_).cell0 (i:=k) ?_ (0,0) ?_ <;> first | rfl | omega) | (refine (hR.row i ?_).cell0 (i:=((k:Int)-1).toNat) ?_ (0,0) ?_ <;> first | rfl | omega) | (refine (hR.row i ?_).cellAt (i:=k) (j:=1) ?_ (0,0) ?_ <;> first | rfl | omega) | (refine (hR.row i ?_).cellAt (i:=((k:Int)-1).toNat) (j:=1) ?_ (0,0) ?_ <;> first | rfl | omega))
             exact WO.nil ⟨rfl,rfl⟩
            refine DT.r rfl rfl rfl (WO.p rfl rfl (WO.nil ⟨rfl,rfl⟩)) ?_
            refine' DT.r rfl rfl rfl ?hq ?_
            case hq =>
             refine' WO.indexAddr (n:=_) (i:=_) rfl rfl rfl ?hs ?h1 rfl ?_
             case hs=>(first | (refine (hR.row i ?_).sl;omega))
             case h1=>(omega)
             exact WO.nil ⟨rfl,rfl⟩
            refine DT.r rfl rfl rfl (WO.field0 rfl rfl rfl (WO.nil ⟨rfl,rfl⟩)) ?_
            refine' DT.b rfl rfl rfl ?hq ?_
            case hq =>
             refine' WO.load (v:=_) rfl rfl ?hc rfl ?_
             case hc=>(first | first | (refine hR.cellV ?_;omega) | (refine (hR.row i ?_).cell0 (i:=k) ?_ (0,0) ?_ <;> first | rfl | omega) | (refine (hR.row i ?_).cell0 (i:=((k:Int)-1).toNat) ?_ (0,0) ?_ <;> first | rfl | omega) | (refine (hR.row i ?_).cellAt (i:=k) (j:=1) ?_ (0,0) ?_ <;> first | rfl | omega) | (refine (hR.row i ?_).cellAt (i:=((k:Int)-1).toNat) (j:=1) ?_ (0,0) ?_ <;> first | rfl | omega))
             exact WO.nil ⟨rfl,rfl⟩
            refine DT.r rfl rfl rfl (WO.fieldL rfl rfl rfl (WO.nil ⟨rfl,rfl⟩)) (DT.b rfl rfl rfl (WO.load rfl rfl (Cell.own Pick.head rfl) rfl (WO.nil ⟨rfl,rfl⟩)) (DT.r rfl rfl rfl (WO.p rfl rfl (WO.nil ⟨rfl,rfl⟩)) ?_))
            refine' DT.r rfl rfl rfl ?hq ?_
            case hq =>
             refine' WO.indexAddr (n:=_) (i:=_) rfl rfl rfl ?hs ?h1 rfl ?_
             case hs=>(first | exact hR.sl)
             case h1=>(omega)
             exact WO.nil ⟨rfl,rfl⟩
            refine' DT.b rfl rfl rfl ?hq ?_
            case hq =>
             refine' WO.load (v:=_) rfl rfl ?hc rfl ?_
             case hc=>(first | first | (refine hR.cellV ?_;omega) | (refine (hR.row i ?_).cell0 (i:=k) ?_ (0,0) ?_ <;> first | rfl | omega) | (refine (hR.row i ?_).cell0 (i:=((k:Int)-1).toNat) ?_ (0,0) ?_ <;> first | rfl | omega) | (refine (hR.row i ?_).cellAt (i:=k) (j:=1) ?_ (0,0) ?_ <;> first | rfl | omega) | (refine (hR.row i ?_).cellAt (i:=((k:Int)-1).toNat) (j:=1) ?_ (0,0) ?_ <;> first | rfl | omega))
             exact WO.nil ⟨rfl,rfl⟩
            refine DT.r rfl rfl rfl (WO.p rfl rfl (WO.nil ⟨rfl,rfl⟩)) (DT.r rfl rfl rfl (WO.ar rfl rfl rfl (by unfold in64;omega) rfl (WO.nil ⟨rfl,rfl⟩)) ?_)
            refine' DT.r rfl rfl rfl ?hq ?_
            case hq =>
             refine' WO.indexAddrZ (n:=_) rfl rfl rfl ?hs ?h00 ?h1 rfl ?_
             case hs=>(first | (refine (hR.row i ?_).sl;omega))
             case h00=>omega
             case h1=>(omega)
             exact WO.nil ⟨rfl,rfl⟩
            refine DT.r rfl rfl rfl (WO.field0 rfl rfl rfl (WO.nil ⟨rfl,rfl⟩)) ?_
            refine' DT.b rfl rfl rfl ?hq ?_
            case hq =>
             refine' WO.load (v:=_) rfl rfl ?hc rfl ?_
             case hc=>(first | first | (refine hR.cellV ?_;omega) | (refine (hR.row i ?_).cell0 (i:=k) ?_ (0,0) ?_ <;> first | rfl | omega) | (refine (hR.row i ?_).cell0 (i:=((k:Int)-1).toNat) ?_ (0,0) ?_ <;> first | rfl | omega) | (refine (hR.row i ?_).cellAt (i:=k) (j:=1) ?_ (0,0) ?_ <;> first | rfl | omega) | (refine (hR.row i ?_).cellAt (i:=((k:Int)-1).toNat) (j:=1) ?_ (0,0) ?_ <;> first | rfl | omega))
             exact WO.nil ⟨rfl,rfl⟩
            refine DT.r rfl rfl rfl (WO.p rfl rfl (WO.nil ⟨rfl,rfl⟩)) ?_
            refine DT.rB rfl rfl rfl (WO.p rfl rfl (WO.nil ⟨rfl,rfl⟩)) (fun c17=>?_) (fun c17=>?_)
            ·refine DT.r rfl rfl rfl (WO.no rfl rfl (WO.nil ⟨rfl,rfl⟩)) (DT.b rfl rfl rfl (WO.no rfl rfl (WO.nil ⟨rfl,rfl⟩)) (DT.r rfl rfl rfl (WO.no rfl rfl (WO.nil ⟨rfl,rfl⟩)) (DT.r rfl rfl rfl (WO.no rfl rfl (WO.nil ⟨rfl,rfl⟩)) (DT.b rfl rfl rfl (WO.no rfl rfl (WO.nil ⟨rfl,rfl⟩)) (DT.r rfl rfl rfl (WO.no rfl rfl (WO.nil ⟨rfl,rfl⟩)) (DT.r rfl rfl rfl (WO.no rfl rfl (WO.nil ⟨rfl,rfl⟩)) (DT.r rfl rfl rfl (WO.no rfl rfl (WO.nil ⟨rfl,rfl⟩)) (DT.b rfl rfl rfl (WO.no rfl rfl (WO.nil ⟨rfl,rfl⟩)) (DT.r rfl rfl rfl (WO.no rfl rfl (WO.nil ⟨rfl,rfl⟩)) (DT.b rfl rfl rfl (WO.no rfl rfl (WO.nil ⟨rfl,rfl⟩)) ?_))))))))))
             refine DT.r rfl rfl rfl (WO.no rfl rfl (WO.nil ⟨rfl,rfl⟩)) (DT.r rfl rfl rfl (WO.no rfl rfl (WO.nil ⟨rfl,rfl⟩)) (DT.b rfl rfl rfl (WO.no rfl rfl (WO.nil ⟨rfl,rfl⟩)) (DT.r rfl rfl rfl (WO.no rfl rfl (WO.nil ⟨rfl,rfl⟩)) (DT.r rfl rfl rfl (WO.no rfl rfl (WO.nil ⟨rfl,rfl⟩)) (DT.r rfl rfl rfl (WO.no rfl rfl (WO.nil ⟨rfl,rfl⟩)) (DT.r rfl rfl rfl (WO.no rfl rfl (WO.nil ⟨rfl,rfl⟩)) (DT.b rfl rfl rfl (WO.no rfl rfl (WO.nil ⟨rfl,rfl⟩)) (DT.nil [_] rfl (WO.no rfl rfl (WO.p rfl rfl (WO.nil (W.cond_t rfl (W.sreg (WO.p rfl rfl (WO.nil (W.ret ?_))))))))))))))))
             refine fin.ret (Res.one rfl (RV.tmp rfl)) ⟨_,rfl,fun he=>?_⟩
             (exfalso;omega)
            ·refine DT.r rfl rfl rfl (WO.go' rfl (WO.fieldL rfl rfl rfl (WO.nil ⟨rfl,rfl⟩))) (DT.b rfl rfl rfl (WO.go' rfl (WO.load rfl rfl (Cell.own Pick.head rfl) rfl (WO.nil ⟨rfl,rfl⟩))) (DT.r rfl rfl rfl (WO.pg rfl rfl rfl (WO.nil ⟨rfl,rfl⟩)) ?_))
             refine' DT.r rfl rfl rfl ?hq ?_
             case hq =>
              refine WO.go' rfl ?_
              refine' WO.indexAddr (n:=_) (i:=_) rfl rfl rfl ?hs ?h1 rfl ?_
              case hs=>(first | exact hR.sl)
              case h1=>(omega)
              exact WO.nil ⟨rfl,rfl⟩
             refine' DT.b rfl rfl rfl ?hq ?_
             case hq =>
              refine WO.go' rfl ?_
              refine' WO.load (v:=_) rfl rfl ?hc rfl ?_
              case hc=>(first | first | (refine hR.cellV ?_;omega) | (refine (hR.row i ?_).cell0 (i:=k) ?_ (0,0) ?_ <;> first | rfl | omega) | (refine (hR.row i ?_).cell0 (i:=((k:Int)-1).toNat) ?_ (0,0) ?_ <;> first | rfl | omega) | (refine (hR.row i ?_).cellAt (i:=k) (j:=1) ?_ (0,0) ?_ <;> first | rfl | omega) | (refine (hR.row i ?_).cellAt (i:=((k:Int)-1).toNat) (j:=1) ?_ (0,0) ?_ <;> first | rfl | omega))
              exact WO.nil ⟨rfl,rfl⟩
             refine DT.r rfl rfl rfl (WO.pg rfl rfl rfl (WO.nil ⟨rfl,rfl⟩)) ?_
             refine' DT.r rfl rfl rfl ?hq ?_
             case hq =>
              refine WO.go' rfl ?_
              refine' WO.indexAddr (n:=_) (i:=_) rfl rfl rfl ?hs ?h1 rfl ?_
              case hs=>(first | (refine (hR.row i ?_).sl;omega))
              case h1=>(omega)
              exact WO.nil ⟨rfl,rfl⟩
             refine DT.r rfl rfl rfl (WO.go' rfl (WO.field rfl rfl rfl (WO.nil ⟨rfl,rfl⟩))) ?_
             refine' DT.b rfl rfl rfl ?hq ?_
             case hq =>
              refine WO.go' rfl ?_
              refine' WO.load (v:=_) rfl rfl ?hc rfl ?_
              case hc=>(first | first | (refine hR.cellV ?_;omega) | (refine (hR.row i ?_).cell0 (i:=k) ?_ (0,0) ?_ <;> first | rfl | omega) | (refine (hR.row i ?_).cell0 (i:=((k:Int)-1).toNat) ?_ (0,0) ?_ <;> first | rfl | omega) | (refine (hR.row i ?_).cellAt (i:=k) (j:=1) ?_ (0,0) ?_ <;> first | rfl | omega) | (refine (hR.row i ?_).cellAt (i:=((k:Int)-1).toNat) (j:=1) ?_ (0,0) ?_ <;> first | rfl | omega))
              exact WO.nil ⟨rfl,rfl⟩
             refine DT.r rfl rfl rfl (WO.go' rfl (WO.fieldL rfl rfl rfl (WO.nil ⟨rfl,rfl⟩))) (DT.b rfl rfl rfl (WO.go' rfl (WO.load rfl rfl (Cell.own Pick.head rfl) rfl (WO.nil ⟨rfl,rfl⟩))) (DT.r rfl rfl rfl (WO.pg rfl rfl rfl (WO.nil ⟨rfl,rfl⟩)) ?_))
             refine' DT.r rfl rfl rfl ?hq ?_
             case hq =>
              refine WO.go' rfl ?_
              refine' WO.indexAddr (n:=_) (i:=_) rfl rfl rfl ?hs ?h1 rfl ?_
              case hs=>(first | exact hR.sl)
              case h1=>(omega)
              exact WO.nil ⟨rfl,rfl⟩
             refine' DT.b rfl rfl rfl ?hq ?_
             case hq =>
              refine WO.go' rfl ?_
              refine' WO.load (v:=_) rfl rfl ?hc rfl ?_
              case hc=>(first | first | (refine hR.cellV ?_;omega) | (refine (hR.row i ?_).cell0 (i:=k) ?_ (0,0) ?_ <;> first | rfl | omega) | (refine (hR.row i ?_).cell0 (i:=((k:Int)-1).toNat) ?_ (0,0) ?_ <;> first | rfl | omega) | (refine (hR.row i ?_).cellAt (i:=k) (j:=1) ?_ (0,0) ?_ <;> first | rfl | omega) | (refine (hR.row i ?_).cellAt (i:=((k:Int)-1).toNat) (j:=1) ?_ (0,0) ?_ <;> first | rfl | omega))
              exact WO.nil ⟨rfl,rfl⟩
             refine DT.r rfl rfl rfl (WO.pg rfl rfl rfl (WO.nil ⟨rfl,rfl⟩)) (DT.r rfl rfl rfl (WO.go' rfl (WO.ar rfl rfl rfl (by unfold in64;omega) rfl (WO.nil ⟨rfl,rfl⟩))) ?_)
             refine' DT.r rfl rfl rfl ?hq ?_
             case hq =>
              refine WO.go' rfl ?_
              refine' WO.indexAddrZ (n:=_) rfl rfl rfl ?hs ?h00 ?h1 rfl ?_
              case hs=>(first | (refine (hR.row i ?_).sl;omega))
              case h00=>omega
              case h1=>(omega)
              exact WO.nil ⟨rfl,rfl⟩
             refine DT.r rfl rfl rfl (WO.go' rfl (WO.field rfl rfl rfl (WO.nil ⟨rfl,rfl⟩))) ?_
             refine' DT.b rfl rfl rfl ?hq ?_
             case hq =>
              refine WO.go' rfl ?_
              refine' WO.load (v:=_) rfl rfl ?hc rfl ?_
              case hc=>(first | first | (refine hR.cellV ?_;omega) | (refine (hR.row i ?_).cell0 (i:=k) ?_ (0,0) ?_ <;> first | rfl | omega) | (refine (hR.row i ?_).cell0 (i:=((k:Int)-1).toNat) ?_ (0,0) ?_ <;> first | rfl | omega) | (refine (hR.row i ?_).cellAt (i:=k) (j:=1) ?_ (0,0) ?_ <;> first | rfl | omega) | (refine (hR.row i ?_).cellAt (i:=((k:Int)-1).toNat) (j:=1) ?_ (0,0) ?_ <;> first | rfl | omega))
              exact WO.nil ⟨rfl,rfl⟩
             refine DT.nil [_] rfl (WO.pg rfl rfl rfl (WO.p rfl rfl (WO.nil ?_)))
             refine W.cond_bl rfl (fun c18=>?_) (fun c18=>?_)
             ·refine W.sreg (WO.p rfl rfl (WO.nil (W.ret ?_)))
              refine fin.ret (Res.one rfl (RV.tmp rfl)) ⟨_,rfl,fun he=>?_⟩
              (exfalso;omega)
             ·refine W.skip (W.region (WO.p rfl rfl (WO.ar rfl rfl rfl (by unfold in64;omega) rfl (WO.p rfl rfl (WO.nil ?_)))))
              refine' ⟨k+1,?hp,?hmu,⟨rfl,rfl,rfl,trivial⟩,?hS⟩
              case hS=>repeat (first | exact Sub.nil | refine Sub.cons (by repeat exact .head) ?_)
              case hp=>exact ⟨by omega,hk3.next (by omega)⟩
              case hmu=>omega
           ·refine W.exit (blk_same (W.region (WO.p rfl rfl (WO.ar rfl rfl rfl (by unfold in64;omega) rfl (WO.p rfl rfl (WO.nil ?_))))))
            refine' ⟨i+1,?hp,?hmu,⟨rfl,rfl,trivial⟩,?hS⟩
            case hS=>repeat (first | exact Sub.nil | refine Sub.cons (by repeat exact .head) ?_)
            case hp=>exact ⟨by omega,all_succ (by omega) [] hf0 (fun m hm h0=>hk3 m (by omega) h0)⟩
            case hmu=>omega
          ·refine W.exit (blk_same (W.sreg (WO.p rfl rfl (WO.nil (W.ret ?_)))))
           refine fin.ret (Res.one rfl (RV.tmp rfl)) ⟨_,rfl,fun he=>?_⟩
           (have hl9:R.length=i:=(by omega);subst hl9;rw [List.take_length] at hf0;exact ⟨by omega,by omega,by omega,hl0,by assumption,by assumption,hg0,hf0⟩)
end Go.Proofs.YtfchgmiiicidcaaGreat
namespace Go.Proofs.YtfchgmiiicidcaaGreat
open Go Go.TH
attribute [local irreducible] W WO pt
set_option maxRecDepth 10000
set_option maxHeartbeats 4000000
theorem c_chart08 (w:World) (vp va o:Value) (rv:List Value) (P A:List Int) (R:Ch.Rws) (hP:RdF encI 1 w.heap.size w vp P) (hA:RdF encI 1 w.heap.size w va A) (hR:RdR encP 2 w.heap.size w o rv R):RetE Tryz.prog 7 [.agg #[vp,va,o]].toArray w (fun r=>∃ b:Bool,r=.bool b∧(b=true→Ch.OkC P A R)):=by
 refine RetE.of mixed tyTab Tryz.func7 rfl rfl ?_
 replace hR:RdR encP 2 (fnCx mixed tyTab Tryz.f7.ntmps w).B (fnCx mixed tyTab Tryz.f7.ntmps w).w0 o rv R:=hR
 replace hP:RdF encI 1 (fnCx mixed tyTab Tryz.f7.ntmps w).B (fnCx mixed tyTab Tryz.f7.ntmps w).w0 vp P:=hP
 replace hA:RdF encI 1 (fnCx mixed tyTab Tryz.f7.ntmps w).B (fnCx mixed tyTab Tryz.f7.ntmps w).w0 va A:=hA
 have hle:=hR.sl.le
 refine W.sreg (WO.boxA rfl rfl (fun b1 hb1=>(WO.p rfl rfl (WO.nil (W.seq (W.sreg (WO.fieldL rfl rfl rfl (WO.load rfl rfl (Cell.own Pick.head rfl) rfl ?_))))))))
 refine' WO.len (n:=_) rfl rfl ?hs rfl ?_
 case hs=>(first | exact hR.sl)
 refine WO.p rfl rfl (WO.nil ?_)
 refine W.cond_bl rfl (fun c1=>?_) (fun c1=>?_)
 ·refine W.sreg (WO.p rfl rfl (WO.nil (W.ret ?_)))
  refine fin.ret (Res.one rfl (RV.tmp rfl)) ⟨_,rfl,fun h9=>?_⟩
  (exfalso;cases h9)
 ·refine W.skip (W.seq (W.sreg (WO.p rfl rfl (WO.nil (W.block ?_)))))
  refine W.loop (fun (i:Nat)=>i≤R.length)
   (fun (i:Nat)=>[(3,.int .i64 (i:Int)),(1,.pointer (some ⟨b1,0,none⟩))])
   (fun (i:Nat)=>[pt b1 (.cells #[vp,va,o] 25 (0,0))])
   (fun (i:Nat)=>R.length-i) 0
   (by omega) ⟨rfl,rfl,trivial⟩ (by repeat (first | exact Sub.nil | refine Sub.cons (by repeat exact .head) ?_)) ?_
  rintro i hi0
  refine W.seq (W.sreg (WO.p rfl rfl (WO.fieldL rfl rfl rfl (WO.load rfl rfl (Cell.own Pick.head rfl) rfl ?_))))
  refine' WO.len (n:=_) rfl rfl ?hs rfl ?_
  case hs=>(first | exact hR.sl)
  refine WO.p rfl rfl (WO.nil ?_)
  refine W.cond_bl rfl (fun c2=>?_) (fun c2=>?_)
  ·refine W.skip (W.seq (W.block (W.sreg (WO.fieldL rfl rfl rfl (WO.load rfl rfl (Cell.own Pick.head rfl) rfl (WO.p rfl rfl ?_))))))
   refine' WO.indexAddr (n:=_) (i:=_) rfl rfl rfl ?hs ?h1 rfl ?_
   case hs=>(first | exact hR.sl)
   case h1=>(omega)
   refine' WO.load (v:=_) rfl rfl ?hc rfl ?_
   case hc=>((refine hR.cellV ?_;omega))
   refine' WO.len (n:=_) rfl rfl ?hs rfl ?_
   case hs=>(first | (refine (hR.row i ?_).sl;omega))
   refine WO.p rfl rfl (WO.nil ?_)
   refine W.cond_bl rfl (fun c3=>?_) (fun c3=>?_)
   ·refine W.sreg (WO.p rfl rfl (WO.nil (W.ret ?_)))
    refine fin.ret (Res.one rfl (RV.tmp rfl)) ⟨_,rfl,fun h9=>?_⟩
    (exfalso;cases h9)
   ·refine W.skip (W.region (WO.p rfl rfl (WO.ar rfl rfl rfl (by unfold in64;omega) rfl (WO.p rfl rfl (WO.nil ?_)))))
    refine' ⟨i+1,?hp,?hmu,⟨rfl,rfl,trivial⟩,?hS⟩
    case hS=>repeat (first | exact Sub.nil | refine Sub.cons (by repeat exact .head) ?_)
    case hp=>omega
    case hmu=>omega
  ·refine W.exit (blk_same (W.sreg (WO.loadA rfl rfl (Cells.own Pick.head) rfl rfl (WO.callE rfl Tryz.call31 (fun L w hi=>ref_CheckChart w vp va o rv P A R (hP.later hi) (hA.later hi) (hR.later hi)) rfl ?_))))
   rintro _ ⟨e,rfl,he⟩
   refine WO.p rfl rfl (WO.p rfl rfl (WO.nil (W.ret ?_)))
   refine fin.ret (Res.one rfl (RV.tmp rfl)) ⟨_,rfl,fun h9=>?_⟩
   exact he (bl_t.1 h9)
end Go.Proofs.YtfchgmiiicidcaaGreat
