/-
  What is proved here: the weights of runs by each manner, not yet in least terms. Conditions: none; each contract states its own.
-/
import Derived.Test.YthoeeeehfkenkaaGreatM2
set_option linter.unusedVariables false
set_option linter.unusedSimpArgs false
namespace Go.Proofs.YthoeeeehfkenkaaGreat.Tr
open Go Go.TH
attribute [local irreducible] W WO pt
set_option maxRecDepth 10000
set_option maxHeartbeats 1000000
def a5 (f:Nat→Int):List Value:=[.int .i64 (f 0),.int .i64 (f 1),.int .i64 (f 2),.int .i64 (f 3),.int .i64 (f 4)]
def up (f:Nat→Int) (i:Nat) (x:Int):Nat→Int:=fun j=>if j=i then x else f j
def wTo (g:Nat→Int) (i:Nat):Nat→Int:=fun j=>if j<i then g j else 0
theorem up_wTo (g:Nat→Int) (i:Nat):up (wTo g i) i (g i)=wTo g (i+1):=by
 funext j
 show (if j=i then g i else if j<i then g j else 0)=if j<i+1 then g j else 0
 by_cases e:j=i
 ·rw [if_pos e,if_pos (by omega),e]
 ·rw [if_neg e]
  by_cases h:j<i
  ·rw [if_pos h,if_pos (by omega)]
  ·rw [if_neg h,if_neg (by omega)]
theorem a5_set {f:Nat→Int} {i:Nat} {x:Int} (h:i<5):(a5 f).set (0+i) (.int .i64 x)=a5 (up f i x):=by
 match i,h with
 | 0,_=>rfl
 | 1,_=>rfl
 | 2,_=>rfl
 | 3,_=>rfl
 | 4,_=>rfl
theorem a5_congr {f g:Nat→Int} (h:∀ j,j<5→f j=g j):a5 f=a5 g:=by
 unfold a5
 rw [h 0 (by omega),h 1 (by omega),h 2 (by omega),h 3 (by omega),h 4 (by omega)]
theorem a5_get {f:Nat→Int} {i:Nat} (h:i<5):lget (a5 f) (0+i)=some (.int .i64 (f i)):=by
 match i,h with
 | 0,_=>rfl
 | 1,_=>rfl
 | 2,_=>rfl
 | 3,_=>rfl
 | 4,_=>rfl
theorem a5_cell {P:Program} {C:Cx P} {H H':List HP} {b i:Nat} {t:TypeId} {fr:Nat × Nat} {f:Nat→Int} (p:Pick (pt b (.cells (a5 f).toArray t fr)) H H') (h:i<5):Cell C H ⟨b,0+i,none⟩ (.int .i64 (f i)):=Cell.own p (a5_get h)
theorem a5_cellE {P:Program} {C:Cx P} {H H':List HP} {b i:Nat} {t:TypeId} {fr:Nat × Nat} {f:Nat→Int} {x:Int} (p:Pick (pt b (.cells (a5 f).toArray t fr)) H H') (h:i<5) (e:f i=x):Cell C H ⟨b,0+i,none⟩ (.int .i64 x):=e▸a5_cell p h
theorem a5_cellS {P:Program} {C:Cx P} {H:List HP} {b i:Nat} {t:TypeId} {fr:Nat × Nat} {f:Nat→Int} {x:Int} (s:Sub H [pt b (.cells (a5 f).toArray t fr)]) (h:i<5) (e:f i=x):Cell C H ⟨b,0+i,none⟩ (.int .i64 x):=by
 cases s with
 | cons p _=>exact a5_cellE p h e
theorem a5_blt {f:Nat→Int} {i:Nat} (h:i<5):Nat.blt (0+i) (a5 f).length=true:=by rw [Nat.blt_eq,Nat.zero_add];exact h
def exF (rs:List (Int × Int × Int)) (i:Nat) (w:Int) (q:Nat × Nat):Int:=if i≠q.1∧i≠q.2 then w*(tm rs q.2-tm rs q.1) else w
def exW (rs:List (Int × Int × Int)) (i:Nat):Int:=(pairsTo rs.length).foldl (exF rs i) 1
theorem foldl_take_some {α β:Type} (f:β→α→β) {l:List α} {i:Nat} {x:α} (h:l[i]?=some x) (b:β):(l.take (i+1)).foldl f b=f ((l.take i).foldl f b) x:=by
 rw [List.take_add_one,h,List.foldl_append];rfl
theorem exF_in {m:Int} {rs:List (Int × Int × Int)} (hv:VT m rs) {i:Nat} {w:Int} {q:Nat × Nat} (hq:q.1<q.2∧q.2<rs.length) {B:Int} (h:1≤w∧w≤B):1≤exF rs i w q∧exF rs i w q≤B*60:=by
 have h1:=hv.lt hq.1 hq.2
 unfold exF
 split
 ·constructor
  ·have:=Int.mul_le_mul h.1 h1.1 (by omega) (by omega);omega
  ·exact Int.mul_le_mul h.2 h1.2 (by omega) (by omega)
 ·omega
theorem exW_in {m:Int} {rs:List (Int × Int × Int)} (hv:VT m rs) (i:Nat):∀ q,q≤(pairsTo rs.length).length→1≤((pairsTo rs.length).take q).foldl (exF rs i) 1∧((pairsTo rs.length).take q).foldl (exF rs i) 1≤60 ^ q
 | 0,_=>by simp
 | q+1,h=>by
  have ih:=exW_in hv i q (by omega)
  obtain ⟨x,hx⟩:∃ x,(pairsTo rs.length)[q]?=some x:=⟨(pairsTo rs.length)[q],by simp [h]⟩
  rw [foldl_take_some _ hx,Int.pow_succ]
  exact exF_in hv (pairsTo_mem (List.mem_of_getElem? hx)) ih
theorem pairs_ten {n:Nat} (h:n≤5):(pairsTo n).length≤10:=by
 match n,h with
 | 0,_=>decide
 | 1,_=>decide
 | 2,_=>decide
 | 3,_=>decide
 | 4,_=>decide
 | 5,_=>decide
theorem exW_B {m:Int} {rs:List (Int × Int × Int)} (hv:VT m rs) (i:Nat) {q:Nat} (hq:q≤(pairsTo rs.length).length):1≤((pairsTo rs.length).take q).foldl (exF rs i) 1∧((pairsTo rs.length).take q).foldl (exF rs i) 1≤604661760000000000:=by
 have h1:=exW_in hv i q hq
 have h2:q≤10:=Nat.le_trans hq (pairs_ten hv.n.2)
 have h3:=(by decide:∀ q:Nat,q≤10→(60:Int) ^ q≤604661760000000000) q h2
 omega
theorem c_plain (w:World) (p:Addr) (m:Int) (o:Value) (rest:List Value) (rs:List (Int × Int × Int)) (hP:RdC w.heap.size w p (.int .i64 m::o::rest)) (hR:RdF encR 3 w.heap.size w o rs) (hn:rs.length≤5) :
 Ret Tryz.prog 62 [.pointer (some p)].toArray w (.agg (a5 (wTo (fun _=>1) rs.length)).toArray):=by
 refine Ret.of mixed tyTab Tryz.func62 rfl rfl ?_
 replace hR:RdF encR 3 (fnCx mixed tyTab Tryz.f62.ntmps w).B (fnCx mixed tyTab Tryz.f62.ntmps w).w0 o rs:=hR
 replace hP:RdC (fnCx mixed tyTab Tryz.f62.ntmps w).B (fnCx mixed tyTab Tryz.f62.ntmps w).w0 p (.int .i64 m::o::rest):=hP
 refine W.sreg (WO.alloc rfl rfl rfl (fun b1 hb1=>(WO.nil (W.sreg (WO.alloc rfl rfl rfl (fun b2 hb2=>(WO.nil (W.seq (W.sreg (WO.p rfl rfl (WO.p rfl rfl (WO.field0 rfl rfl rfl (WO.field rfl rfl rfl ?_)))))))))))))
 refine' WO.load (v:=_) rfl rfl ?hc rfl ?_
 case hc=>((refine hP.cellAt ?_;rfl))
 refine WO.len rfl rfl hR.sl rfl (WO.p rfl rfl (WO.nil (W.block ?_)))
 refine W.loop (fun (i:Nat)=>i≤rs.length)
  (fun (i:Nat)=>[(11,.int .i64 (i:Int)),(10,.int .i64 (rs.length:Int)),(3,.pointer (some ⟨b2,0,none⟩)),(2,.pointer (some ⟨b1,0,none⟩))])
  (fun (i:Nat)=>[pt b1 (.cells #[.int .i64 0,.int .i64 0,.int .i64 0,.int .i64 0,.int .i64 0] 124 (0,0)),pt b2 (.cells (a5 (wTo (fun _=>1) i)).toArray 124 (0,0))])
  (fun (i:Nat)=>rs.length-i) 0
  (by omega) ⟨rfl,rfl,rfl,rfl,trivial⟩ (by repeat (first | exact Sub.nil | refine Sub.cons (by repeat first | exact .head | apply Pick.tail) ?_)) ?_
 rintro i hi
 refine W.sreg (WO.p rfl rfl (WO.nil (W.seq ?_)))
 refine W.cond_bl rfl (fun c1=>?_) (fun c1=>?_)
 ·refine W.skip (W.seq (W.block (W.sreg (WO.p rfl rfl (WO.p rfl rfl (WO.nil (W.region (WO.p rfl rfl (WO.indexArrL (i:=i) (o':=0+i) rfl rfl rfl (by omega) (by omega) rfl (WO.store1 rfl rfl rfl rfl (by repeat first | exact .head | apply Pick.tail) (a5_blt (by omega)) ?_))))))))))
  rw [a5_set (by omega),up_wTo (fun _=>1) i]
  refine WO.nil (W.region (WO.ar rfl rfl rfl (by unfold in64;omega) rfl (WO.p rfl rfl (WO.nil ?_))))
  refine' ⟨i+1,?hp,?hmu,⟨rfl,rfl,rfl,rfl,trivial⟩,?hS⟩
  case hS=>repeat (first | exact Sub.nil | refine Sub.cons (by repeat first | exact .head | apply Pick.tail) ?_)
  case hp=>omega
  case hmu=>omega
 ·refine W.exit (blk_same (W.sreg (WO.loadA rfl rfl (Cells.own (Pick.tail (Pick.head))) rfl rfl (WO.storeA rfl rfl rfl rfl Pick.head rfl rfl (WO.nil (W.ret ?_))))))
  obtain rfl:i=rs.length:=by omega
  exact fin.ret (Res.one rfl (RV.cell rfl rfl rfl (Cells.own Pick.head))) rfl
theorem exF_q {rs:List (Int × Int × Int)} {i j k:Nat} {w:Int}:exF rs i w (j,k)=if (i:Int)≠(j:Int)∧(i:Int)≠(k:Int) then w*(tm rs k-tm rs j) else w:=by
 unfold exF
 by_cases h:i≠j∧i≠k
 ·rw [if_pos h,if_pos (by omega)]
 ·rw [if_neg h,if_neg (by omega)]
theorem up_up (f:Nat→Int) (i:Nat) (x y:Int):up (up f i x) i y=up f i y:=by
 funext j
 unfold up
 by_cases h:j=i
 ·rw [if_pos h,if_pos h]
 ·rw [if_neg h,if_neg h,if_neg h]
theorem up_at (f:Nat→Int) (i:Nat) (x:Int):up f i x i=x:=by unfold up;rw [if_pos rfl]
theorem pairV_some {n q:Nat} {x:Value × Value} (h:((pairsTo n).map pairV)[q]?=some x):∃ j k:Nat,(pairsTo n)[q]?=some (j,k)∧j<k∧k<n∧x=(.int .i64 (j:Int),.int .i64 (k:Int)):=by
 rw [List.getElem?_map] at h
 cases hq:(pairsTo n)[q]? with
 | none=>rw [hq] at h;cases h
 | some y =>
  rw [hq] at h
  have:=pairsTo_mem (List.mem_of_getElem? hq)
  exact ⟨y.1,y.2,rfl,this.1,this.2,(Option.some.inj h).symm⟩
theorem c_exact (w:World) (p:Addr) (m:Int) (o:Value) (rest:List Value) (rs:List (Int × Int × Int)) (hP:RdC w.heap.size w p (.int .i64 m::o::rest)) (hR:RdF encR 3 w.heap.size w o rs) (hv:VT m rs) :
 Ret Tryz.prog 61 [.pointer (some p)].toArray w (.agg (a5 (wTo (exW rs) rs.length)).toArray):=by
 refine Ret.of mixed tyTab Tryz.func61 rfl rfl ?_
 replace hR:RdF encR 3 (fnCx mixed tyTab Tryz.f61.ntmps w).B (fnCx mixed tyTab Tryz.f61.ntmps w).w0 o rs:=hR
 replace hP:RdC (fnCx mixed tyTab Tryz.f61.ntmps w).B (fnCx mixed tyTab Tryz.f61.ntmps w).w0 p (.int .i64 m::o::rest):=hP
 have hn:=hv.n
 refine W.sreg (WO.box1 rfl (by rfl) rfl (fun b1 hb1=>(WO.alloc rfl rfl rfl (fun b2 hb2=>(WO.nil (W.sreg (WO.alloc rfl rfl rfl (fun b3 hb3=>(WO.nil (W.seq (W.sreg (WO.load rfl rfl (Cell.own (Pick.tail (Pick.tail (Pick.head))) rfl) rfl (WO.p rfl rfl (WO.field0 rfl rfl rfl (WO.field rfl rfl rfl ?_)))))))))))))))
 refine' WO.load (v:=_) rfl rfl ?hc rfl ?_
 case hc=>(first | (refine hP.cellAt ?_;rfl) | (refine hP2.cellAt ?_;rfl) | (refine hR2.cell0 ?_ r0 ?_ <;> first | rfl | omega))
 refine' WO.len (n:=_) rfl rfl ?hs rfl ?_
 case hs=>(exact hR.sl)
 refine WO.p rfl rfl (WO.nil (W.block ?_))
 refine W.loop (fun (i:Nat)=>i≤rs.length)
  (fun (i:Nat)=>[(13,.int .i64 (i:Int)),(12,.int .i64 (rs.length:Int)),(3,.pointer (some ⟨b3,0,none⟩)),(2,.pointer (some ⟨b2,0,none⟩)),(1,.pointer (some ⟨b1,0,none⟩))])
  (fun (i:Nat)=>[pt b1 (.cells #[.pointer (some p)] 63 (0,0)),pt b2 (.cells #[.int .i64 0,.int .i64 0,.int .i64 0,.int .i64 0,.int .i64 0] 124 (0,0)),pt b3 (.cells (a5 (wTo (exW rs) i)).toArray 124 (0,0))])
  (fun (i:Nat)=>rs.length-i) 0
  (by omega) ⟨rfl,rfl,rfl,rfl,rfl,trivial⟩ (by repeat (first | exact Sub.nil | refine Sub.cons (by repeat first | exact .head | apply Pick.tail) ?_)) ?_
 rintro i hi
 refine W.sreg (WO.p rfl rfl (WO.nil (W.seq ?_)))
 refine W.cond_bl rfl (fun c1=>?_) (fun c1=>?_)
 ·refine W.skip (W.seq (W.block (W.sreg (WO.p rfl rfl (WO.alloc rfl rfl rfl (fun b4 hb4=>(WO.store1 rfl rfl rfl (by rfl) Pick.head rfl (WO.nil (W.sreg (WO.load rfl rfl (Cell.own Pick.head rfl) rfl (WO.indexArrL (i:=i) (o':=0+i) rfl rfl rfl (by omega) (by omega) rfl (WO.store1 rfl rfl rfl rfl (by repeat first | exact .head | apply Pick.tail) (a5_blt (by omega)) ?_))))))))))))
  rw [a5_set (by omega)]
  refine WO.nil (W.sreg (WO.load rfl rfl (Cell.own (Pick.tail (Pick.tail (Pick.head))) rfl) rfl (WO.call (Post:=fun v Hq=>∃ b1,v=.func (.func 214) #[] #[.pointer (some ⟨b1,0,none⟩)]∧Hq=[pt b1 (.cells #[.pointer (some p)] 63 (0,0))]) rfl Tryz.call126 (fun L w hi=>c_pairs w _) rfl ?_)))
  rintro _ _ ⟨e1,rfl,rfl⟩
  refine WO.nil (W.block ?_)
  refine W.rangeFunc2 [pt e1 (.cells #[.pointer (some p)] 63 (0,0))] (fun q=>[pt b1 (.cells #[.pointer (some p)] 63 (0,0)),pt b2 (.cells #[.int .i64 0,.int .i64 0,.int .i64 0,.int .i64 0,.int .i64 0] 124 (0,0)),pt b4 (.cells #[.int .i64 (i:Int)] 3 (0,0)),pt b3 (.cells (a5 (up (wTo (exW rs) i) i (((pairsTo rs.length).take q).foldl (exF rs i) 1))).toArray 124 (0,0))]) ((pairsTo rs.length).map pairV) rfl rfl rfl rfl Tryz.call214 (by repeat (first | exact Sub.nil | refine Sub.cons (by repeat first | exact .head | apply Pick.tail) ?_)) ?_ ?_ ?_
  ·intro l Hc hy w1 M' hB hk hM hi
   exact c_pairs1 _ _ p m o rest rs hP hR hn.2 l Hc hy e1 w1 M' hB hk hM hi
  ·intro l w1 M hB hM hk q x hx
   obtain ⟨j,k,hq,hjk,hkn,rfl⟩:=pairV_some hx
   have hR2:RdF encR 3 (rdCx (fnCx mixed tyTab Tryz.f61.ntmps w) l w1 M hB hM).B (rdCx (fnCx mixed tyTab Tryz.f61.ntmps w) l w1 M hB hM).w0 o rs:=hR.agree hk
   have hP2:RdC (rdCx (fnCx mixed tyTab Tryz.f61.ntmps w) l w1 M hB hM).B (rdCx (fnCx mixed tyTab Tryz.f61.ntmps w) l w1 M hB hM).w0 p (.int .i64 m::o::rest):=hP.agree hk
   have hB1:=exW_B hv i (q:=q) (Nat.le_of_lt (List.getElem?_eq_some_iff.1 hq).1)
   have hB2:=exW_B hv i (q:=q+1) (List.getElem?_eq_some_iff.1 hq).1
   rw [foldl_take_some _ hq,exF_q] at hB2
   rw [foldl_take_some _ hq,exF_q]
   generalize hwq:((pairsTo rs.length).take q).foldl (exF rs i) 1=w2 at hB1 hB2
   have hru:=hv.run hkn
   have hlt:=hv.lt hjk hkn
   refine W.sreg (WO.p rfl rfl (WO.nil (W.region (WO.p rfl rfl (WO.nil (W.block (W.sreg (WO.load rfl rfl (Cell.own (Pick.tail (Pick.tail (Pick.head))) rfl) rfl (WO.p rfl rfl (WO.p rfl rfl (WO.p rfl rfl ?_)))))))))))
   refine WO.guard_bl rfl rfl (fun c2=>?_) (fun c2=>?_)
   ·refine WO.go' rfl (WO.load rfl rfl (Cell.own (Pick.tail (Pick.tail (Pick.head))) rfl) rfl (WO.pg rfl rfl rfl (WO.pg rfl rfl rfl (WO.p rfl rfl (WO.nil ?_)))))
    refine W.cond_bl rfl (fun c3=>?_) (fun c3=>?_)
    ·rw [if_pos (by omega)] at hB2
     unfold tm at hB2 hlt
     refine W.drawD 22 [.b 0 [],.r 1 [],.b 2 [],.b 3 [],.r 4 [],.r 5 [],.r 6 [],.b 7 [],.r 8 [],.r 9 [],.r 10 [],.b 11 [],.b 12 [],.r 13 [],.r 14 [],.r 15 [],.b 16 [],.r 17 [],.r 18 [],.r 19 [],.b 20 [],.r 21 []] [] (A0:=[]) (Sub.refl _) (by kernel_rfl) ?_ ?_
     ·repeat constructor
     refine DT.b rfl rfl rfl (WO.load rfl rfl (Cell.own (Pick.tail (Pick.tail (Pick.head))) rfl) rfl (WO.nil ⟨rfl,rfl⟩)) (DT.r rfl rfl rfl (WO.indexArrL (i:=i) (o':=0+i) rfl rfl rfl (by omega) (by omega) rfl (WO.nil ⟨rfl,rfl⟩)) ?_)
     refine' DT.b rfl rfl rfl ?hq ?_
     case hq =>
      refine' WO.load (v:=_) rfl rfl ?hc rfl ?_
      case hc=>(first | (refine a5_cellS (t:=124) (fr:=(0,0)) (f:=up (wTo (exW rs) i) i w2) ?_ ?_ (up_at _ _ _);(repeat (first | exact Sub.nil | refine Sub.cons (by repeat first | exact .head | apply Pick.tail) ?_));omega))
      exact WO.nil ⟨rfl,rfl⟩
     refine DT.b rfl rfl rfl (WO.load rfl rfl (Cell.own Pick.head rfl) rfl (WO.nil ⟨rfl,rfl⟩)) (DT.r rfl rfl rfl (WO.p rfl rfl (WO.nil ⟨rfl,rfl⟩)) (DT.r rfl rfl rfl (WO.field0 rfl rfl rfl (WO.nil ⟨rfl,rfl⟩)) (DT.r rfl rfl rfl (WO.field rfl rfl rfl (WO.nil ⟨rfl,rfl⟩)) ?_)))
     refine' DT.b rfl rfl rfl ?hq ?_
     case hq =>
      refine' WO.load (v:=_) rfl rfl ?hc rfl ?_
      case hc=>(first | (refine hP.cellAt ?_;rfl) | (refine hP2.cellAt ?_;rfl) | (refine hR2.cell0 ?_ r0 ?_ <;> first | rfl | omega))
      exact WO.nil ⟨rfl,rfl⟩
     refine DT.r rfl rfl rfl (WO.p rfl rfl (WO.nil ⟨rfl,rfl⟩)) ?_
     refine' DT.r rfl rfl rfl ?hq ?_
     case hq =>
      refine' WO.indexAddr (n:=_) (i:=_) rfl rfl rfl ?hs ?h1 rfl ?_
      case hs=>(exact hR.sl)
      case h1=>(omega)
      exact WO.nil ⟨rfl,rfl⟩
     refine DT.r rfl rfl rfl (WO.field0 rfl rfl rfl (WO.nil ⟨rfl,rfl⟩)) ?_
     refine' DT.b rfl rfl rfl ?hq ?_
     case hq =>
      refine' WO.load (v:=_) rfl rfl ?hc rfl ?_
      case hc=>(first | (refine hP.cellAt ?_;rfl) | (refine hP2.cellAt ?_;rfl) | (refine hR2.cell0 ?_ r0 ?_ <;> first | rfl | omega))
      exact WO.nil ⟨rfl,rfl⟩
     refine DT.b rfl rfl rfl (WO.load rfl rfl (Cell.own Pick.head rfl) rfl (WO.nil ⟨rfl,rfl⟩)) (DT.r rfl rfl rfl (WO.p rfl rfl (WO.nil ⟨rfl,rfl⟩)) (DT.r rfl rfl rfl (WO.field0 rfl rfl rfl (WO.nil ⟨rfl,rfl⟩)) (DT.r rfl rfl rfl (WO.field rfl rfl rfl (WO.nil ⟨rfl,rfl⟩)) ?_)))
     refine' DT.b rfl rfl rfl ?hq ?_
     case hq =>
      refine' WO.load (v:=_) rfl rfl ?hc rfl ?_
      case hc=>(first | (refine hP.cellAt ?_;rfl) | (refine hP2.cellAt ?_;rfl) | (refine hR2.cell0 ?_ r0 ?_ <;> first | rfl | omega))
      exact WO.nil ⟨rfl,rfl⟩
     refine DT.r rfl rfl rfl (WO.p rfl rfl (WO.nil ⟨rfl,rfl⟩)) ?_
     refine' DT.r rfl rfl rfl ?hq ?_
     case hq =>
      refine' WO.indexAddr (n:=_) (i:=_) rfl rfl rfl ?hs ?h1 rfl ?_
      case hs=>(exact hR.sl)
      case h1=>(omega)
      exact WO.nil ⟨rfl,rfl⟩
     refine DT.r rfl rfl rfl (WO.field0 rfl rfl rfl (WO.nil ⟨rfl,rfl⟩)) ?_
     refine' DT.b rfl rfl rfl ?hq ?_
     case hq =>
      refine' WO.load (v:=_) rfl rfl ?hc rfl ?_
      case hc=>(first | (refine hP.cellAt ?_;rfl) | (refine hP2.cellAt ?_;rfl) | (refine hR2.cell0 ?_ r0 ?_ <;> first | rfl | omega))
      exact WO.nil ⟨rfl,rfl⟩
     refine DT.r rfl rfl rfl (WO.ar rfl rfl rfl (by unfold in64;omega) rfl (WO.nil ⟨rfl,rfl⟩)) (DT.nil [_,_,_,_] rfl (WO.ar rfl rfl rfl (by unfold in64;omega) rfl (WO.indexArrL (i:=i) (o':=0+i) rfl rfl rfl (by omega) (by omega) rfl (WO.store1 rfl rfl rfl rfl (by repeat first | exact .head | apply Pick.tail) (a5_blt (by omega)) ?_))))
     rw [a5_set (by omega),up_up]
     refine WO.nil ?_
     rw [if_pos (by omega)]
     (repeat (first | exact Sub.nil | refine Sub.cons (by repeat first | exact .head | apply Pick.tail) ?_))
    ·refine W.skip ?_
     rw [if_neg (by omega)]
     (repeat (first | exact Sub.nil | refine Sub.cons (by repeat exact .head) ?_))
   ·refine WO.no rfl rfl (WO.no rfl rfl (WO.no rfl rfl (WO.p rfl rfl (WO.nil (W.cond_f rfl (W.skip ?_))))))
    rw [if_neg (by omega)]
    (repeat (first | exact Sub.nil | refine Sub.cons (by repeat exact .head) ?_))
  rw [List.length_map,List.take_length,show (pairsTo rs.length).foldl (exF rs i) 1=exW rs i from rfl,up_wTo]
  refine W.region (WO.ar rfl rfl rfl (by unfold in64;omega) rfl (WO.p rfl rfl (WO.nil ?_)))
  refine' ⟨i+1,?hp,?hmu,⟨rfl,rfl,rfl,rfl,rfl,trivial⟩,?hS⟩
  case hS=>repeat (first | exact Sub.nil | refine Sub.cons (by repeat first | exact .head | apply Pick.tail) ?_)
  case hp=>omega
  case hmu=>omega
 ·refine W.exit (blk_same (W.sreg (WO.loadA rfl rfl (Cells.own (Pick.tail (Pick.tail (Pick.head)))) rfl rfl (WO.storeA rfl rfl rfl rfl (Pick.tail (Pick.head)) rfl rfl (WO.nil (W.ret ?_))))))
  obtain rfl:i=rs.length:=by omega
  exact fin.ret (Res.one rfl (RV.cell rfl rfl rfl (Cells.own Pick.head))) rfl
end Go.Proofs.YthoeeeehfkenkaaGreat.Tr
namespace Go.Proofs.YthoeeeehfkenkaaGreat.Tr
open Go Go.TH
attribute [local irreducible] W WO pt
set_option maxRecDepth 10000
set_option maxHeartbeats 1000000
def pas:Nat→Nat→Int
 | 0,i=>if i=0 then 1 else 0
 | n+1,i=>pas n i+(if i=0 then 0 else pas n (i-1))
def midP (n i:Nat):Nat→Int:=fun j=>if i<j then pas n j else pas (n-1) j
theorem pas_in:∀ n,n<5→∀ i,i<5→0≤pas n i∧pas n i≤6:=by decide
theorem pas_over:∀ n,n<5→∀ i,i<5→n<i→pas n i=0:=by decide
theorem pas_first:∀ n,n<5→pas n 0=1:=by decide
theorem pas_pos:∀ n,n<5→∀ i,i≤n→1≤pas n i:=by decide
theorem midP_in {n i j:Nat} (hn:n<5) (hj:j<5):0≤midP n i j∧midP n i j≤6:=by
 unfold midP;split
 ·exact pas_in n hn j hj
 ·exact pas_in (n-1) (by omega) j hj
theorem midP_start {n:Nat} (h1:1≤n) (hn:n<5):a5 (pas (n-1))=a5 (midP n n):=a5_congr fun j hj=>by
 unfold midP;split
 ·rw [pas_over n hn j hj (by omega),pas_over (n-1) (by omega) j hj (by omega)]
 ·rfl
theorem midP_end {n:Nat} (hn:n<5):a5 (midP n 0)=a5 (pas n):=a5_congr fun j hj=>by
 unfold midP;split
 ·rfl
 ·rw [show j=0 by omega,pas_first n hn,pas_first (n-1) (by omega)]
theorem midP_step {n i:Nat} (h1:1≤n) (hi:1≤i):a5 (up (midP n i) i (midP n i i+midP n i (i-1)))=a5 (midP n (i-1)):=a5_congr fun j hj=>by
 unfold up
 by_cases e:j=i
 ·subst e
  rw [if_pos rfl]
  unfold midP
  rw [if_neg (by omega),if_neg (by omega),if_pos (by omega)]
  obtain ⟨m,rfl⟩:∃ m,n=m+1:=⟨n-1,by omega⟩
  rw [Nat.add_sub_cancel]
  show _=pas m j+(if j=0 then 0 else pas m (j-1))
  rw [if_neg (by omega)]
 ·rw [if_neg e]
  unfold midP
  by_cases h:i<j
  ·rw [if_pos h,if_pos (by omega)]
  ·rw [if_neg h,if_neg (by omega)]
theorem c_means (w:World) (p:Addr) (m:Int) (o:Value) (rest:List Value) (rs:List (Int × Int × Int)) (hP:RdC w.heap.size w p (.int .i64 m::o::rest)) (hR:RdF encR 3 w.heap.size w o rs) (hn:1≤rs.length∧rs.length≤5) :
 Ret Tryz.prog 63 [.pointer (some p)].toArray w (.agg (a5 (pas (rs.length-1))).toArray):=by
 refine Ret.of mixed tyTab Tryz.func63 rfl rfl ?_
 replace hR:RdF encR 3 (fnCx mixed tyTab Tryz.f63.ntmps w).B (fnCx mixed tyTab Tryz.f63.ntmps w).w0 o rs:=hR
 replace hP:RdC (fnCx mixed tyTab Tryz.f63.ntmps w).B (fnCx mixed tyTab Tryz.f63.ntmps w).w0 p (.int .i64 m::o::rest):=hP
 refine W.sreg (WO.alloc rfl rfl rfl (fun b1 hb1=>(WO.nil (W.sreg (WO.build rfl rfl rfl rfl rfl (WO.alloc rfl rfl rfl (fun b2 hb2=>(WO.storeA rfl rfl rfl rfl Pick.head rfl rfl (WO.nil (W.seq (W.sreg (WO.p rfl rfl (WO.nil (W.block ?_))))))))))))))
 refine W.loop (fun (n:Nat)=>1≤n∧n≤rs.length)
  (fun (n:Nat)=>[(4,.int .i64 (n:Int)),(3,.pointer (some ⟨b2,0,none⟩)),(2,.pointer (some ⟨b1,0,none⟩)),(0,.pointer (some p))])
  (fun (n:Nat)=>[pt b1 (.cells #[.int .i64 0,.int .i64 0,.int .i64 0,.int .i64 0,.int .i64 0] 124 (0,0)),pt b2 (.cells (a5 (pas (n-1))).toArray 124 (0,0))])
  (fun (n:Nat)=>rs.length-n) 1
  (by omega) ⟨rfl,rfl,rfl,rfl,trivial⟩ (by repeat (first | exact Sub.nil | refine Sub.cons (by repeat first | exact .head | apply Pick.tail) ?_)) ?_
 rintro n hn1
 refine W.seq (W.sreg (WO.p rfl rfl (WO.p rfl rfl (WO.p rfl rfl (WO.field0 rfl rfl rfl (WO.field rfl rfl rfl ?_))))))
 refine' WO.load (v:=_) rfl rfl ?hc rfl ?_
 case hc=>((refine hP.cellAt ?_;rfl))
 refine WO.len rfl rfl hR.sl rfl (WO.p rfl rfl (WO.nil ?_))
 refine W.cond_bl rfl (fun c1=>?_) (fun c1=>?_)
 ·refine W.skip (W.seq (W.block (W.sreg (WO.p rfl rfl (WO.p rfl rfl (WO.nil (W.block ?_)))))))
  rw [midP_start (n:=n) (by omega) (by omega)]
  refine W.loop2 (fun (i:Nat) (z:Int)=>i≤n∧z=(i:Int))
   (fun (i:Nat) (z:Int)=>[(5,.int .i64 z),(4,.int .i64 (n:Int)),(3,.pointer (some ⟨b2,0,none⟩)),(2,.pointer (some ⟨b1,0,none⟩)),(0,.pointer (some p))])
   (fun (i:Nat) (z:Int)=>[pt b1 (.cells #[.int .i64 0,.int .i64 0,.int .i64 0,.int .i64 0,.int .i64 0] 124 (0,0)),pt b2 (.cells (a5 (midP n i)).toArray 124 (0,0))])
   (fun (i:Nat) (z:Int)=>i) n n
   (by omega) ⟨rfl,rfl,rfl,rfl,rfl,trivial⟩ (by repeat (first | exact Sub.nil | refine Sub.cons (by repeat exact .head) ?_)) ?_
  rintro i z hi1
  refine W.seq (W.sreg (WO.p rfl rfl (WO.p rfl rfl (WO.nil ?_))))
  refine W.cond_bl rfl (fun c2=>?_) (fun c2=>?_)
  ·refine W.skip (W.seq (W.block ?_))
   have hm1:=midP_in (n:=n) (i:=i) (j:=i) (by omega) (by omega)
   have hm2:=midP_in (n:=n) (i:=i) (j:=i-1) (by omega) (by omega)
   refine W.drawD 7 [.r 0 [],.r 1 [],.b 2 [],.r 3 [],.r 4 [],.r 5 [],.b 6 []] [] (A0:=[]) (Sub.refl _) (by kernel_rfl) ?_ ?_
   ·repeat constructor
   refine DT.r rfl rfl rfl (WO.p rfl rfl (WO.nil ⟨rfl,rfl⟩)) (DT.r rfl rfl rfl (WO.indexArrE (i:=i) (o':=0+i) rfl rfl rfl (by omega) (by omega) (by omega) rfl (WO.nil ⟨rfl,rfl⟩)) ?_)
   refine' DT.b rfl rfl rfl ?hq ?_
   case hq =>
    refine' WO.load (v:=_) rfl rfl ?hc rfl ?_
    case hc=>(first | (refine a5_cellS (t:=124) (fr:=(0,0)) (f:=midP n i) (i:=i) (x:=midP n i i) ?_ ?_ rfl;(repeat (first | exact Sub.nil | refine Sub.cons (by repeat first | exact .head | apply Pick.tail) ?_));omega))
    exact WO.nil ⟨rfl,rfl⟩
   refine DT.r rfl rfl rfl (WO.p rfl rfl (WO.nil ⟨rfl,rfl⟩)) (DT.r rfl rfl rfl (WO.ar rfl rfl rfl (by unfold in64;omega) rfl (WO.nil ⟨rfl,rfl⟩)) (DT.r rfl rfl rfl (WO.indexArrE (i:=i-1) (o':=0+(i-1)) rfl rfl rfl (by omega) (by omega) (by omega) rfl (WO.nil ⟨rfl,rfl⟩)) ?_))
   refine' DT.b rfl rfl rfl ?hq ?_
   case hq =>
    refine' WO.load (v:=_) rfl rfl ?hc rfl ?_
    case hc=>(first | (refine a5_cellS (t:=124) (fr:=(0,0)) (f:=midP n i) (i:=i-1) (x:=midP n i (i-1)) ?_ ?_ rfl;(repeat (first | exact Sub.nil | refine Sub.cons (by repeat first | exact .head | apply Pick.tail) ?_));omega))
    exact WO.nil ⟨rfl,rfl⟩
   refine DT.nil [_,_] rfl (WO.ar rfl rfl rfl (by unfold in64;omega) rfl (WO.indexArrE (i:=i) (o':=0+i) rfl rfl rfl (by omega) (by omega) (by omega) rfl (WO.store1 rfl rfl rfl rfl (by repeat first | exact .head | apply Pick.tail) (a5_blt (by omega)) ?_)))
   rw [a5_set (by omega),midP_step (n:=n) (i:=i) (by omega) (by omega)]
   refine WO.nil (W.region (WO.p rfl rfl (WO.ar rfl rfl rfl (by unfold in64;omega) rfl (WO.p rfl rfl (WO.nil ?_)))))
   refine' ⟨i-1,_,?hp,?hmu,⟨rfl,rfl,rfl,rfl,rfl,trivial⟩,?hS⟩
   case hS=>repeat (first | exact Sub.nil | refine Sub.cons (by repeat first | exact .head | apply Pick.tail) ?_)
   case hp=>omega
   case hmu=>omega
  ·refine W.exit (blk_same ?_)
   obtain rfl:i=0:=by omega
   rw [midP_end (n:=n) (by omega),show pas n=pas (n+1-1) from rfl]
   refine W.region (WO.p rfl rfl (WO.ar rfl rfl rfl (by unfold in64;omega) rfl (WO.p rfl rfl (WO.nil ?_))))
   refine' ⟨n+1,?hp,?hmu,⟨rfl,rfl,rfl,rfl,trivial⟩,?hS⟩
   case hS=>repeat (first | exact Sub.nil | refine Sub.cons (by repeat exact .head) ?_)
   case hp=>omega
   case hmu=>omega
 ·refine W.exit (blk_same (W.sreg (WO.loadA rfl rfl (Cells.own (Pick.tail (Pick.head))) rfl rfl (WO.storeA rfl rfl rfl rfl Pick.head rfl rfl (WO.nil (W.ret ?_))))))
  obtain rfl:n=rs.length:=by omega
  exact fin.ret (Res.one rfl (RV.cell rfl rfl rfl (Cells.own Pick.head))) rfl
def seg (n j t:Nat):List (Nat × Nat):=(List.range t).map fun s=>(j,j+1+s)
theorem seg_succ (n j t:Nat):seg n j (t+1)=seg n j t++[(j,j+1+t)]:=by
 unfold seg;rw [List.range_succ,List.map_append];rfl
def raw (m:Int) (rs:List (Int × Int × Int)) (i:Nat):Int:=if m=1 then 1 else if m=2 then pas (rs.length-1) i else exW rs i
end Go.Proofs.YthoeeeehfkenkaaGreat.Tr
namespace Go.Proofs.YthoeeeehfkenkaaGreat.Tr
open Go Go.TH
attribute [local irreducible] W WO pt
set_option maxRecDepth 10000
set_option maxHeartbeats 1000000
theorem gcd2_posL {a b:Int} (ha:0<a) (hb:0≤b):0<gcd2 a b:=by
 unfold gcd2
 have:0<Nat.gcd a.toNat b.toNat:=Nat.gcd_pos_of_pos_left _ (by omega)
 omega
theorem gcdF_pos:∀ (l:List Int) (d:Int),0<d→(∀ x∈l,0≤x)→0<l.foldl gcd2 d
 | [],_,h,_=>h
 | x::l,d,h,hx=>gcdF_pos l (gcd2 d x) (gcd2_posL h (hx x (by simp))) (fun y hy=>hx y (by simp [hy]))
section
variable {m:Int} {rs:List (Int × Int × Int)}
theorem exW_all (hv:VT m rs) (i:Nat):1≤exW rs i∧exW rs i≤604661760000000000:=by
 have:=exW_B hv i (q:=(pairsTo rs.length).length) (Nat.le_refl _)
 rw [List.take_length] at this
 exact this
theorem raw_in (hv:VT m rs) {i:Nat} (hi:i<rs.length):1≤raw m rs i∧raw m rs i≤604661760000000000:=by
 have hn:=hv.n
 unfold raw
 split
 ·omega
 split
 ·have h1:=pas_pos (rs.length-1) (by omega) i (by omega)
  have h2:=pas_in (rs.length-1) (by omega) i (by omega)
  omega
 ·exact exW_all hv i
def gcdR (m:Int) (rs:List (Int × Int × Int)):Int:=gcdL ((List.range rs.length).map (raw m rs))
theorem raws_nn (hv:VT m rs):∀ x∈(List.range rs.length).map (raw m rs),0≤x:=by
 intro x hx
 obtain ⟨i,hi,rfl⟩:=List.mem_map.1 hx
 have:=raw_in hv (List.mem_range.1 hi)
 omega
theorem gcdR_pos (hv:VT m rs):0<gcdR m rs:=by
 have hn:=hv.n
 have h0:=raw_in hv (i:=0) (by omega)
 have hnn:=raws_nn hv
 unfold gcdR gcdL
 obtain ⟨k,hk⟩:∃ k,rs.length=k+1:=⟨rs.length-1,by omega⟩
 rw [hk,List.range_succ_eq_map] at hnn ⊢
 simp only [List.map_cons,List.foldl]
 refine gcdF_pos _ _ (by rw [gcd2_0 (by omega)];omega) (fun x hx=>hnn x (by simp only [List.map_cons,List.mem_cons];exact .inr hx))
def wts (m:Int) (rs:List (Int × Int × Int)) (i:Nat):Int:=(raw m rs i).tdiv (gcdR m rs)
theorem wts_in (hv:VT m rs) {i:Nat} (hi:i<rs.length):0≤wts m rs i∧wts m rs i≤604661760000000000:=by
 have h1:=raw_in hv hi
 have h2:=gcdR_pos hv
 unfold wts
 have h3:=Int.tdiv_nonneg (a:=raw m rs i) (b:=gcdR m rs) (by omega) (by omega)
 have h4:=Int.tdiv_le_self (a:=raw m rs i) (gcdR m rs) (by omega)
 omega
def wsum (m:Int) (rs:List (Int × Int × Int)):Nat→Int
 | 0=>0
 | i+1=>wsum m rs i+wts m rs i
theorem wsum_in (hv:VT m rs):∀ {i:Nat},i≤rs.length→0≤wsum m rs i∧wsum m rs i≤604661760000000000*i
 | 0,_=>by simp [wsum]
 | i+1,h=>by
  have h1:=wsum_in hv (i:=i) (by omega)
  have h2:=wts_in hv (i:=i) (by omega)
  have e:wsum m rs (i+1)=wsum m rs i+wts m rs i:=rfl
  omega
def wMid (m:Int) (rs:List (Int × Int × Int)) (i:Nat):Nat→Int:=fun j=>if j<rs.length then (if j<i then wts m rs j else raw m rs j) else 0
theorem wMid_0:a5 (wTo (raw m rs) rs.length)=a5 (wMid m rs 0):=a5_congr fun j _=>by
 unfold wTo wMid
 split
 ·rw [if_neg (by omega)]
 ·rfl
theorem wMid_n:a5 (wMid m rs rs.length)=a5 (wTo (wts m rs) rs.length):=a5_congr fun j _=>by
 unfold wTo wMid
 split
 ·rfl
 ·rfl
theorem wMid_up {i:Nat} (hi:i<rs.length):up (wMid m rs i) i (wts m rs i)=wMid m rs (i+1):=by
 funext j
 unfold up wMid
 by_cases e:j=i
 ·subst e;rw [if_pos rfl,if_pos hi,if_pos (by omega)]
 ·rw [if_neg e]
  split
  ·by_cases h:j<i
   ·rw [if_pos h,if_pos (by omega)]
   ·rw [if_neg h,if_neg (by omega)]
  ·rfl
theorem wMid_at {i:Nat} (hi:i<rs.length):wMid m rs i i=raw m rs i:=by unfold wMid;rw [if_pos hi,if_neg (by omega)]
theorem wMid_at1 {i:Nat} (hi:i<rs.length):wMid m rs (i+1) i=wts m rs i:=by unfold wMid;rw [if_pos hi,if_pos (by omega)]
end
theorem wMid_list {m:Int} {rs:List (Int × Int × Int)}:(List.range rs.length).map (wMid m rs 0)=(List.range rs.length).map (raw m rs):=by
 refine List.map_congr_left fun i hi=>?_
 have:=List.mem_range.1 hi
 unfold wMid;rw [if_pos this,if_neg (by omega)]
def sc (m:Int) (o:Value) (f:Nat→Int) (s:Int):List Value:=[.int .i64 m,o,.int .i64 (f 0),.int .i64 (f 1),.int .i64 (f 2),.int .i64 (f 3),.int .i64 (f 4),.int .i64 s]
theorem sc_set {m:Int} {o:Value} {f:Nat→Int} {s:Int} {i:Nat} {x:Int} (h:i<5):(sc m o f s).set (2+i) (.int .i64 x)=sc m o (up f i x) s:=by
 match i,h with
 | 0,_=>rfl
 | 1,_=>rfl
 | 2,_=>rfl
 | 3,_=>rfl
 | 4,_=>rfl
theorem sc_a5 {m:Int} {o:Value} {f g:Nat→Int} {s:Int} (h:a5 f=a5 g):sc m o f s=sc m o g s:=by
 unfold a5 at h
 simp only [List.cons.injEq,Value.int.injEq,true_and,and_true] at h
 unfold sc
 rw [h.1,h.2.1,h.2.2.1,h.2.2.2.1,h.2.2.2.2]
theorem sc_get {m:Int} {o:Value} {f:Nat→Int} {s:Int} {i:Nat} (h:i<5):lget (sc m o f s) (2+i)=some (.int .i64 (f i)):=by
 match i,h with
 | 0,_=>rfl
 | 1,_=>rfl
 | 2,_=>rfl
 | 3,_=>rfl
 | 4,_=>rfl
theorem sc_blt {m:Int} {o:Value} {f:Nat→Int} {s:Int} {i:Nat} (h:i<5):Nat.blt (2+i) (sc m o f s).length=true:=by rw [Nat.blt_eq];show 2+i<8;omega
theorem sc_cellS {P:Program} {C:Cx P} {H:List HP} {b i:Nat} {t:TypeId} {fr:Nat × Nat} {m:Int} {o:Value} {f:Nat→Int} {s x:Int} (h1:Sub H [pt b (.cells (sc m o f s).toArray t fr)]) (h:i<5) (e:f i=x):Cell C H ⟨b,2+i,none⟩ (.int .i64 x):=by
 subst e
 cases h1 with
 | cons p _=>exact Cell.own p (sc_get h)
theorem sc_rd {P:Program} {C:Cx P} {H H' L:List HP} {b n:Nat} {t:TypeId} {fr:Nat × Nat} {m:Int} {o:Value} {f:Nat→Int} {s:Int} {w:World} (p:Pick (pt b (.cells (sc m o f s).toArray t fr)) H H') (hi:Inv C.w0 C.M (L++H) w) (hn:n≤5):RdF encI 1 w.heap.size w (.slice (some ⟨b,2,none⟩) n 5) ((List.range n).map f):=by
 refine RdF.of_pt (fun a=>⟨_,rfl⟩) p hi (by simp) (by omega) fun i x hx=>⟨_,rfl,?_⟩
 rw [List.getElem?_map] at hx
 cases h:(List.range n)[i]? with
 | none=>rw [h] at hx;cases hx
 | some j =>
  rw [h] at hx
  obtain ⟨hlt,hj⟩:=List.getElem?_eq_some_iff.1 h
  rw [List.getElem_range] at hj
  rw [List.length_range] at hlt
  subst hj
  simp at hx
  subst hx
  exact sc_get (by omega)
def manF (m:Int):Nat:=if m=0 then 61 else if m=1 then 62 else 63
theorem manF_call {m:Int}:∀ (args:Array Value) (w:World),(callFunc (manF m) args).run Tryz.prog w=.ok (.enter (manF m) args) w:=by
 unfold manF
 split
 ·exact Tryz.call61
 split
 ·exact Tryz.call62
 ·exact Tryz.call63
theorem c_man (w:World) (p:Addr) (m:Int) (o:Value) (rest:List Value) (rs:List (Int × Int × Int)) (hP:RdC w.heap.size w p (.int .i64 m::o::rest)) (hR:RdF encR 3 w.heap.size w o rs) (hv:VT m rs) :
 Ret Tryz.prog (manF m) [.pointer (some p)].toArray w (.agg (a5 (wMid m rs 0)).toArray):=by
 have hn:=hv.n
 have hm:=hv.m
 rw [← wMid_0]
 unfold manF
 split
 ·rename_i h0
  have:=c_exact w p m o rest rs hP hR hv
  rw [show a5 (wTo (exW rs) rs.length)=a5 (wTo (raw m rs) rs.length) from a5_congr fun j _=>by
   have e:raw m rs j=exW rs j:=by unfold raw;rw [if_neg (by omega),if_neg (by omega)]
   unfold wTo;rw [e]] at this
  exact this
 split
 ·rename_i h0 h1
  have:=c_plain w p m o rest rs hP hR hn.2
  rw [show a5 (wTo (fun _=>1) rs.length)=a5 (wTo (raw m rs) rs.length) from a5_congr fun j _=>by
   have e:raw m rs j=1:=by unfold raw;rw [if_pos h1]
   unfold wTo;rw [e]] at this
  exact this
 ·rename_i h0 h1
  have:=c_means w p m o rest rs hP hR ⟨by omega,hn.2⟩
  rw [show a5 (pas (rs.length-1))=a5 (wTo (raw m rs) rs.length) from a5_congr fun j hj=>by
   have e:raw m rs j=pas (rs.length-1) j:=by unfold raw;rw [if_neg h1,if_pos (by omega)]
   unfold wTo;rw [e]
   split
   ·rfl
   ·exact pas_over (rs.length-1) (by omega) j hj (by omega)] at this
  exact this
theorem man_find {m:Int} (hm:0≤m∧m≤2) {es:Array MapEntry} (h:es.toList=[⟨.int .i64 0,.func (.func 61) #[] #[],0⟩,⟨.int .i64 1,.func (.func 62) #[] #[],1⟩,⟨.int .i64 2,.func (.func 63) #[] #[],2⟩]) :
 Instr.findNow (.int .i64) (.int .i64 m) es.toList 0=some (some (m.toNat,.func (.func (manF m)) (([]:List Value).toArray) (([]:List Value).toArray))):=by
 rw [h]
 obtain rfl | rfl | rfl:m=0∨m=1∨m=2:=by omega
 ·rfl
 ·rfl
 ·rfl
theorem c_newScales (w:World) (m:Int) (o:Value) (rs:List (Int × Int × Int)) (hR:RdF encR 3 w.heap.size w o rs) :
 Ct Tryz.prog 21 [.agg #[.int .i64 m,o]].toArray w fun v w'=>∃ Hq,(∃ pv,v=.tuple #[pv,.int .i64 (chkT m rs)]∧Hq=[PtrP pv (chkT m rs) (sc m o (wTo (wts m rs) rs.length) (wsum m rs rs.length)) 126])∧Inv w [] Hq w':=by
 refine Ct.ofI mixed tyTab Tryz.func21 rfl rfl ?_
 replace hR:RdF encR 3 (fnCx mixed tyTab Tryz.f21.ntmps w).B (fnCx mixed tyTab Tryz.f21.ntmps w).w0 o rs:=hR
 have ho:=hR.sl.oc
 obtain ⟨_,oa,oc,hoe,_⟩:=hR.sl
 subst hoe
 refine W.sreg (WO.boxA rfl rfl (fun b1 hb1=>(WO.p rfl rfl (WO.p rfl rfl (WO.nil (W.seq (W.sreg (WO.loadA rfl rfl (Cells.own Pick.head) rfl rfl (WO.callR (r:=.int .i64 (chkT m rs)) rfl Tryz.call60 (fun L w hi=>c_CheckTest w m _ rs (hR.later hi)) rfl (WO.p rfl rfl (WO.nil (W.sreg (WO.p rfl rfl (WO.p rfl rfl (WO.nil ?_)))))))))))))))
 refine W.cond_bl rfl (fun c1=>?_) (fun c1=>?_)
 ·refine W.sreg (WO.p rfl rfl (WO.p rfl rfl (WO.p rfl rfl (WO.nil (W.ret (fin.ret (Res.two rfl (RV.tmp rfl) (RV.tmp rfl)) ?_))))))
  exact ⟨_,rfl,fun h hs=>Sub.sat (.cons .head .nil) (PtrP.no (by assumption) h hs)⟩
 ·refine W.skip ?_
  have hv:VT m rs:=VT.of (by omega)
  have hn:=hv.n
  have hm:=hv.m
  have hgp:=gcdR_pos hv
  refine W.sreg (WO.loadA rfl rfl (Cells.own Pick.head) rfl rfl (WO.build rfl rfl rfl rfl rfl (WO.boxA rfl rfl (fun b2 hb2=>(WO.p rfl rfl (WO.nil (W.sreg (WO.makeMap rfl (fun b3=>(WO.insertI Tryz.underlying129 Tryz.underlying3 rfl rfl rfl (by repeat exact .head) rfl (WO.insertI Tryz.underlying129 Tryz.underlying3 rfl rfl rfl (by repeat exact .head) rfl (WO.insertI Tryz.underlying129 Tryz.underlying3 rfl rfl rfl (by repeat exact .head) rfl (WO.p rfl rfl (WO.p rfl rfl (WO.nil (W.sreg ?_))))))))))))))))
  refine WO.p rfl rfl (WO.p rfl rfl (WO.field0 rfl rfl rfl (WO.load rfl rfl (Cell.own (Pick.tail (Pick.tail (Pick.head))) rfl) rfl (WO.lookupI Tryz.underlying129 Tryz.underlying3 rfl rfl (by repeat exact .head) (man_find hm rfl) rfl (WO.p rfl rfl (WO.callCR (first:=[]) (captured:=[]) rfl rfl manF_call (fun L w hi=>c_man w ⟨b2,0,none⟩ m _ _ rs (RdC.own (b:=b2) (by repeat first | exact .head | apply Pick.tail) hi) (hR.later hi) hv) rfl (WO.p rfl rfl (WO.fieldL rfl rfl rfl (WO.storeP rfl rfl rfl rfl (Pick.tail (Pick.head)) (Nat.le_of_ble_eq_true rfl) rfl (WO.nil (W.seq ?_)))))))))))
  refine W.drawD 6 [.r 0 [],.r 1 [],.r 2 [],.r 3 [],.b 4 [],.r 5 []] [] (A0:=[]) (Sub.refl _) (by kernel_rfl) ?_ ?_
  ·repeat constructor
  refine DT.r rfl rfl rfl (WO.p rfl rfl (WO.nil ⟨rfl,rfl⟩)) (DT.r rfl rfl rfl (WO.p rfl rfl (WO.nil ⟨rfl,rfl⟩)) (DT.r rfl rfl rfl (WO.fieldL rfl rfl rfl (WO.nil ⟨rfl,rfl⟩)) (DT.r rfl rfl rfl (WO.fieldL rfl rfl rfl (WO.nil ⟨rfl,rfl⟩)) (DT.b rfl rfl rfl (WO.load rfl rfl (Cell.own (Pick.tail (Pick.tail (Pick.head))) rfl) rfl (WO.nil ⟨rfl,rfl⟩)) (DT.r rfl rfl rfl (WO.len rfl rfl hR.sl rfl (WO.nil ⟨rfl,rfl⟩)) (DT.nil [_,_,_] rfl (WO.sliceArrH rfl rfl rfl (by omega) rfl ?_)))))))
  refine WO.callR (r:=.int .i64 (gcdR m rs)) rfl Tryz.call64 (fun L w hi=>by have h:=c_divisor w _ ((List.range rs.length).map (wMid m rs 0)) (sc_rd (b:=b2) (t:=126) (fr:=(0,0)) (m:=m) (o:=.slice oa rs.length oc) (f:=wMid m rs 0) (s:=0) (by repeat exact .head) hi hn.2) (by rw [wMid_list];exact raws_nn hv);rw [wMid_list] at h;exact h) rfl (WO.p rfl rfl (WO.nil (W.seq (W.sreg (WO.fieldL rfl rfl rfl (WO.load rfl rfl (Cell.own (Pick.tail (Pick.tail (Pick.head))) rfl) rfl (WO.len rfl rfl hR.sl rfl (WO.p rfl rfl (WO.nil (W.block ?_))))))))))
  refine W.loop (fun (i:Nat)=>i≤rs.length)
   (fun (i:Nat)=>[(39,.int .i64 (i:Int)),(38,.int .i64 (rs.length:Int)),(7,.int .i64 (gcdR m rs)),(5,.pointer (some ⟨b2,0,none⟩))])
   (fun (i:Nat)=>[pt b2 (.cells (sc m (.slice oa rs.length oc) (wMid m rs i) (wsum m rs i)).toArray 126 (0,0))])
   (fun (i:Nat)=>rs.length-i) 0
   (by omega) ⟨rfl,rfl,rfl,rfl,trivial⟩ (by repeat (first | exact Sub.nil | refine Sub.cons (by repeat exact .head) ?_)) ?_
  rintro i hi
  refine W.sreg (WO.p rfl rfl (WO.nil (W.seq ?_)))
  refine W.cond_bl rfl (fun c2=>?_) (fun c2=>?_)
  ·refine W.skip (W.seq (W.block (W.sreg (WO.p rfl rfl (WO.p rfl rfl (WO.nil (W.seq ?_)))))))
   have hwi:=wts_in hv (i:=i) (by omega)
   have hsi:=wsum_in hv (i:=i) (by omega)
   refine W.drawD 10 [.r 0 [],.r 1 [],.r 2 [],.r 3 [],.r 4 [],.b 5 [],.r 6 [],.r 7 [],.r 8 [],.r 9 []] [] (A0:=[]) (Sub.refl _) (by kernel_rfl) ?_ ?_
   ·repeat constructor
   refine DT.r rfl rfl rfl (WO.p rfl rfl (WO.nil ⟨rfl,rfl⟩)) (DT.r rfl rfl rfl (WO.p rfl rfl (WO.nil ⟨rfl,rfl⟩)) (DT.r rfl rfl rfl (WO.p rfl rfl (WO.nil ⟨rfl,rfl⟩)) (DT.r rfl rfl rfl (WO.fieldL rfl rfl rfl (WO.nil ⟨rfl,rfl⟩)) (DT.r rfl rfl rfl (WO.indexArrL (i:=i) (o':=2+i) rfl rfl rfl (by omega) (by omega) rfl (WO.nil ⟨rfl,rfl⟩)) ?_))))
   refine' DT.b rfl rfl rfl ?hq ?_
   case hq =>
    refine' WO.load (v:=_) rfl rfl ?hc rfl ?_
    case hc=>(first | (refine sc_cellS (t:=126) (fr:=(0,0)) (m:=m) (o:=.slice oa rs.length oc) (f:=wMid m rs i) (s:=wsum m rs i) ?_ ?_ (wMid_at (by omega));(repeat (first | exact Sub.nil | refine Sub.cons (by repeat first | exact .head | apply Pick.tail) ?_));omega))
    exact WO.nil ⟨rfl,rfl⟩
   refine DT.r rfl rfl rfl (WO.p rfl rfl (WO.nil ⟨rfl,rfl⟩)) (DT.r rfl rfl rfl (WO.quo rfl rfl (by omega) (by (first | (unfold wts at hwi;unfold in64;omega))) rfl (WO.nil ⟨rfl,rfl⟩)) (DT.r rfl rfl rfl (WO.p rfl rfl (WO.nil ⟨rfl,rfl⟩)) (DT.r rfl rfl rfl (WO.fieldL rfl rfl rfl (WO.nil ⟨rfl,rfl⟩)) (DT.nil [_] rfl (WO.indexArrL (i:=i) (o':=2+i) rfl rfl rfl (by omega) (by omega) rfl (WO.store1 rfl rfl rfl rfl (by repeat exact .head) (sc_blt (by omega)) ?_))))))
   rw [sc_set (by omega),show (raw m rs i).tdiv (gcdR m rs)=wts m rs i from rfl,wMid_up (by omega)]
   refine WO.nil ?_
   refine W.drawD 10 [.r 0 [],.r 1 [],.r 2 [],.b 3 [],.r 4 [],.r 5 [],.r 6 [],.r 7 [],.r 8 [],.b 9 []] [] (A0:=[]) (Sub.refl _) (by kernel_rfl) ?_ ?_
   ·repeat constructor
   refine DT.r rfl rfl rfl (WO.p rfl rfl (WO.nil ⟨rfl,rfl⟩)) (DT.r rfl rfl rfl (WO.p rfl rfl (WO.nil ⟨rfl,rfl⟩)) (DT.r rfl rfl rfl (WO.fieldL rfl rfl rfl (WO.nil ⟨rfl,rfl⟩)) (DT.b rfl rfl rfl (WO.load rfl rfl (Cell.own Pick.head rfl) rfl (WO.nil ⟨rfl,rfl⟩)) (DT.r rfl rfl rfl (WO.p rfl rfl (WO.nil ⟨rfl,rfl⟩)) (DT.r rfl rfl rfl (WO.p rfl rfl (WO.nil ⟨rfl,rfl⟩)) (DT.r rfl rfl rfl (WO.p rfl rfl (WO.nil ⟨rfl,rfl⟩)) (DT.r rfl rfl rfl (WO.fieldL rfl rfl rfl (WO.nil ⟨rfl,rfl⟩)) (DT.r rfl rfl rfl (WO.indexArrL (i:=i) (o':=2+i) rfl rfl rfl (by omega) (by omega) rfl (WO.nil ⟨rfl,rfl⟩)) ?_))))))))
   refine' DT.b rfl rfl rfl ?hq ?_
   case hq =>
    refine' WO.load (v:=_) rfl rfl ?hc rfl ?_
    case hc=>(first | (refine sc_cellS (t:=126) (fr:=(0,0)) (m:=m) (o:=.slice oa rs.length oc) (f:=wMid m rs (i+1)) (s:=wsum m rs i) ?_ ?_ (wMid_at1 (by omega));(repeat (first | exact Sub.nil | refine Sub.cons (by repeat first | exact .head | apply Pick.tail) ?_));omega))
    exact WO.nil ⟨rfl,rfl⟩
   refine DT.nil [_] rfl (WO.ar rfl rfl rfl (by unfold in64;omega) rfl (WO.p rfl rfl (WO.fieldL rfl rfl rfl (WO.store1 rfl rfl rfl (by rfl) Pick.head rfl (WO.nil (W.region (WO.ar rfl rfl rfl (by unfold in64;omega) rfl (WO.p rfl rfl (WO.nil ?_)))))))))
   refine' ⟨i+1,?hp,?hmu,⟨rfl,rfl,rfl,rfl,trivial⟩,?hS⟩
   case hS=>repeat (first | exact Sub.nil | refine Sub.cons (by repeat exact .head) ?_)
   case hp=>omega
   case hmu=>omega
  ·refine W.exit (blk_same ?_)
   obtain rfl:i=rs.length:=by omega
   rw [sc_a5 wMid_n]
   refine W.sreg (WO.p rfl rfl (WO.p rfl rfl (WO.p rfl rfl (WO.nil (W.ret (fin.ret (Res.two rfl (RV.tmp rfl) (RV.tmp rfl)) ?_))))))
   exact ⟨_,by rw [hv.to],fun h hs=>Sub.sat (.cons .head .nil) (PtrP.yes .head h hs)⟩
end Go.Proofs.YthoeeeehfkenkaaGreat.Tr
namespace Go.Proofs.YthoeeeehfkenkaaGreat.Tr
open Go Go.TH
set_option maxRecDepth 10000
theorem sq (x z:Int):4*(x*z)≤(x+z)*(x+z):=by
 have:0≤(x-z)*(x-z):=by
  rcases Int.le_total 0 (x-z) with h | h
  ·exact Int.mul_nonneg h h
  ·have:=Int.mul_nonneg (a := -(x-z)) (b := -(x-z)) (by omega) (by omega)
   rwa [Int.neg_mul_neg] at this
 grind
theorem xyz {x y z:Int} (hx:1≤x) (hy:1≤y) (hz:1≤z) (h:x+y+z≤60):y*(x*z)≤8000:=by
 have h1:=sq x z
 have h2:(x+z)*(x+z)≤(60-y)*(60-y):=Int.mul_le_mul (by omega) (by omega) (by omega) (by omega)
 have h3:y*(4*(x*z))≤y*((60-y)*(60-y)):=Int.mul_le_mul_of_nonneg_left (by omega) (by omega)
 have h4:∀ n:Nat,n<60→((n:Int)*((60-(n:Int))*(60-(n:Int))))≤32000:=by decide
 have h5:=h4 y.toNat (by omega)
 rw [show (y.toNat:Int)=y by omega] at h5
 have h6:y*(4*(x*z))=4*(y*(x*z)):=by rw [Int.mul_left_comm]
 omega
theorem V4 {a b c d:Int} (h1:1≤b-a) (h2:1≤c-b) (h3:1≤d-c) (h:d-a≤60):1*(b-a)*(c-a)*(c-b)*(d-a)*(d-b)*(d-c)≤1670880000:=by
 obtain ⟨x,hx⟩:∃ x,x=b-a:=⟨_,rfl⟩
 obtain ⟨y,hy⟩:∃ x,x=c-b:=⟨_,rfl⟩
 obtain ⟨z,hz⟩:∃ x,x=d-c:=⟨_,rfl⟩
 have e:1*(b-a)*(c-a)*(c-b)*(d-a)*(d-b)*(d-c)=(y*(x*z))*(((x+y)*(y+z))*(x+y+z)):=by
  subst hx hy hz;grind
 rw [e]
 have k1:=xyz (x:=x) (y:=y) (z:=z) (by omega) (by omega) (by omega) (by omega)
 have k2:=sq (x+y) (y+z)
 have k3:(x+y+(y+z))*(x+y+(y+z))≤118*118:=Int.mul_le_mul (by omega) (by omega) (by omega) (by omega)
 have k4:(x+y)*(y+z)≤3481:=by omega
 have n0:0≤(x+y)*(y+z):=Int.mul_nonneg (by omega) (by omega)
 have k5:((x+y)*(y+z))*(x+y+z)≤3481*60:=Int.mul_le_mul k4 (by omega) (by omega) (by omega)
 have n1:0≤((x+y)*(y+z))*(x+y+z):=Int.mul_nonneg n0 (by omega)
 exact Int.mul_le_mul k1 k5 n1 (by omega)
theorem V3 {a b c:Int} (h1:1≤b-a) (h2:1≤c-b) (h:c-a≤60):1*(b-a)*(c-a)*(c-b)≤1670880000:=by
 have k1:(b-a)*(c-a)≤60*60:=Int.mul_le_mul (by omega) (by omega) (by omega) (by omega)
 have k0:0≤(b-a)*(c-a):=Int.mul_nonneg (by omega) (by omega)
 have k2:(b-a)*(c-a)*(c-b)≤3600*60:=Int.mul_le_mul k1 (by omega) (by omega) (by omega)
 rw [Int.one_mul]
 omega
section
variable {m:Int} {rs:List (Int × Int × Int)}
theorem ex20 (h:rs.length=2):exW rs 0=1:=by unfold exW;rw [h];rfl
theorem ex21 (h:rs.length=2):exW rs 1=1:=by unfold exW;rw [h];rfl
theorem ex30 (h:rs.length=3):exW rs 0=1*(tm rs 2-tm rs 1):=by unfold exW;rw [h];rfl
theorem ex31 (h:rs.length=3):exW rs 1=1*(tm rs 2-tm rs 0):=by unfold exW;rw [h];rfl
theorem ex32 (h:rs.length=3):exW rs 2=1*(tm rs 1-tm rs 0):=by unfold exW;rw [h];rfl
theorem ex40 (h:rs.length=4):exW rs 0=1*(tm rs 2-tm rs 1)*(tm rs 3-tm rs 1)*(tm rs 3-tm rs 2):=by unfold exW;rw [h];rfl
theorem ex41 (h:rs.length=4):exW rs 1=1*(tm rs 2-tm rs 0)*(tm rs 3-tm rs 0)*(tm rs 3-tm rs 2):=by unfold exW;rw [h];rfl
theorem ex42 (h:rs.length=4):exW rs 2=1*(tm rs 1-tm rs 0)*(tm rs 3-tm rs 0)*(tm rs 3-tm rs 1):=by unfold exW;rw [h];rfl
theorem ex43 (h:rs.length=4):exW rs 3=1*(tm rs 1-tm rs 0)*(tm rs 2-tm rs 0)*(tm rs 2-tm rs 1):=by unfold exW;rw [h];rfl
theorem ex50 (h:rs.length=5):exW rs 0=1*(tm rs 2-tm rs 1)*(tm rs 3-tm rs 1)*(tm rs 3-tm rs 2)*(tm rs 4-tm rs 1)*(tm rs 4-tm rs 2)*(tm rs 4-tm rs 3):=by unfold exW;rw [h];rfl
theorem ex51 (h:rs.length=5):exW rs 1=1*(tm rs 2-tm rs 0)*(tm rs 3-tm rs 0)*(tm rs 3-tm rs 2)*(tm rs 4-tm rs 0)*(tm rs 4-tm rs 2)*(tm rs 4-tm rs 3):=by unfold exW;rw [h];rfl
theorem ex52 (h:rs.length=5):exW rs 2=1*(tm rs 1-tm rs 0)*(tm rs 3-tm rs 0)*(tm rs 3-tm rs 1)*(tm rs 4-tm rs 0)*(tm rs 4-tm rs 1)*(tm rs 4-tm rs 3):=by unfold exW;rw [h];rfl
theorem ex53 (h:rs.length=5):exW rs 3=1*(tm rs 1-tm rs 0)*(tm rs 2-tm rs 0)*(tm rs 2-tm rs 1)*(tm rs 4-tm rs 0)*(tm rs 4-tm rs 1)*(tm rs 4-tm rs 2):=by unfold exW;rw [h];rfl
theorem ex54 (h:rs.length=5):exW rs 4=1*(tm rs 1-tm rs 0)*(tm rs 2-tm rs 0)*(tm rs 2-tm rs 1)*(tm rs 3-tm rs 0)*(tm rs 3-tm rs 1)*(tm rs 3-tm rs 2):=by unfold exW;rw [h];rfl
theorem exW_lt (hv:VT m rs) {i:Nat} (hi:i<rs.length):exW rs i≤1670880000:=by
 have hn:=hv.n
 have hl:=fun j k (hjk:j<k) (hk:k<rs.length)=>hv.lt hjk hk
 obtain h | h | h | h:rs.length=2∨rs.length=3∨rs.length=4∨rs.length=5:=by omega
 ·obtain rfl | rfl:i=0∨i=1:=by omega
  ·rw [ex20 h];omega
  ·rw [ex21 h];omega
 ·obtain rfl | rfl | rfl:i=0∨i=1∨i=2:=by omega
  ·rw [ex30 h];have:=hl 1 2 (by omega) (by omega);omega
  ·rw [ex31 h];have:=hl 0 2 (by omega) (by omega);omega
  ·rw [ex32 h];have:=hl 0 1 (by omega) (by omega);omega
 ·obtain rfl | rfl | rfl | rfl:i=0∨i=1∨i=2∨i=3:=by omega
  ·rw [ex40 h];exact V3 (hl 1 2 (by omega) (by omega)).1 (hl 2 3 (by omega) (by omega)).1 (hl 1 3 (by omega) (by omega)).2
  ·rw [ex41 h];exact V3 (hl 0 2 (by omega) (by omega)).1 (hl 2 3 (by omega) (by omega)).1 (hl 0 3 (by omega) (by omega)).2
  ·rw [ex42 h];exact V3 (hl 0 1 (by omega) (by omega)).1 (hl 1 3 (by omega) (by omega)).1 (hl 0 3 (by omega) (by omega)).2
  ·rw [ex43 h];exact V3 (hl 0 1 (by omega) (by omega)).1 (hl 1 2 (by omega) (by omega)).1 (hl 0 2 (by omega) (by omega)).2
 ·obtain rfl | rfl | rfl | rfl | rfl:i=0∨i=1∨i=2∨i=3∨i=4:=by omega
  ·rw [ex50 h];exact V4 (hl 1 2 (by omega) (by omega)).1 (hl 2 3 (by omega) (by omega)).1 (hl 3 4 (by omega) (by omega)).1 (hl 1 4 (by omega) (by omega)).2
  ·rw [ex51 h];exact V4 (hl 0 2 (by omega) (by omega)).1 (hl 2 3 (by omega) (by omega)).1 (hl 3 4 (by omega) (by omega)).1 (hl 0 4 (by omega) (by omega)).2
  ·rw [ex52 h];exact V4 (hl 0 1 (by omega) (by omega)).1 (hl 1 3 (by omega) (by omega)).1 (hl 3 4 (by omega) (by omega)).1 (hl 0 4 (by omega) (by omega)).2
  ·rw [ex53 h];exact V4 (hl 0 1 (by omega) (by omega)).1 (hl 1 2 (by omega) (by omega)).1 (hl 2 4 (by omega) (by omega)).1 (hl 0 4 (by omega) (by omega)).2
  ·rw [ex54 h];exact V4 (hl 0 1 (by omega) (by omega)).1 (hl 1 2 (by omega) (by omega)).1 (hl 2 3 (by omega) (by omega)).1 (hl 0 3 (by omega) (by omega)).2
theorem raw_lt (hv:VT m rs) {i:Nat} (hi:i<rs.length):1≤raw m rs i∧raw m rs i≤1670880000:=by
 have hn:=hv.n
 refine ⟨(raw_in hv hi).1,?_⟩
 unfold raw
 split
 ·omega
 split
 ·have h2:=pas_in (rs.length-1) (by omega) i (by omega)
  omega
 ·exact exW_lt hv hi
theorem gcd2_dvdL (a b:Int) (ha:0≤a):gcd2 a b∣a:=by
 obtain ⟨n,rfl⟩:=Int.eq_ofNat_of_zero_le ha
 exact Int.natCast_dvd_natCast.2 (Nat.gcd_dvd_left n b.toNat)
theorem gcd2_dvdR (a b:Int) (hb:0≤b):gcd2 a b∣b:=by
 obtain ⟨n,rfl⟩:=Int.eq_ofNat_of_zero_le hb
 exact Int.natCast_dvd_natCast.2 (Nat.gcd_dvd_right a.toNat n)
theorem gcdF_dvd:∀ (l:List Int) (d:Int),0≤d→(∀ x∈l,0≤x)→l.foldl gcd2 d∣d∧∀ x∈l,l.foldl gcd2 d∣x
 | [],d,_,_=>⟨Int.dvd_refl d,fun x hx=>by simp at hx⟩
 | y::l,d,hd,h=>by
  have ih:=gcdF_dvd l (gcd2 d y) (gcd2_nn d y) (fun x hx=>h x (by simp [hx]))
  have h1:=gcd2_dvdL d y hd
  have h2:=gcd2_dvdR d y (h y (by simp))
  refine ⟨Int.dvd_trans ih.1 h1,fun x hx=>?_⟩
  rcases List.mem_cons.1 hx with rfl | hx
  ·exact Int.dvd_trans ih.1 h2
  ·exact ih.2 x hx
theorem gcdR_dvd (hv:VT m rs) {i:Nat} (hi:i<rs.length):gcdR m rs∣raw m rs i :=
 (gcdF_dvd _ 0 (by omega) (raws_nn hv)).2 _ (List.mem_map.2 ⟨i,List.mem_range.2 hi,rfl⟩)
theorem wts_mul (hv:VT m rs) {i:Nat} (hi:i<rs.length):wts m rs i*gcdR m rs=raw m rs i:=by
 unfold wts
 exact Int.tdiv_mul_cancel (gcdR_dvd hv hi)
theorem wts_lt (hv:VT m rs) {i:Nat} (hi:i<rs.length):1≤wts m rs i∧wts m rs i≤1670880000:=by
 have h1:=raw_lt hv hi
 have h2:=gcdR_pos hv
 have h3:=wts_mul hv hi
 have h4:=(wts_in hv hi).1
 have h5:=Int.tdiv_le_self (a:=raw m rs i) (gcdR m rs) (by omega)
 have h6:wts m rs i≤raw m rs i:=h5
 refine ⟨?_,by omega⟩
 rcases Int.lt_or_le 0 (wts m rs i) with h | h
 ·omega
 ·have e:wts m rs i=0:=by omega
  rw [e,Int.zero_mul] at h3
  omega
theorem wsum_lt (hv:VT m rs):∀ {i:Nat},i≤rs.length→(i:Int)≤wsum m rs i∧wsum m rs i≤1670880000*i
 | 0,_=>by simp [wsum]
 | i+1,h=>by
  have h1:=wsum_lt hv (i:=i) (by omega)
  have h2:=wts_lt hv (i:=i) (by omega)
  have e:wsum m rs (i+1)=wsum m rs i+wts m rs i:=rfl
  omega
end
end Go.Proofs.YthoeeeehfkenkaaGreat.Tr
namespace Go.Proofs.YthoeeeehfkenkaaGreat.Tr
open Go Go.TH
attribute [local irreducible] W WO pt
set_option maxRecDepth 10000
set_option maxHeartbeats 1000000
theorem isSl_lit {a0:Option Addr} {n c:Nat} (h:n≤9223372036854775807) (h2:0<n→∃ b o,a0=some ⟨b,o,none⟩):IsSl (.slice a0 n c) n:=⟨h,a0,c,rfl,h2⟩
end Go.Proofs.YthoeeeehfkenkaaGreat.Tr
namespace Go.Proofs.YthoeeeehfkenkaaGreat.Tr
open Go Go.TH
attribute [local irreducible] W WO pt
set_option maxRecDepth 10000
set_option maxHeartbeats 1000000
def FnV (B:Nat) (wr:World) (f:Nat) (cap:List Value) (S:Int→Prop) (T:Int→Int):Prop :=
 ∀ w:World,B≤w.heap.size→(∀ k,k<B→w.heap[k]?=wr.heap[k]?)→∀ x,S x→Ret Tryz.prog f (([.int .i64 x]:List Value)++cap).toArray w (.int .i64 (T x))
theorem FnV.at_ {C:Cx Tryz.prog} {H:List HP} {L:List HP} {w:World} {f:Nat} {cap:List Value} {S:Int→Prop} {T:Int→Int} (hB:C.B=C.w0.heap.size) (h:FnV C.w0.heap.size C.w0 f cap S T) (hi:Inv C.w0 C.M (L++H) w) {x:Int} (hx:S x):Ret Tryz.prog f (([]:List Value)++[Value.int .i64 x]++cap).toArray w (.int .i64 (T x)):=by
 rw [List.nil_append]
 exact h w hi.size (by rw [← hB];exact hi.keepB) x hx
def msum (m:Int) (rs:List (Int × Int × Int)) (g:Int→Int):Nat→Int
 | 0=>0
 | i+1=>msum m rs g i+wts m rs i*g (i:Int)
theorem abs_mul {w g W G:Int} (hw:0≤w∧w≤W) (hg:ab g≤G) : -(W*G)≤w*g∧w*g≤W*G:=by
 have h0:0≤ab g:=ab_nn g
 have h1:w*ab g≤W*G:=Int.mul_le_mul hw.2 hg h0 (by omega)
 have h2:w*g≤w*ab g:=Int.mul_le_mul_of_nonneg_left (by unfold ab;omega) hw.1
 have h3:w*(-g)≤w*ab g:=Int.mul_le_mul_of_nonneg_left (by unfold ab;omega) hw.1
 rw [Int.mul_neg] at h3
 omega
section
variable {m:Int} {rs:List (Int × Int × Int)} {g:Int→Int}
theorem msum_in (hv:VT m rs) (hg:∀ i:Nat,i<rs.length→ab (g i)≤1000000000):∀ {i:Nat},i≤rs.length→ab (msum m rs g i)≤1670880000000000000*i
 | 0,_=>by simp [msum,ab]
 | i+1,h=>by
  have h1:=msum_in hv hg (i:=i) (by omega)
  have h2:=wts_lt hv (i:=i) (by omega)
  have h3:=abs_mul (W:=1670880000) ⟨by omega,h2.2⟩ (hg i (by omega))
  have e:msum m rs g (i+1)=msum m rs g i+wts m rs i*g (i:Int):=rfl
  unfold ab at *
  omega
end
theorem wTo_at {g:Nat→Int} {n i:Nat} (h:i<n):wTo g n i=g i:=by unfold wTo;rw [if_pos h]
theorem sc_cellP {C:Cx Tryz.prog} {H:List HP} {p:Addr} {i:Nat} {m:Int} {o:Value} {f:Nat→Int} {s x:Int} (hP:RdC C.B C.w0 p (sc m o f s)) (h:i<5) (e:f i=x):Cell C H ((prt p 2).add ((i:Int).toNat*1)) (.int .i64 x):=by
 subst e
 have:=hP.cellAt (H:=H) (sc_get (m:=m) (o:=o) (f:=f) (s:=s) h)
 rw [prt_eq] at this ⊢
 rwa [Int.toNat_natCast,Nat.mul_one,Addr.add_add]
theorem c_mean (w:World) (p:Addr) (m:Int) (o:Value) (rs:List (Int × Int × Int)) (f:Nat) (cap:List Value) (T:Int→Int) (hP:RdC w.heap.size w p (sc m o (wTo (wts m rs) rs.length) (wsum m rs rs.length))) (hR:RdF encR 3 w.heap.size w o rs) (hv:VT m rs)
 (hF:FnV w.heap.size w f cap (fun x=>0≤x∧x<rs.length) T) (hcall:∀ (args:Array Value) (w:World),(callFunc f args).run Tryz.prog w=.ok (.enter f args) w) (hg:∀ i:Nat,i<rs.length→ab (T i)≤1000000000) :
 Ret Tryz.prog 65 [.pointer (some p),.func (.func f) (([]:List Value).toArray) cap.toArray].toArray w (.agg (encP (red (msum m rs T rs.length) (wsum m rs rs.length))).toArray):=by
 refine Ret.of mixed tyTab Tryz.func65 rfl rfl ?_
 replace hR:RdF encR 3 (fnCx mixed tyTab Tryz.f65.ntmps w).B (fnCx mixed tyTab Tryz.f65.ntmps w).w0 o rs:=hR
 replace hP:RdC (fnCx mixed tyTab Tryz.f65.ntmps w).B (fnCx mixed tyTab Tryz.f65.ntmps w).w0 p (sc m o (wTo (wts m rs) rs.length) (wsum m rs rs.length)):=hP
 replace hF:FnV (fnCx mixed tyTab Tryz.f65.ntmps w).w0.heap.size (fnCx mixed tyTab Tryz.f65.ntmps w).w0 f cap (fun x=>0≤x∧x<rs.length) T:=hF
 have hn:=hv.n
 have hws:=wsum_lt hv (i:=rs.length) (Nat.le_refl _)
 refine W.sreg (WO.alloc rfl rfl rfl (fun b1 hb1=>(WO.nil (W.sreg (WO.p rfl rfl (WO.nil (W.seq (W.sreg (WO.p rfl rfl (WO.p rfl rfl (WO.field0 rfl rfl rfl (WO.field rfl rfl rfl ?_))))))))))))
 refine' WO.load (v:=_) rfl rfl ?hc rfl ?_
 case hc=>((refine hP.cellAt ?_;rfl))
 refine WO.len rfl rfl hR.sl rfl (WO.p rfl rfl (WO.nil (W.block ?_)))
 refine W.loop2 (fun (i:Nat) (c:Int)=>i≤rs.length∧c=msum m rs T i)
  (fun (i:Nat) (c:Int)=>[(13,.int .i64 (i:Int)),(12,.int .i64 (rs.length:Int)),(5,.int .i64 c),(4,.pointer (some ⟨b1,0,none⟩)),(0,.pointer (some p)),(1,.func (.func f) (([]:List Value).toArray) cap.toArray)])
  (fun (i:Nat) (c:Int)=>[pt b1 (.cells #[.int .i64 0,.int .i64 0] 39 (0,0))])
  (fun (i:Nat) (c:Int)=>rs.length-i) 0 0
  (by exact ⟨by omega,rfl⟩) ⟨rfl,rfl,rfl,rfl,rfl,rfl,trivial⟩ (by repeat (first | exact Sub.nil | refine Sub.cons (by repeat exact .head) ?_)) ?_
 rintro i c ⟨hi,hc⟩
 have hmi:=msum_in hv hg (i:=i) hi
 have hmi1:i<rs.length→ab (msum m rs T (i+1))≤1670880000000000000*((i+1:Nat):Int):=fun h=>msum_in hv hg (i:=i+1) (by omega)
 unfold ab at hmi hmi1
 refine W.sreg (WO.p rfl rfl (WO.nil (W.seq ?_)))
 refine W.cond_bl rfl (fun c1=>?_) (fun c1=>?_)
 ·refine W.skip (W.seq (W.block (W.sreg (WO.p rfl rfl (WO.p rfl rfl (WO.nil ?_))))))
  have hwl:=wts_lt hv (i:=i) (by omega)
  have hmul:=abs_mul (W:=1670880000) (w:=wts m rs i) ⟨by omega,hwl.2⟩ (hg i (by omega))
  have hms:msum m rs T (i+1)=msum m rs T i+wts m rs i*T (i:Int):=rfl
  have hmi2:=hmi1 (by omega)
  rw [hms] at hmi2
  clear hmi1
  refine W.drawD 11 [.r 0 [],.r 1 [],.r 2 [],.r 3 [],.r 4 [],.r 5 [],.b 6 [],.r 7 [],.r 8 [],.b 9 [],.r 10 []] [] (A0:=[]) (Sub.refl _) (by kernel_rfl) ?_ ?_
  ·repeat constructor
  refine DT.r rfl rfl rfl (WO.p rfl rfl (WO.nil ⟨rfl,rfl⟩)) (DT.r rfl rfl rfl (WO.p rfl rfl (WO.nil ⟨rfl,rfl⟩)) (DT.r rfl rfl rfl (WO.p rfl rfl (WO.nil ⟨rfl,rfl⟩)) (DT.r rfl rfl rfl (WO.p rfl rfl (WO.nil ⟨rfl,rfl⟩)) (DT.r rfl rfl rfl (WO.field rfl rfl rfl (WO.nil ⟨rfl,rfl⟩)) (DT.r rfl rfl rfl (WO.indexArr rfl rfl rfl (by omega) (by omega) rfl (WO.nil ⟨rfl,rfl⟩)) (DT.b rfl rfl rfl (WO.load (v:=_) rfl rfl (sc_cellP (i:=i) (x:=wts m rs i) hP (by omega) (wTo_at (by omega))) rfl (WO.nil ⟨rfl,rfl⟩)) (DT.r rfl rfl rfl (WO.p rfl rfl (WO.nil ⟨rfl,rfl⟩)) (DT.r rfl rfl rfl (WO.p rfl rfl (WO.nil ⟨rfl,rfl⟩)) ?_))))))))
  refine DT.b rfl rfl rfl (WO.callCR (first:=[]) (captured:=cap) rfl rfl hcall (fun L w hi=>hF.at_ (x:=(i:Int)) rfl hi ⟨by omega,by omega⟩) rfl (WO.nil ⟨rfl,rfl⟩)) (DT.r rfl rfl rfl (WO.ar rfl rfl rfl (by unfold in64;omega) rfl (WO.nil ⟨rfl,rfl⟩)) (DT.nil [_] rfl (WO.ar rfl rfl rfl (by unfold in64;omega) rfl (WO.p rfl rfl (WO.nil (W.region (WO.ar rfl rfl rfl (by unfold in64;omega) rfl (WO.p rfl rfl (WO.nil ?_)))))))))
  refine' ⟨i+1,_,?hp,?hmu,⟨rfl,rfl,rfl,rfl,rfl,rfl,trivial⟩,?hS⟩
  case hS=>repeat (first | exact Sub.nil | refine Sub.cons (by repeat exact .head) ?_)
  case hp=>exact ⟨by omega,by rw [hc];rfl⟩
  case hmu=>omega
 ·refine W.exit (blk_same ?_)
  obtain rfl:i=rs.length:=by omega
  subst hc
  refine W.sreg (WO.p rfl rfl (WO.p rfl rfl (WO.p rfl rfl (WO.field rfl rfl rfl ?_))))
  refine' WO.load (v:=_) rfl rfl ?hc rfl ?_
  case hc=>((refine hP.cellAt ?_;rfl))
  refine WO.callR rfl Tryz.call127 (fun L w hi=>c_fraction w _ _ (by unfold ab;omega) (by omega) (by unfold in64;omega)) rfl (WO.storeA rfl rfl rfl rfl Pick.head rfl rfl (WO.nil (W.ret ?_)))
  exact fin.ret (Res.one rfl (RV.cell rfl rfl rfl (Cells.own Pick.head))) rfl
end Go.Proofs.YthoeeeehfkenkaaGreat.Tr
namespace Go.TH
theorem Cap.agree {w w':World} {p:Addr} {v:Value} (h:Cap w p v) (hB:w.heap.size≤w'.heap.size) (hk:∀ k,k<w.heap.size→w'.heap[k]?=w.heap[k]?):Cap w' p v :=
 ⟨Nat.lt_of_lt_of_le h.lt hB,by rw [cell_agree hk h.lt];exact h.at_⟩
theorem RdF.cellAt2 {α:Type} {C:Cx Go.Proofs.Tryz.prog} {H:List HP} {enc:α→List Value} {sz:Nat} {v:Value} {xs:List α} (h:RdF enc sz C.B C.w0 v xs) {i:Nat} (h1:i<xs.length) (z:α) {a b:Nat} {u:Value} (hu:lget (enc (xs.getD i z)) (a+b)=some u):Cell C H (prt (prt (elt v i sz) a) b) u:=by
 have:=h.cellAt (H:=H) h1 z hu
 rw [prt_eq] at this
 rw [prt_eq,prt_eq,Addr.add_add];exact this
end Go.TH
namespace Go.Proofs.YthoeeeehfkenkaaGreat.Tr
open Go Go.TH
attribute [local irreducible] W WO pt
set_option maxRecDepth 10000
set_option maxHeartbeats 1000000
theorem c_lo (w:World) (q p:Addr) (m:Int) (o:Value) (rest:List Value) (rs:List (Int × Int × Int)) (x:Int) (hc:Cap w q (.pointer (some p))) (hP:RdC w.heap.size w p (.int .i64 m::o::rest)) (hR:RdF encR 3 w.heap.size w o rs) (hx:0≤x∧x<rs.length):Ret Tryz.prog 67 [.int .i64 x,.pointer (some q)].toArray w (.int .i64 (rs.getD x.toNat r0).2.1):=by
 refine Ret.of mixed tyTab Tryz.func67 rfl rfl ?_
 replace hR:RdF encR 3 (fnCx mixed tyTab Tryz.f67.ntmps w).B (fnCx mixed tyTab Tryz.f67.ntmps w).w0 o rs:=hR
 replace hc:Cap (fnCx mixed tyTab Tryz.f67.ntmps w).w0 q (.pointer (some p)):=hc
 replace hP:RdC (fnCx mixed tyTab Tryz.f67.ntmps w).B (fnCx mixed tyTab Tryz.f67.ntmps w).w0 p (.int .i64 m::o::rest):=hP
 refine W.sreg (WO.p rfl rfl (WO.nil (W.sreg ?_)))
 refine' WO.load (v:=_) rfl rfl ?hc rfl ?_
 case hc=>(refine Cap.cell (v:=.pointer (some p)) rfl hc)
 refine WO.p rfl rfl (WO.field0 rfl rfl rfl (WO.field rfl rfl rfl ?_))
 refine' WO.load (v:=_) rfl rfl ?hc rfl ?_
 case hc=>(first | (refine hP.cellAt ?_;rfl) | (refine hR.cellAt ?_ r0 ?_ <;> first | rfl | omega))
 refine WO.p rfl rfl ?_
 refine' WO.indexAddrZ (n:=_) rfl rfl rfl ?hs ?h00 ?h1 rfl ?_
 case hs=>exact hR.sl
 case h00=>omega
 case h1=>(omega)
 refine WO.field rfl rfl rfl (WO.field0 rfl rfl rfl ?_)
 refine' WO.load (v:=_) rfl rfl ?hc rfl ?_
 case hc=>(first | (refine hP.cellAt ?_;rfl) | (refine hR.cellAt ?_ r0 ?_ <;> first | rfl | omega))
 refine WO.p rfl rfl (WO.nil (W.ret ?_))
 exact fin.ret (Res.one rfl (RV.tmp rfl)) rfl
theorem c_hi (w:World) (q p:Addr) (m:Int) (o:Value) (rest:List Value) (rs:List (Int × Int × Int)) (x:Int) (hc:Cap w q (.pointer (some p))) (hP:RdC w.heap.size w p (.int .i64 m::o::rest)) (hR:RdF encR 3 w.heap.size w o rs) (hx:0≤x∧x<rs.length):Ret Tryz.prog 68 [.int .i64 x,.pointer (some q)].toArray w (.int .i64 (rs.getD x.toNat r0).2.2):=by
 refine Ret.of mixed tyTab Tryz.func68 rfl rfl ?_
 replace hR:RdF encR 3 (fnCx mixed tyTab Tryz.f68.ntmps w).B (fnCx mixed tyTab Tryz.f68.ntmps w).w0 o rs:=hR
 replace hc:Cap (fnCx mixed tyTab Tryz.f68.ntmps w).w0 q (.pointer (some p)):=hc
 replace hP:RdC (fnCx mixed tyTab Tryz.f68.ntmps w).B (fnCx mixed tyTab Tryz.f68.ntmps w).w0 p (.int .i64 m::o::rest):=hP
 refine W.sreg (WO.p rfl rfl (WO.nil (W.sreg ?_)))
 refine' WO.load (v:=_) rfl rfl ?hc rfl ?_
 case hc=>(refine Cap.cell (v:=.pointer (some p)) rfl hc)
 refine WO.p rfl rfl (WO.field0 rfl rfl rfl (WO.field rfl rfl rfl ?_))
 refine' WO.load (v:=_) rfl rfl ?hc rfl ?_
 case hc=>(first | (refine hP.cellAt ?_;rfl) | (refine RdF.cellAt2 hR ?_ r0 ?_ <;> first | rfl | omega))
 refine WO.p rfl rfl ?_
 refine' WO.indexAddrZ (n:=_) rfl rfl rfl ?hs ?h00 ?h1 rfl ?_
 case hs=>exact hR.sl
 case h00=>omega
 case h1=>(omega)
 refine WO.field rfl rfl rfl (WO.field rfl rfl rfl ?_)
 refine' WO.load (v:=_) rfl rfl ?hc rfl ?_
 case hc=>(first | (refine hP.cellAt ?_;rfl) | (refine RdF.cellAt2 hR ?_ r0 ?_ <;> first | rfl | omega))
 refine WO.p rfl rfl (WO.nil (W.ret ?_))
 exact fin.ret (Res.one rfl (RV.tmp rfl)) rfl
theorem fn_lo {w:World} {q p:Addr} {m:Int} {o:Value} {rest:List Value} {rs:List (Int × Int × Int)} (hc:Cap w q (.pointer (some p))) (hP:RdC w.heap.size w p (.int .i64 m::o::rest)) (hR:RdF encR 3 w.heap.size w o rs):FnV w.heap.size w 67 [.pointer (some q)] (fun x=>0≤x∧x<rs.length) (fun x=>(rs.getD x.toNat r0).2.1) :=
 fun w' hB hk x hx=>c_lo w' q p m o rest rs x (hc.agree hB hk) ((hP.agree hk).up hB) ((hR.agree hk).up hB) hx
theorem fn_hi {w:World} {q p:Addr} {m:Int} {o:Value} {rest:List Value} {rs:List (Int × Int × Int)} (hc:Cap w q (.pointer (some p))) (hP:RdC w.heap.size w p (.int .i64 m::o::rest)) (hR:RdF encR 3 w.heap.size w o rs):FnV w.heap.size w 68 [.pointer (some q)] (fun x=>0≤x∧x<rs.length) (fun x=>(rs.getD x.toNat r0).2.2) :=
 fun w' hB hk x hx=>c_hi w' q p m o rest rs x (hc.agree hB hk) ((hP.agree hk).up hB) ((hR.agree hk).up hB) hx
def pw (t:Int):Nat→Int
 | 0=>1
 | d+1=>pw t d*t
theorem pw_in {t:Int} (h:0≤t∧t≤60):∀ d,0≤pw t d∧pw t d≤60 ^ d
 | 0=>by simp [pw]
 | d+1=>by
  have ih:=pw_in h d
  have e:pw t (d+1)=pw t d*t:=rfl
  rw [e,Int.pow_succ]
  exact ⟨Int.mul_nonneg ih.1 h.1,Int.mul_le_mul ih.2 h.2 h.1 (by omega)⟩
theorem pw_B {t:Int} (h:0≤t∧t≤60) {d:Nat} (hd:d≤5):0≤pw t d∧pw t d≤777600000:=by
 have h1:=pw_in h d
 have h2:=(by decide:∀ d:Nat,d≤5→(60:Int) ^ d≤777600000) d hd
 omega
theorem c_power (w:World) (p:Addr) (d:Nat) (t:Int) (hc:Cap w p (.int .i64 (d:Int))) (hd:d≤5) (ht:0≤t∧t≤60):Ret Tryz.prog 22 [.int .i64 t,.pointer (some p)].toArray w (.int .i64 (pw t d)):=by
 refine Ret.of mixed tyTab Tryz.func22 rfl rfl ?_
 replace hc:Cap (fnCx mixed tyTab Tryz.f22.ntmps w).w0 p (.int .i64 (d:Int)):=hc
 refine W.sreg (WO.p rfl rfl (WO.nil (W.sreg (WO.p rfl rfl (WO.nil (W.seq (W.sreg ?_)))))))
 refine' WO.load (v:=_) rfl rfl ?hc rfl ?_
 case hc=>(refine Cap.cell (v:=.int .i64 (d:Int)) rfl hc)
 refine WO.p rfl rfl (WO.nil (W.block ?_))
 refine W.loop2 (fun (k:Nat) (c:Int)=>k≤d∧c=pw t k)
  (fun (k:Nat) (c:Int)=>[(6,.int .i64 (k:Int)),(5,.int .i64 (d:Int)),(4,.int .i64 c),(0,.int .i64 t)])
  (fun (k:Nat) (c:Int)=>[])
  (fun (k:Nat) (c:Int)=>d-k) 0 1
  (by exact ⟨by omega,rfl⟩) ⟨rfl,rfl,rfl,rfl,trivial⟩ (by repeat (first | exact Sub.nil | refine Sub.cons (by repeat first | exact .head | apply Pick.tail) ?_)) ?_
 rintro k c ⟨hk,hcc⟩
 subst hcc
 refine W.sreg (WO.p rfl rfl (WO.nil (W.seq ?_)))
 refine W.cond_bl rfl (fun c1=>?_) (fun c1=>?_)
 ·refine W.skip (W.seq (W.block ?_))
  have hp1:=pw_B ht (d:=k+1) (by omega)
  have hpe:pw t (k+1)=pw t k*t:=rfl
  refine W.region (WO.p rfl rfl (WO.p rfl rfl (WO.ar rfl rfl rfl (by unfold in64;omega) rfl (WO.p rfl rfl (WO.nil (W.region (WO.ar rfl rfl rfl (by unfold in64;omega) rfl (WO.p rfl rfl (WO.nil ?_)))))))))
  refine' ⟨k+1,_,?hp,?hmu,⟨rfl,rfl,rfl,rfl,trivial⟩,?hS⟩
  case hS=>repeat (first | exact Sub.nil | refine Sub.cons (by repeat first | exact .head | apply Pick.tail) ?_)
  case hp=>exact ⟨by omega,rfl⟩
  case hmu=>omega
 ·refine W.exit (blk_same (W.sreg (WO.p rfl rfl (WO.p rfl rfl (WO.nil (W.ret ?_))))))
  obtain rfl:k=d:=by omega
  exact fin.ret (Res.one rfl (RV.tmp rfl)) (by rfl)
theorem fn_power {w:World} {p:Addr} {d:Nat} (hc:Cap w p (.int .i64 (d:Int))) (hd:d≤5):FnV w.heap.size w 22 [.pointer (some p)] (fun t=>0≤t∧t≤60) (fun t=>pw t d) :=
 fun w' hB hk t ht=>c_power w' p d t (hc.agree hB hk) hd ht
end Go.Proofs.YthoeeeehfkenkaaGreat.Tr
namespace Go.Proofs.YthoeeeehfkenkaaGreat.Tr
open Go Go.TH
attribute [local irreducible] W WO pt
set_option maxRecDepth 10000
set_option maxHeartbeats 1000000
def hB (xs:List Int) (t:Int):Nat→Int
 | 0=>0
 | q+1=>hB xs t q*t+xs.getD ((xs.length:Int)-1-q).toNat 0
end Go.Proofs.YthoeeeehfkenkaaGreat.Tr
namespace Go.Proofs.YthoeeeehfkenkaaGreat.Tr
open Go Go.TH
attribute [local irreducible] W WO pt
set_option maxRecDepth 10000
set_option maxHeartbeats 1000000
theorem FnV.later {C:Cx Tryz.prog} {H:List HP} {L:List HP} {w:World} {f:Nat} {cap:List Value} {S:Int→Prop} {T:Int→Int} (hB:C.B=C.w0.heap.size) (h:FnV C.w0.heap.size C.w0 f cap S T) (hi:Inv C.w0 C.M (L++H) w):FnV w.heap.size w f cap S T:=fun w' hB' hk x hx =>
 h w' (Nat.le_trans hi.size hB') (fun k hlt=>by rw [hk k (Nat.lt_of_lt_of_le hlt hi.size)];exact hi.keepB k (by rw [hB];exact hlt)) x hx
def offT (rs:List (Int × Int × Int)) (T:Int→Int) (x:Int):Int:=if x.tmod 2=1 then -(T (tm rs x.toNat)) else T (tm rs x.toNat)
theorem c_off1 (w:World) (q1 q2 p:Addr) (m:Int) (o:Value) (rest:List Value) (rs:List (Int × Int × Int)) (f:Nat) (cap:List Value) (T:Int→Int) (x:Int) (hc1:Cap w q1 (.func (.func f) (([]:List Value).toArray) cap.toArray)) (hc2:Cap w q2 (.pointer (some p))) (hP:RdC w.heap.size w p (.int .i64 m::o::rest)) (hR:RdF encR 3 w.heap.size w o rs) (hv:VT m rs)
 (hF:FnV w.heap.size w f cap (fun t=>0≤t∧t≤60) T) (hcall:∀ (args:Array Value) (w:World),(callFunc f args).run Tryz.prog w=.ok (.enter f args) w) (hT:∀ i:Nat,i<rs.length→ab (T (tm rs i))≤1000000000) (hx:0≤x∧x<rs.length) :
 Ret Tryz.prog 66 [.int .i64 x,.pointer (some q1),.pointer (some q2)].toArray w (.int .i64 (offT rs T x)):=by
 refine Ret.of mixed tyTab Tryz.func66 rfl rfl ?_
 replace hR:RdF encR 3 (fnCx mixed tyTab Tryz.f66.ntmps w).B (fnCx mixed tyTab Tryz.f66.ntmps w).w0 o rs:=hR
 replace hc1:Cap (fnCx mixed tyTab Tryz.f66.ntmps w).w0 q1 (.func (.func f) (([]:List Value).toArray) cap.toArray):=hc1
 replace hc2:Cap (fnCx mixed tyTab Tryz.f66.ntmps w).w0 q2 (.pointer (some p)):=hc2
 replace hP:RdC (fnCx mixed tyTab Tryz.f66.ntmps w).B (fnCx mixed tyTab Tryz.f66.ntmps w).w0 p (.int .i64 m::o::rest):=hP
 replace hF:FnV (fnCx mixed tyTab Tryz.f66.ntmps w).w0.heap.size (fnCx mixed tyTab Tryz.f66.ntmps w).w0 f cap (fun t=>0≤t∧t≤60) T:=hF
 have hrun:=hv.run (i:=x.toNat) (by omega)
 have hTx:=hT x.toNat (by omega)
 unfold ab at hTx
 refine W.sreg (WO.p rfl rfl (WO.nil (W.seq ?_)))
 refine W.drawD 10 [.b 0 [],.b 1 [],.r 2 [],.r 3 [],.r 4 [],.b 5 [],.r 6 [],.r 7 [],.r 8 [],.b 9 []] [] (A0:=[]) (Sub.refl _) (by kernel_rfl) ?_ ?_
 ·repeat constructor
 refine' DT.b rfl rfl rfl ?hq ?_
 case hq =>
  refine' WO.load (v:=_) rfl rfl ?hc rfl ?_
  case hc=>(refine Cap.cell (v:=.func (.func f) (([]:List Value).toArray) cap.toArray) rfl hc1)
  exact WO.nil ⟨rfl,rfl⟩
 refine' DT.b rfl rfl rfl ?hq ?_
 case hq =>
  refine' WO.load (v:=_) rfl rfl ?hc rfl ?_
  case hc=>(refine Cap.cell (v:=.pointer (some p)) rfl hc2)
  exact WO.nil ⟨rfl,rfl⟩
 refine DT.r rfl rfl rfl (WO.p rfl rfl (WO.nil ⟨rfl,rfl⟩)) (DT.r rfl rfl rfl (WO.field0 rfl rfl rfl (WO.nil ⟨rfl,rfl⟩)) (DT.r rfl rfl rfl (WO.field rfl rfl rfl (WO.nil ⟨rfl,rfl⟩)) ?_))
 refine' DT.b rfl rfl rfl ?hq ?_
 case hq =>
  refine' WO.load (v:=_) rfl rfl ?hc rfl ?_
  case hc=>(first | (refine hP.cellAt ?_;rfl) | (refine hR.cell0 ?_ r0 ?_ <;> first | rfl | omega))
  exact WO.nil ⟨rfl,rfl⟩
 refine DT.r rfl rfl rfl (WO.p rfl rfl (WO.nil ⟨rfl,rfl⟩)) ?_
 refine' DT.r rfl rfl rfl ?hq ?_
 case hq =>
  refine' WO.indexAddrZ (n:=_) rfl rfl rfl ?hs ?h00 ?h1 rfl ?_
  case hs=>exact hR.sl
  case h00=>omega
  case h1=>(omega)
  exact WO.nil ⟨rfl,rfl⟩
 refine DT.r rfl rfl rfl (WO.field0 rfl rfl rfl (WO.nil ⟨rfl,rfl⟩)) ?_
 refine' DT.b rfl rfl rfl ?hq ?_
 case hq =>
  refine' WO.load (v:=_) rfl rfl ?hc rfl ?_
  case hc=>(first | (refine hP.cellAt ?_;rfl) | (refine hR.cell0 ?_ r0 ?_ <;> first | rfl | omega))
  exact WO.nil ⟨rfl,rfl⟩
 refine DT.nil [] rfl (WO.callCR (first:=[]) (captured:=cap) (r:=.int .i64 (T (tm rs x.toNat))) rfl rfl hcall (fun L w hi=>hF.at_ (x:=tm rs x.toNat) rfl hi ⟨by omega,by omega⟩) rfl (WO.p rfl rfl (WO.nil (W.seq (W.sreg (WO.p rfl rfl (WO.rem rfl rfl (by omega) rfl (WO.p rfl rfl (WO.nil ?_)))))))))
 refine W.cond_bl rfl (fun c1=>?_) (fun c1=>?_)
 ·refine W.sreg (WO.p rfl rfl (WO.neg rfl (by unfold in64;omega) rfl (WO.p rfl rfl (WO.nil (W.ret (fin.ret (Res.one rfl (RV.tmp rfl)) (congrArg (Value.int .i64) ?_)))))))
  unfold offT
  rw [if_pos (by assumption)]
 ·refine W.skip (W.sreg (WO.p rfl rfl (WO.p rfl rfl (WO.nil (W.ret (fin.ret (Res.one rfl (RV.tmp rfl)) (congrArg (Value.int .i64) ?_)))))))
  unfold offT
  rw [if_neg (by assumption)]
theorem fn_off1 {w:World} {q1 q2 p:Addr} {m:Int} {o:Value} {rest:List Value} {rs:List (Int × Int × Int)} {f:Nat} {cap:List Value} {T:Int→Int} (hc1:Cap w q1 (.func (.func f) (([]:List Value).toArray) cap.toArray)) (hc2:Cap w q2 (.pointer (some p))) (hP:RdC w.heap.size w p (.int .i64 m::o::rest)) (hR:RdF encR 3 w.heap.size w o rs) (hv:VT m rs)
 (hF:FnV w.heap.size w f cap (fun t=>0≤t∧t≤60) T) (hcall:∀ (args:Array Value) (w:World),(callFunc f args).run Tryz.prog w=.ok (.enter f args) w) (hT:∀ i:Nat,i<rs.length→ab (T (tm rs i))≤1000000000) :
 FnV w.heap.size w 66 [.pointer (some q1),.pointer (some q2)] (fun x=>0≤x∧x<rs.length) (offT rs T):=fun w' hB hk x hx =>
 c_off1 w' q1 q2 p m o rest rs f cap T x (hc1.agree hB hk) (hc2.agree hB hk) ((hP.agree hk).up hB) ((hR.agree hk).up hB) hv (fun w'' hB' hk'=>hF w'' (Nat.le_trans hB hB') (fun k hlt=>by rw [hk' k (Nat.lt_of_lt_of_le hlt hB),hk k hlt])) hcall hT hx
theorem offT_ab {rs:List (Int × Int × Int)} {T:Int→Int} (hT:∀ i:Nat,i<rs.length→ab (T (tm rs i))≤1000000000):∀ i:Nat,i<rs.length→ab (offT rs T i)≤1000000000:=by
 intro i hi
 have:=hT i hi
 unfold offT
 rw [Int.toNat_natCast]
 split
 ·unfold ab at *;omega
 ·exact this
theorem c_off (w:World) (p:Addr) (m:Int) (o:Value) (rs:List (Int × Int × Int)) (f:Nat) (cap:List Value) (T:Int→Int) (hP:RdC w.heap.size w p (sc m o (wTo (wts m rs) rs.length) (wsum m rs rs.length))) (hR:RdF encR 3 w.heap.size w o rs) (hv:VT m rs)
 (hF:FnV w.heap.size w f cap (fun t=>0≤t∧t≤60) T) (hcall:∀ (args:Array Value) (w:World),(callFunc f args).run Tryz.prog w=.ok (.enter f args) w) (hT:∀ i:Nat,i<rs.length→ab (T (tm rs i))≤1000000000) :
 Ret Tryz.prog 23 [.pointer (some p),.func (.func f) (([]:List Value).toArray) cap.toArray].toArray w (.agg (encP (red (msum m rs (offT rs T) rs.length) (wsum m rs rs.length))).toArray):=by
 refine Ret.of mixed tyTab Tryz.func23 rfl rfl ?_
 replace hR:RdF encR 3 (fnCx mixed tyTab Tryz.f23.ntmps w).B (fnCx mixed tyTab Tryz.f23.ntmps w).w0 o rs:=hR
 replace hP:RdC (fnCx mixed tyTab Tryz.f23.ntmps w).B (fnCx mixed tyTab Tryz.f23.ntmps w).w0 p (sc m o (wTo (wts m rs) rs.length) (wsum m rs rs.length)):=hP
 replace hF:FnV (fnCx mixed tyTab Tryz.f23.ntmps w).w0.heap.size (fnCx mixed tyTab Tryz.f23.ntmps w).w0 f cap (fun t=>0≤t∧t≤60) T:=hF
 refine W.sreg (WO.box1 rfl (by rfl) rfl (fun b1 hb1=>(WO.box1 rfl (by rfl) rfl (fun b2 hb2=>(WO.alloc rfl rfl rfl (fun b3 hb3=>(WO.nil (W.sreg (WO.load rfl rfl (Cell.own (Pick.tail (Pick.tail (Pick.head))) rfl) rfl (WO.p rfl rfl (WO.callR rfl Tryz.call65 (fun L w hi=>c_mean w p m o rs _ [.pointer (some ⟨b2,0,none⟩),.pointer (some ⟨b1,0,none⟩)] (offT rs T) (hP.later hi) (hR.later hi) hv (fn_off1 (Cap.of (by repeat first | exact .head | apply Pick.tail) rfl hi) (Cap.of (by repeat first | exact .head | apply Pick.tail) rfl hi) (hP.later hi) (hR.later hi) hv (hF.later rfl hi) hcall hT) Tryz.call66 (offT_ab hT)) rfl ?_)))))))))))
 refine WO.storeA rfl rfl rfl rfl Pick.head rfl rfl (WO.nil (W.ret ?_))
 exact fin.ret (Res.one rfl (RV.cell rfl rfl rfl (Cells.own Pick.head))) rfl
def loT (rs:List (Int × Int × Int)) (x:Int):Int:=(rs.getD x.toNat r0).2.1
def hiT (rs:List (Int × Int × Int)) (x:Int):Int:=(rs.getD x.toNat r0).2.2
theorem loT_ab {m:Int} {rs:List (Int × Int × Int)} (hv:VT m rs):∀ i:Nat,i<rs.length→ab (loT rs i)≤1000000000:=fun i hi=>by
 have:=hv.run hi
 unfold loT ab
 rw [Int.toNat_natCast];omega
theorem hiT_ab {m:Int} {rs:List (Int × Int × Int)} (hv:VT m rs):∀ i:Nat,i<rs.length→ab (hiT rs i)≤1000000000:=fun i hi=>by
 have:=hv.run hi
 unfold hiT ab
 rw [Int.toNat_natCast];omega
def meanQ (m:Int) (rs:List (Int × Int × Int)) (g:Int→Int):Int × Int:=red (msum m rs g rs.length) (wsum m rs rs.length)
theorem c_span (w:World) (p:Addr) (m:Int) (o:Value) (rs:List (Int × Int × Int)) (hP:RdC w.heap.size w p (sc m o (wTo (wts m rs) rs.length) (wsum m rs rs.length))) (hR:RdF encR 3 w.heap.size w o rs) (hv:VT m rs) :
 Ret Tryz.prog 24 [.pointer (some p)].toArray w (.agg (encP (meanQ m rs (loT rs))++encP (meanQ m rs (hiT rs))).toArray):=by
 refine Ret.of mixed tyTab Tryz.func24 rfl rfl ?_
 replace hR:RdF encR 3 (fnCx mixed tyTab Tryz.f24.ntmps w).B (fnCx mixed tyTab Tryz.f24.ntmps w).w0 o rs:=hR
 replace hP:RdC (fnCx mixed tyTab Tryz.f24.ntmps w).B (fnCx mixed tyTab Tryz.f24.ntmps w).w0 p (sc m o (wTo (wts m rs) rs.length) (wsum m rs rs.length)):=hP
 refine W.sreg (WO.box1 rfl (by rfl) rfl (fun b1 hb1=>(WO.alloc rfl rfl rfl (fun b2 hb2=>(WO.nil (W.sreg (WO.load rfl rfl (Cell.own (Pick.tail (Pick.head)) rfl) rfl (WO.p rfl rfl (WO.p rfl rfl (WO.nil (W.sreg (WO.p rfl rfl (WO.p rfl rfl (WO.callCR (first:=[.pointer (some p)]) (captured:=[]) rfl rfl Tryz.call65 (fun L w hi=>c_mean w p m o rs _ [.pointer (some ⟨b1,0,none⟩)] (loT rs) (hP.later hi) (hR.later hi) hv (fn_lo (Cap.of (by repeat first | exact .head | apply Pick.tail) rfl hi) (hP.later hi) (hR.later hi)) Tryz.call67 (loT_ab hv)) rfl (WO.p rfl rfl (WO.p rfl rfl ?_))))))))))))))))
 refine WO.callCR (first:=[.pointer (some p)]) (captured:=[]) rfl rfl Tryz.call65 (fun L w hi=>c_mean w p m o rs _ [.pointer (some ⟨b1,0,none⟩)] (hiT rs) (hP.later hi) (hR.later hi) hv (fn_hi (Cap.of (by repeat first | exact .head | apply Pick.tail) rfl hi) (hP.later hi) (hR.later hi)) Tryz.call68 (hiT_ab hv)) rfl (WO.build rfl rfl rfl rfl rfl (WO.storeA rfl rfl rfl rfl Pick.head rfl rfl (WO.nil (W.ret ?_))))
 exact fin.ret (Res.one rfl (RV.cell rfl rfl rfl (Cells.own Pick.head))) rfl
end Go.Proofs.YthoeeeehfkenkaaGreat.Tr
namespace Go.Proofs.YthoeeeehfkenkaaGreat.Tr
open Go Go.TH
set_option maxRecDepth 10000
theorem offT_0 (rs:List (Int × Int × Int)) (T:Int→Int):offT rs T ((0:Nat):Int)=T (tm rs 0):=rfl
theorem offT_1 (rs:List (Int × Int × Int)) (T:Int→Int):offT rs T ((1:Nat):Int) = -(T (tm rs 1)):=rfl
theorem offT_2 (rs:List (Int × Int × Int)) (T:Int→Int):offT rs T ((2:Nat):Int)=T (tm rs 2):=rfl
theorem offT_3 (rs:List (Int × Int × Int)) (T:Int→Int):offT rs T ((3:Nat):Int) = -(T (tm rs 3)):=rfl
theorem offT_4 (rs:List (Int × Int × Int)) (T:Int→Int):offT rs T ((4:Nat):Int)=T (tm rs 4):=rfl
section
variable (m:Int) (rs:List (Int × Int × Int)) (T:Int→Int)
theorem off_2:msum m rs (offT rs T) 2=wts m rs 0*T (tm rs 0)-wts m rs 1*T (tm rs 1):=by
 show ((0+wts m rs 0*offT rs T ((0:Nat):Int))+wts m rs 1*offT rs T ((1:Nat):Int))=_
 rw [offT_0,offT_1]
 simp only [Int.mul_neg]
 omega
theorem off_3:msum m rs (offT rs T) 3=wts m rs 0*T (tm rs 0)-wts m rs 1*T (tm rs 1)+wts m rs 2*T (tm rs 2):=by
 show (((0+wts m rs 0*offT rs T ((0:Nat):Int))+wts m rs 1*offT rs T ((1:Nat):Int))+wts m rs 2*offT rs T ((2:Nat):Int))=_
 rw [offT_0,offT_1,offT_2]
 simp only [Int.mul_neg]
 omega
theorem off_4:msum m rs (offT rs T) 4=wts m rs 0*T (tm rs 0)-wts m rs 1*T (tm rs 1)+wts m rs 2*T (tm rs 2)-wts m rs 3*T (tm rs 3):=by
 show ((((0+wts m rs 0*offT rs T ((0:Nat):Int))+wts m rs 1*offT rs T ((1:Nat):Int))+wts m rs 2*offT rs T ((2:Nat):Int))+wts m rs 3*offT rs T ((3:Nat):Int))=_
 rw [offT_0,offT_1,offT_2,offT_3]
 simp only [Int.mul_neg]
 omega
theorem off_5:msum m rs (offT rs T) 5=wts m rs 0*T (tm rs 0)-wts m rs 1*T (tm rs 1)+wts m rs 2*T (tm rs 2)-wts m rs 3*T (tm rs 3)+wts m rs 4*T (tm rs 4):=by
 show (((((0+wts m rs 0*offT rs T ((0:Nat):Int))+wts m rs 1*offT rs T ((1:Nat):Int))+wts m rs 2*offT rs T ((2:Nat):Int))+wts m rs 3*offT rs T ((3:Nat):Int))+wts m rs 4*offT rs T ((4:Nat):Int))=_
 rw [offT_0,offT_1,offT_2,offT_3,offT_4]
 simp only [Int.mul_neg]
 omega
end
theorem all2 (w0 w1 a b:Int):w0*((a-b))=0+(1)*(w0*(1*a)-w1*(1*b))-(b)*(w0*(1)-w1*(1)):=by grind
theorem all3 (w0 w1 w2 a b c:Int):w0*((a-b)*(a-c))=0+(1)*(w0*(1*a*a)-w1*(1*b*b)+w2*(1*c*c))-(b+c)*(w0*(1*a)-w1*(1*b)+w2*(1*c))+(b*c)*(w0*(1)-w1*(1)+w2*(1)):=by grind
theorem all4 (w0 w1 w2 w3 a b c d:Int):w0*((a-b)*(a-c)*(a-d))=0+(1)*(w0*(1*a*a*a)-w1*(1*b*b*b)+w2*(1*c*c*c)-w3*(1*d*d*d))-(b+c+d)*(w0*(1*a*a)-w1*(1*b*b)+w2*(1*c*c)-w3*(1*d*d))+(b*c+b*d+c*d)*(w0*(1*a)-w1*(1*b)+w2*(1*c)-w3*(1*d))-(b*c*d)*(w0*(1)-w1*(1)+w2*(1)-w3*(1)):=by grind
theorem all5 (w0 w1 w2 w3 w4 a b c d e:Int):w0*((a-b)*(a-c)*(a-d)*(a-e))=0+(1)*(w0*(1*a*a*a*a)-w1*(1*b*b*b*b)+w2*(1*c*c*c*c)-w3*(1*d*d*d*d)+w4*(1*e*e*e*e))-(b+c+d+e)*(w0*(1*a*a*a)-w1*(1*b*b*b)+w2*(1*c*c*c)-w3*(1*d*d*d)+w4*(1*e*e*e))+(b*c+b*d+b*e+c*d+c*e+d*e)*(w0*(1*a*a)-w1*(1*b*b)+w2*(1*c*c)-w3*(1*d*d)+w4*(1*e*e))-(b*c*d+b*c*e+b*d*e+c*d*e)*(w0*(1*a)-w1*(1*b)+w2*(1*c)-w3*(1*d)+w4*(1*e))+(b*c*d*e)*(w0*(1)-w1*(1)+w2*(1)-w3*(1)+w4*(1)):=by grind
section
variable {m:Int} {rs:List (Int × Int × Int)}
theorem ne_mul {a b:Int} (ha:a≠0) (hb:b≠0):a*b≠0:=Int.mul_ne_zero ha hb
theorem off_some (hv:VT m rs):∃ d,d<rs.length∧msum m rs (offT rs (fun t=>pw t d)) rs.length≠0:=by
 have hn:=hv.n
 have hl:=fun k (h0:0<k) (hk:k<rs.length)=>(hv.lt (j:=0) h0 hk).1
 have hw:=(wts_lt hv (i:=0) (by omega)).1
 refine Decidable.byContradiction fun hc=>?_
 have h0:∀ d,d<rs.length→msum m rs (offT rs (fun t=>pw t d)) rs.length=0:=fun d hd=>Decidable.byContradiction fun h=>hc ⟨d,hd,h⟩
 clear hc
 obtain h | h | h | h:rs.length=2∨rs.length=3∨rs.length=4∨rs.length=5:=by omega
 ·rw [h] at h0 hl
  have s0:=h0 0 (by omega)
  have s1:=h0 1 (by omega)
  rw [off_2] at s0
  rw [off_2] at s1
  simp only [pw] at s0 s1
  have l1:=hl 1 (by omega) (by omega)
  have e:=all2 (wts m rs 0) (wts m rs 1) (tm rs 0) (tm rs 1)
  rw [s1,s0] at e
  simp only [Int.mul_zero,Int.add_zero,Int.sub_zero] at e
  exact ne_mul (show wts m rs 0≠0 by omega) (show tm rs 0-tm rs 1≠0 by omega) e
 ·rw [h] at h0 hl
  have s0:=h0 0 (by omega)
  have s1:=h0 1 (by omega)
  have s2:=h0 2 (by omega)
  rw [off_3] at s0
  rw [off_3] at s1
  rw [off_3] at s2
  simp only [pw] at s0 s1 s2
  have l1:=hl 1 (by omega) (by omega)
  have l2:=hl 2 (by omega) (by omega)
  have e:=all3 (wts m rs 0) (wts m rs 1) (wts m rs 2) (tm rs 0) (tm rs 1) (tm rs 2)
  rw [s2,s1,s0] at e
  simp only [Int.mul_zero,Int.add_zero,Int.sub_zero] at e
  exact ne_mul (show wts m rs 0≠0 by omega) (ne_mul (show tm rs 0-tm rs 1≠0 by omega) (show tm rs 0-tm rs 2≠0 by omega)) e
 ·rw [h] at h0 hl
  have s0:=h0 0 (by omega)
  have s1:=h0 1 (by omega)
  have s2:=h0 2 (by omega)
  have s3:=h0 3 (by omega)
  rw [off_4] at s0
  rw [off_4] at s1
  rw [off_4] at s2
  rw [off_4] at s3
  simp only [pw] at s0 s1 s2 s3
  have l1:=hl 1 (by omega) (by omega)
  have l2:=hl 2 (by omega) (by omega)
  have l3:=hl 3 (by omega) (by omega)
  have e:=all4 (wts m rs 0) (wts m rs 1) (wts m rs 2) (wts m rs 3) (tm rs 0) (tm rs 1) (tm rs 2) (tm rs 3)
  rw [s3,s2,s1,s0] at e
  simp only [Int.mul_zero,Int.add_zero,Int.sub_zero] at e
  exact ne_mul (show wts m rs 0≠0 by omega) (ne_mul (ne_mul (show tm rs 0-tm rs 1≠0 by omega) (show tm rs 0-tm rs 2≠0 by omega)) (show tm rs 0-tm rs 3≠0 by omega)) e
 ·rw [h] at h0 hl
  have s0:=h0 0 (by omega)
  have s1:=h0 1 (by omega)
  have s2:=h0 2 (by omega)
  have s3:=h0 3 (by omega)
  have s4:=h0 4 (by omega)
  rw [off_5] at s0
  rw [off_5] at s1
  rw [off_5] at s2
  rw [off_5] at s3
  rw [off_5] at s4
  simp only [pw] at s0 s1 s2 s3 s4
  have l1:=hl 1 (by omega) (by omega)
  have l2:=hl 2 (by omega) (by omega)
  have l3:=hl 3 (by omega) (by omega)
  have l4:=hl 4 (by omega) (by omega)
  have e:=all5 (wts m rs 0) (wts m rs 1) (wts m rs 2) (wts m rs 3) (wts m rs 4) (tm rs 0) (tm rs 1) (tm rs 2) (tm rs 3) (tm rs 4)
  rw [s4,s3,s2,s1,s0] at e
  simp only [Int.mul_zero,Int.add_zero,Int.sub_zero] at e
  exact ne_mul (show wts m rs 0≠0 by omega) (ne_mul (ne_mul (ne_mul (show tm rs 0-tm rs 1≠0 by omega) (show tm rs 0-tm rs 2≠0 by omega)) (show tm rs 0-tm rs 3≠0 by omega)) (show tm rs 0-tm rs 4≠0 by omega)) e
end
end Go.Proofs.YthoeeeehfkenkaaGreat.Tr
namespace Go.Proofs.YthoeeeehfkenkaaGreat.Tr
open Go Go.TH
attribute [local irreducible] W WO pt
set_option maxRecDepth 10000
set_option maxHeartbeats 1000000
def spanV (m:Int) (rs:List (Int × Int × Int)) (g:Int→Int):Int × Int:=if chkT m rs=0 then meanQ m rs g else (0,0)
def spanR (m:Int) (rs:List (Int × Int × Int)):Value:=.tuple #[.agg (encP (spanV m rs (loT rs))++encP (spanV m rs (hiT rs))).toArray,.int .i64 (chkT m rs)]
theorem spanR_0 {m:Int} {rs:List (Int × Int × Int)} (h:chkT m rs=0):.tuple #[.agg (encP (meanQ m rs (loT rs))++encP (meanQ m rs (hiT rs))).toArray,.int .i64 0]=spanR m rs:=by
 unfold spanR spanV;rw [if_pos h,if_pos h,h]
theorem spanR_1 {m:Int} {rs:List (Int × Int × Int)} (h:chkT m rs≠0):.tuple #[.agg (encP (0,0)++encP (0,0)).toArray,.int .i64 (chkT m rs)]=spanR m rs:=by
 unfold spanR spanV;rw [if_neg h,if_neg h]
abbrev scP (pv:Value) (m:Int) (o:Value) (rs:List (Int × Int × Int)):HP:=PtrP pv (chkT m rs) (sc m o (wTo (wts m rs) rs.length) (wsum m rs rs.length)) 126
theorem c_Span (w:World) (m:Int) (o:Value) (rs:List (Int × Int × Int)) (hR:RdF encR 3 w.heap.size w o rs):Ret Tryz.prog 8 [.agg #[.int .i64 m,o]].toArray w (spanR m rs):=by
 refine Ret.of mixed tyTab Tryz.func8 rfl rfl ?_
 replace hR:RdF encR 3 (fnCx mixed tyTab Tryz.f8.ntmps w).B (fnCx mixed tyTab Tryz.f8.ntmps w).w0 o rs:=hR
 refine W.sreg (WO.boxA rfl rfl (fun b1 hb1=>(WO.alloc rfl rfl rfl (fun b2 hb2=>(WO.p rfl rfl (WO.nil (W.sreg (WO.loadA rfl rfl (Cells.own (Pick.tail (Pick.head))) rfl rfl (WO.call (Post:=fun v Hq=>∃ pv,v=.tuple #[pv,.int .i64 (chkT m rs)]∧Hq=[scP pv m o rs]) rfl Tryz.call21 (fun L w hi=>c_newScales w m o rs (hR.later hi)) rfl ?_)))))))))
 rintro _ _ ⟨pv,rfl,rfl⟩
 refine WO.p rfl rfl (WO.p rfl rfl (WO.p rfl rfl (WO.p rfl rfl (WO.p rfl rfl (WO.nil (W.seq (W.sreg (WO.p rfl rfl (WO.p rfl rfl (WO.nil ?_))))))))))
 refine W.cond_bl rfl (fun c1=>?_) (fun c1=>?_)
 ·refine W.sreg (WO.build rfl rfl rfl rfl rfl (WO.p rfl rfl (WO.storeA rfl rfl rfl rfl (Pick.tail (Pick.head)) rfl rfl (WO.p rfl rfl (WO.nil (W.ret (fin.ret (Res.two rfl (RV.cell rfl rfl rfl (Cells.own Pick.head)) (RV.tmp rfl)) ?_)))))))
  exact spanR_1 (by assumption)
 ·refine W.skip ?_
  have hv:VT m rs:=VT.of (by omega)
  refine W.chgE (PtrP.open (by repeat exact .head) hv.to) ?_
  rintro pb rfl
  refine W.sreg (WO.p rfl rfl (WO.callR rfl Tryz.call24 (fun L w hi=>c_span w _ m o rs (RdC.own (b:=pb) (by repeat exact .head) hi) (hR.later hi) hv) rfl (WO.storeA rfl rfl rfl rfl (Pick.tail (Pick.head)) rfl rfl (WO.p rfl rfl (WO.nil (W.ret (fin.ret (Res.two rfl (RV.cell rfl rfl rfl (Cells.own Pick.head)) (RV.tmp rfl)) ?_)))))))
  exact spanR_0 hv.to
def inTo (rs:List (Int × Int × Int)) (xs:List Int) (n:Nat):Prop:=∀ i,i<n→(rs.getD i r0).2.1≤xs.getD i 0∧xs.getD i 0≤(rs.getD i r0).2.2
instance (rs:List (Int × Int × Int)) (xs:List Int) (n:Nat):Decidable (inTo rs xs n):=by unfold inTo;infer_instance
section
variable {m:Int} {rs:List (Int × Int × Int)} {xs:List Int}
end
end Go.Proofs.YthoeeeehfkenkaaGreat.Tr
namespace Go.TH
open Go
section
variable {P:Program} {C:Cx P} {E:Env} {H:List HP}
variable {ops:Array Oper} {K:KP} {rest:List Oper} {d:Nat} {ty:TypeId} {pos:String} {af:Array Edge} {x y z:Operand} {T T':TypeId}
theorem run_part1 {ft fo:Nat} {vs:List Value} {v:Value} {w:World} (hO:CT P ft) (hv:vs[fo]?=some v):(part ft vs.toArray fo).run P w=.ok v w:=by
 simp only [part,Sem.run_bind,run_isAgg hO.one,Result.andThen_ok]
 simp [hv]
theorem WO.field1 {f fo ft:Nat} {vs:List Value} {v:Value} (hx:ev E x=some (.agg vs.toArray)) (hT:C.tt.fd? T f=some (fo,ft)) (hO:C.tt.one? ft=true) (hv:lget vs fo=some v) (hN:Nat.blt d C.N=true)
 (h:WO C ops rest K ((d,v)::E) H):WO C ops (⟨some d,.field T x f,ty,pos,af,none⟩::rest) K E H :=
 WO.pure v (by simp) (fun L a w hf hi=>by
  have h1:=(FT.of hT).at_
  unfold fieldOf at h1
  rw [lget_eq] at hv
  cases hu:P.underlying T with
  | none=>rw [hu] at h1;cases h1
  | some ds =>
   rw [hu] at h1
   cases ds <;> simp only [] at h1 <;> try (cases h1;done)
   rename_i fs
   cases hfs:fs[f]? with
   | none=>rw [hfs] at h1;cases h1
   | some fl =>
    rw [hfs] at h1
    simp at h1
    obtain ⟨h2,h3⟩:=h1
    have hr:(Instr.field T (.agg vs.toArray) f).run P w=.ok v w:=by
     simp only [Instr.field,Sem.run_bind,run_underlying hu,Result.andThen_ok]
     simp only [hfs,asAgg,Sem.run_bind,Sem.run_pure,Result.andThen_ok]
     rw [h2,h3]
     exact run_part1 (CT.of hO) hv
    simp [execOp,hf.eval hx,hr]) hN h
theorem WO.convI {k k':IntKind} {a b:Int} (hT:C.tt.it? T'=some k') (hs:C.tt.some? T=true) (hx:ev E x=some (.int k a)) (hr:k'.wrap a=b) (hN:Nat.blt d C.N=true) (h:WO C ops rest K ((d,.int k' b)::E) H):WO C ops (⟨some d,.convert T T' x,ty,pos,af,none⟩::rest) K E H :=
 WO.pure _ (by simp) (fun L a w hf hi=>by
  obtain ⟨ds,hd⟩:=Option.isSome_iff_exists.mp (some?_of hs)
  subst hr
  simp only [execOp,hf.eval hx];simp [convert,run_underlying hd,run_underlying (IT.of hT).u,Conv.intToInt]) hN h
theorem u64_in {n:Int} (h:0≤n∧n<18446744073709551616):IntKind.u64.wrap n=n:=by
 unfold IntKind.wrap
 simp [IntKind.signed,IntKind.bits]
 omega
end
end Go.TH
namespace Go.Proofs.YthoeeeehfkenkaaGreat.Tr
open Go Go.TH
attribute [local irreducible] W WO pt
set_option maxRecDepth 10000
set_option maxHeartbeats 1000000
def allIn (xs:List Int):Prop:=∀ x∈xs,-20≤x∧x≤20
instance (xs:List Int):Decidable (allIn xs):=by unfold allIn;infer_instance
section
variable {m:Int} {rs:List (Int × Int × Int)} {xs:List Int}
theorem pw_ab (hv:VT m rs) {d:Nat} (hd:d≤5):∀ i:Nat,i<rs.length→ab (pw (tm rs i) d)≤1000000000:=fun i hi=>by
 have h1:=hv.run hi
 have h2:=pw_B (t:=tm rs i) ⟨h1.1,h1.2.1⟩ hd
 unfold ab;omega
end
def fst5 (p:Nat→Bool):Nat:=if p 0=true then 0 else if p 1=true then 1 else if p 2=true then 2 else if p 3=true then 3 else if p 4=true then 4 else 5
theorem fst5_eq {p:Nat→Bool} {d:Nat} (hd:d<5) (h:p d=true) (hb:∀ k,k<d→p k=false):fst5 p=d:=by
 unfold fst5
 match d,hd with
 | 0,_=>rw [if_pos h]
 | 1,_=>rw [if_neg (by rw [hb 0 (by omega)];simp),if_pos h]
 | 2,_=>rw [if_neg (by rw [hb 0 (by omega)];simp),if_neg (by rw [hb 1 (by omega)];simp),if_pos h]
 | 3,_=>rw [if_neg (by rw [hb 0 (by omega)];simp),if_neg (by rw [hb 1 (by omega)];simp),if_neg (by rw [hb 2 (by omega)];simp),if_pos h]
 | 4,_=>rw [if_neg (by rw [hb 0 (by omega)];simp),if_neg (by rw [hb 1 (by omega)];simp),if_neg (by rw [hb 2 (by omega)];simp),if_neg (by rw [hb 3 (by omega)];simp),if_pos h]
def offP (m:Int) (rs:List (Int × Int × Int)) (d:Nat):Bool:=decide ((meanQ m rs (offT rs (fun t=>pw t d))).1≠0)
def canV (m:Int) (rs:List (Int × Int × Int)):Int:=if chkT m rs=0 then (fst5 (offP m rs):Int)-1 else 0
theorem red_num {n d:Int} (hd:0<d):(red n d).1=0↔n=0:=by
 have hg:=gcd2_pos (ab_nn n) hd
 have hdv:gcd2 (ab n) d∣n:=by
  have h1:=gcd2_dvdL (ab n) d (ab_nn n)
  unfold ab at h1 ⊢
  rcases Int.le_total 0 n with h | h
  ·rwa [show max n (-n)=n by omega] at h1 ⊢
  ·rw [show max n (-n) = -n by omega] at h1 ⊢
   exact Int.dvd_neg.1 h1
 constructor
 ·intro h
  have h2:=Int.tdiv_mul_cancel hdv
  have h3:n.tdiv (gcd2 (ab n) d)=0:=h
  rw [h3,Int.zero_mul] at h2
  exact h2.symm
 ·intro h;subst h;unfold red;simp
theorem offP_some {m:Int} {rs:List (Int × Int × Int)} (hv:VT m rs):∃ d,d<rs.length∧offP m rs d=true:=by
 obtain ⟨d,hd,h⟩:=off_some hv
 have hw:=wsum_lt hv (i:=rs.length) (Nat.le_refl _)
 have hn:=hv.n
 refine ⟨d,hd,?_⟩
 unfold offP meanQ
 rw [decide_eq_true_eq]
 exact fun e=>h ((red_num (by omega)).1 e)
theorem canR_1 {m:Int} {rs:List (Int × Int × Int)} (h:chkT m rs≠0):Value.tuple #[.int .i64 0,.int .i64 (chkT m rs)]=.tuple #[.int .i64 (canV m rs),.int .i64 (chkT m rs)]:=by unfold canV;rw [if_neg h]
theorem canR_0 {m:Int} {rs:List (Int × Int × Int)} (hv:VT m rs) {d:Nat} {z:Int} (hd:d<5) (h:offP m rs d=true) (hb:∀ k,k<d→offP m rs k=false) (hz:z=(d:Int)-1):Value.tuple #[.int .i64 z,.int .i64 0]=.tuple #[.int .i64 (canV m rs),.int .i64 (chkT m rs)]:=by
 unfold canV;rw [if_pos hv.to,fst5_eq hd h hb,hz,hv.to]
theorem c_Cancels (w:World) (m:Int) (o:Value) (rs:List (Int × Int × Int)) (hR:RdF encR 3 w.heap.size w o rs):Ret Tryz.prog 7 [.agg #[.int .i64 m,o]].toArray w (.tuple #[.int .i64 (canV m rs),.int .i64 (chkT m rs)]):=by
 refine Ret.of mixed tyTab Tryz.func7 rfl rfl ?_
 replace hR:RdF encR 3 (fnCx mixed tyTab Tryz.f7.ntmps w).B (fnCx mixed tyTab Tryz.f7.ntmps w).w0 o rs:=hR
 have ho:=hR.sl.oc
 refine W.sreg (WO.boxA rfl rfl (fun b1 hb1=>(WO.p rfl rfl (WO.p rfl rfl (WO.nil (W.scope (W.sreg (WO.loadA rfl rfl (Cells.own Pick.head) rfl rfl (WO.call (Post:=fun v Hq=>∃ pv,v=.tuple #[pv,.int .i64 (chkT m rs)]∧Hq=[scP pv m o rs]) rfl Tryz.call21 (fun L w hi=>c_newScales w m o rs (hR.later hi)) rfl ?_)))))))))
 rintro _ _ ⟨pv,rfl,rfl⟩
 refine WO.p rfl rfl (WO.p rfl rfl (WO.p rfl rfl (WO.p rfl rfl (WO.p rfl rfl (WO.nil (W.seq (W.sreg (WO.p rfl rfl (WO.p rfl rfl (WO.nil ?_))))))))))
 refine W.cond_bl rfl (fun c1=>?_) (fun c1=>?_)
 ·refine W.sreg (WO.p rfl rfl (WO.p rfl rfl (WO.p rfl rfl (WO.nil (W.ret (fin.ret (Res.two rfl (RV.tmp rfl) (RV.tmp rfl)) ?_))))))
  exact canR_1 (by assumption)
 ·refine W.skip ?_
  have hv:VT m rs:=VT.of (by omega)
  have hn:=hv.n
  obtain ⟨dx,hdx,hdp⟩:=offP_some hv
  refine W.chgE (PtrP.open (by repeat exact .head) hv.to) ?_
  rintro pb rfl
  refine W.sreg (WO.p rfl rfl (WO.nil (W.seq (W.label (W.seq (W.sreg (WO.fieldL rfl rfl rfl (WO.load rfl rfl (Cell.own (Pick.tail (Pick.head)) rfl) rfl (WO.len rfl rfl hR.sl rfl (WO.p rfl rfl (WO.nil (W.block ?_))))))))))))
  refine W.loop2 (fun (d:Nat) (z:Int)=>d≤rs.length∧z=(d:Int)-1∧∀ k,k<d→offP m rs k=false)
   (fun (d:Nat) (z:Int)=>[(20,.int .i64 (d:Int)),(19,.int .i64 (rs.length:Int)),(6,.int .i64 z),(4,.pointer (some ⟨pb,0,none⟩))])
   (fun (d:Nat) (z:Int)=>[pt pb (.cells (sc m o (wTo (wts m rs) rs.length) (wsum m rs rs.length)).toArray 126 (0,0))])
   (fun (d:Nat) (z:Int)=>rs.length-d) 0 (-1)
   (by exact ⟨by omega,by omega,fun k hk=>by omega⟩) ⟨rfl,rfl,rfl,rfl,trivial⟩ (by repeat (first | exact Sub.nil | refine Sub.cons (by repeat exact .head) ?_)) ?_
  rintro d z ⟨hd,hz,hal⟩
  refine W.sreg (WO.p rfl rfl (WO.nil (W.seq ?_)))
  refine W.cond_bl rfl (fun c2=>?_) (fun c2=>?_)
  ·refine W.skip (W.seq (W.block (W.sreg (WO.p rfl rfl (WO.alloc rfl rfl rfl (fun b2 hb2=>(WO.store1 rfl rfl rfl (by rfl) Pick.head rfl (WO.nil (W.sreg (WO.p rfl rfl (WO.p rfl rfl (WO.nil (W.seq ?_)))))))))))))
   obtain ⟨qn,qd,hq⟩:∃ a b,meanQ m rs (offT rs (fun t=>pw t d))=(a,b):=⟨_,_,rfl⟩
   have hqp:offP m rs d=decide (qn≠0):=by unfold offP;rw [hq]
   refine W.sreg (WO.p rfl rfl (WO.p rfl rfl (WO.callR (r:=.agg #[.int .i64 qn,.int .i64 qd]) rfl Tryz.call23 (fun L w hi=>by have h:=c_off w _ m o rs _ [.pointer (some ⟨b2,0,none⟩)] (fun t=>pw t d) (RdC.own (b:=pb) (by repeat first | exact .head | apply Pick.tail) hi) (hR.later hi) hv (fn_power (Cap.of (by repeat exact .head) rfl hi) (by omega)) Tryz.call22 (pw_ab hv (by omega));unfold meanQ at hq;rw [hq] at h;exact h) rfl (WO.field1 rfl rfl rfl rfl rfl (WO.p rfl rfl (WO.nil ?_))))))
   refine W.cond_bl rfl (fun c3=>?_) (fun c3=>?_)
   ·refine W.exit (blk_other rfl (blk_same (W.sreg (WO.p rfl rfl (WO.p rfl rfl (WO.p rfl rfl (WO.nil (W.ret (fin.ret (Res.two rfl (RV.tmp rfl) (RV.tmp rfl)) ?_)))))))))
    exact canR_0 hv (by omega) (by rw [hqp];simpa using ‹_›) hal hz
   ·refine W.skip (W.region (WO.load rfl rfl (Cell.own Pick.head rfl) rfl (WO.p rfl rfl (WO.nil (W.region (WO.ar rfl rfl rfl (by unfold in64;omega) rfl (WO.p rfl rfl (WO.nil ?_))))))))
    refine' ⟨d+1,_,?hp,?hmu,⟨rfl,rfl,rfl,rfl,trivial⟩,?hS⟩
    case hS=>repeat (first | exact Sub.nil | refine Sub.cons (by repeat first | exact .head | apply Pick.tail) ?_)
    case hp=>exact ⟨by omega,by omega,fun k hk=>by (rcases Nat.lt_or_ge k d with h | h;exact hal k h;obtain rfl:k=d:=(by omega);rw [hqp,show qn=0 from Decidable.not_not.1 (by assumption)];rfl)⟩
    case hmu=>omega
  ·refine W.exit (blk_same (W.sreg (WO.p rfl rfl (WO.p rfl rfl (WO.p rfl rfl (WO.nil (W.ret (fin.ret (Res.two rfl (RV.tmp rfl) (RV.tmp rfl)) ?_))))))))
   (exfalso;rw [hal dx (by omega)] at hdp;cases hdp)
end Go.Proofs.YthoeeeehfkenkaaGreat.Tr
namespace Go.TH
open Go
theorem addr_add_add (a:Addr) (m n:Nat):(a.add m).add n=a.add (m+n):=by
 unfold Addr.add
 split <;> split <;> simp_all <;> (try omega)
section
variable {P:Program} {C:Cx P} {E:Env} {H:List HP}
variable {ops:Array Oper} {K:KP} {rest:List Oper} {d:Nat} {ty:TypeId} {pos:String} {af:Array Edge} {x y:Operand} {T:TypeId}
def bv:Option Value→Nat→Nat→Prop
 | none,dfl,n=>n=dfl
 | some v,_,n=>∃ k,v=.int k (n:Int)
theorem run_bound {k:IntKind} {q y:Nat} {code:BoundsCode} {w:World} (hq:q≤y):(Instr.sliceBound (.int k (q:Int)) y code).run P w=.ok q w:=by
 have hq':(q:Int)≤(y:Int):=by omega
 simp [Instr.sliceBound,asIntOf,hq',go_sem]
theorem run_bounds {n c lo hi mx:Nat} {L0 H0 M0:Option Value} {w:World} (hl:bv L0 0 lo) (hh:bv H0 n hi) (hm:bv M0 c mx) (hmh:M0.isSome=true→H0.isSome=true) (h1:lo≤hi) (h2:hi≤mx) (h3:mx≤c) :
 (Instr.sliceBounds true n c L0 H0 M0).run P w=.ok (lo,hi,mx) w:=by
 cases L0 <;> cases H0 <;> cases M0 <;> simp only [bv] at hl hh hm <;> first
  |(have:=hmh rfl;simp at this;done)
  | skip
 ·subst hl;subst hh;subst hm;simp [Instr.sliceBounds]
 ·obtain ⟨k,rfl⟩:=hh;subst hl;subst hm;simp [Instr.sliceBounds,run_bound h2]
 ·obtain ⟨k,rfl⟩:=hh;obtain ⟨k2,rfl⟩:=hm;subst hl;simp [Instr.sliceBounds,run_bound h2,run_bound h3]
 ·obtain ⟨k,rfl⟩:=hl;subst hh;subst hm;simp [Instr.sliceBounds,run_bound h1]
 ·obtain ⟨k,rfl⟩:=hl;obtain ⟨k2,rfl⟩:=hh;subst hm;simp [Instr.sliceBounds,run_bound h1,run_bound h2]
 ·obtain ⟨k,rfl⟩:=hl;obtain ⟨k2,rfl⟩:=hh;obtain ⟨k3,rfl⟩:=hm;simp [Instr.sliceBounds,run_bound h1,run_bound h2,run_bound h3]
def bnd (E:Env):Option Operand→Nat→Nat→Prop
 | none,dfl,n=>n=dfl
 | some x,_,n=>∃ k,ev E x=some (.int k (n:Int))
theorem bnd.no {n:Nat}:bnd E none n n:=rfl
theorem bnd.at {x:Operand} {k:IntKind} {dfl n:Nat} (h:ev E x=some (.int k (n:Int))):bnd E (some x) dfl n:=⟨k,h⟩
theorem bnd.bv {N:Nat} {ac:Act} (hf:Fr N E ac) {o:Option Operand} {dfl n:Nat} (h:bnd E o dfl n):bv (o.map ac.eval) dfl n:=by
 cases o with
 | none=>exact h
 | some x=>obtain ⟨k,hk⟩:=h;exact ⟨k,hf.eval hk⟩
def ofs (a:Option Addr) (o:Nat):Option Addr:=a.map (·.add o)
theorem WO.slSl {x:Operand} {a:Option Addr} {n c lo hi mx e sz by':Nat} {L0 H0 M0:Option Operand} (hT:C.tt.sl? T=some (e,sz,by')) (hx:ev E x=some (.slice a n c))
 (hl:bnd E L0 0 lo) (hh:bnd E H0 n hi) (hm:bnd E M0 c mx) (hmh:M0.isSome=true→H0.isSome=true) (h1:lo≤hi) (h2:hi≤mx) (h3:mx≤c) (hN:Nat.blt d C.N=true)
 (h:WO C ops rest K ((d,.slice (if mx=lo then a else ofs a (lo*sz)) (hi-lo) (mx-lo))::E) H):WO C ops (⟨some d,.slice T x L0 H0 M0,ty,pos,af,none⟩::rest) K E H :=
 WO.pure _ (by simp) (fun L ac w hf hi'=>by
  have hST:=SlT.of hT
  have hsz:(sizeOf e).run P w=.ok sz w:=run_sizeOf (by simpa [szv] using hST.size)
  have hb:=run_bounds (P:=P) (w:=w) (hl.bv hf) (hh.bv hf) (hm.bv hf) (by simpa using hmh) h1 h2 h3
  simp [execOp,hf.eval hx,Instr.sliceAt,Instr.slice,run_underlying hST.u,hsz,ofs,hb]) hN h
theorem RdF.sub {α:Type} {enc:α→List Value} {sz B:Nat} {w:World} {a:Option Addr} {n c lo hi mx:Nat} {xs:List α} (h:RdF enc sz B w (.slice a n c) xs) (h1:lo≤hi) (h2:hi≤mx) (h3:hi≤n) :
 RdF enc sz B w (.slice (if mx=lo then a else ofs a (lo*sz)) (hi-lo) (mx-lo)) ((xs.drop lo).take (hi-lo)):=by
 obtain ⟨hle,a',c',he,hb⟩:=h.sl
 have e1:a'=a:=by injection he with e1 e2 e3;exact e1.symm
 have e2:n=xs.length:=by injection he
 subst e1;subst e2
 have hlen:((xs.drop lo).take (hi-lo)).length=hi-lo:=by rw [List.length_take,List.length_drop];omega
 rcases Nat.lt_or_ge lo hi with g | g
 ·obtain ⟨b,o,rfl⟩:=hb (by omega)
  rw [if_neg (by omega)]
  refine ⟨⟨by omega,_,_,by rw [hlen],fun _=>?_⟩,fun _=>?_,fun i x hx j u hu=>?_⟩
  ·exact ⟨b,o+lo*sz,by simp [ofs,Addr.add]⟩
  ·have:=h.blk (by omega)
   simpa [base,ofs,addr_add_block] using this
  ·have hi2:i<hi-lo:=by
    have:=(List.getElem?_eq_some_iff.1 hx).1;omega
   rw [List.getElem?_take_of_lt hi2,List.getElem?_drop] at hx
   have:=h.cell _ x hx j u hu
   have e:(base (.slice (ofs (some ⟨b,o,none⟩) (lo*sz)) (hi-lo) (mx-lo))).add (i*sz)=(base (.slice (some ⟨b,o,none⟩) xs.length c)).add ((lo+i)*sz):=by
    show (Addr.add (Addr.add ⟨b,o,none⟩ (lo*sz)) (i*sz))=Addr.add ⟨b,o,none⟩ ((lo+i)*sz)
    rw [addr_add_add,Nat.add_mul]
   rw [e];exact this
 ·have e0:hi-lo=0:=by omega
  rw [e0]
  refine ⟨⟨by simp,_,_,rfl,fun h=>by simp at h⟩,fun h=>by simp at h,fun i x hx=>by simp at hx⟩
theorem flat_rep {α:Type} (n:Nat) (z:List α) (i:Nat) (hz:0<z.length) (h:i<n*z.length):((List.replicate n z).flatten)[i]?=z[i%z.length]?:=by
 induction n generalizing i with
 | zero=>omega
 | succ n ih =>
  rw [List.replicate_succ,List.flatten_cons]
  rcases Nat.lt_or_ge i z.length with g | g
  ·rw [List.getElem?_append_left g,Nat.mod_eq_of_lt g]
  ·rw [List.getElem?_append_right g,ih (i-z.length) (by rw [Nat.add_mul] at h;omega),Nat.mod_eq_sub_mod g]
theorem made_eq (z:List Value) (n:Nat) (hz:0<z.length):madeCells z.toArray (n*z.length)=((List.replicate n z).flatten).toArray:=by
 have hl:((List.replicate n z).flatten).length=n*z.length:=by simp [List.length_flatten]
 apply Array.ext
 ·rw [size_madeCells];simp [hl]
 ·intro j h1 h2
  rw [size_madeCells] at h1
  have:=flat_rep n z j hz h1
  have hm:j%z.length<z.length:=Nat.mod_lt _ hz
  rw [List.getElem?_eq_getElem (by omega),List.getElem?_eq_getElem hm] at this
  injection this with this
  simp only [madeCells,Array.getElem_map,Array.getElem_range,List.size_toArray,List.getElem_toArray]
  rw [this]
  simp [hm]
theorem WO.makeOwN {e sz by':Nat} {n:Nat} {zv:Value} {zs:List Value} {k k':IntKind} (hT:C.tt.sl? T=some (e,sz,by')) (hz:C.tt.z? e=some zv) (hc:zv.cells=zs.toArray) (hl:zs.length=sz) (hp:0<sz) (hx:ev E x=some (.int k (n:Int))) (hy:ev E y=some (.int k' (n:Int)))
 (hb:by'*n≤281474976710656) (h63:n≤9223372036854775807) (hN:Nat.blt d C.N=true)
 (h:∀ b,WO C ops rest K ((d,.slice (some ⟨b,0,none⟩) n n)::E) (OwC e sz (.slice (some ⟨b,0,none⟩) n n) n ((List.replicate n zs).flatten)::H)):WO C ops (⟨some d,.makeSlice T x y,ty,pos,af,none⟩::rest) K E H:=by
 refine WO.step rfl rfl hN (XO.run (by simp) fun L a w hf hi=>?_)
 obtain ⟨i,hi1,hi2,hi3,hi4⟩:=sl_info hT hz
 have hb':(i.bytes:Int)*(n:Int)≤281474976710656:=by
  have:((by'*n:Nat):Int)≤281474976710656:=by omega
  rw [hi3];rwa [Int.natCast_mul] at this
 have hr:=run_make (P:=P) w T e i zv (SlT.of hT).u hi1 hi4 k k' n n (by omega) (Int.le_refl _) hb' (by omega)
 simp only [Int.toNat_natCast] at hr
 have em:madeCells zv.cells (n*i.size)=((List.replicate n zs).flatten).toArray:=by
  rw [hi2,hc,← hl];exact made_eq zs n (by omega)
 refine ⟨.slice (some ⟨w.heap.size,0,none⟩) n n,w.alloc (.cells (madeCells zv.cells (n*i.size)) e),OwC e sz (.slice (some ⟨w.heap.size,0,none⟩) n n) n ((List.replicate n zs).flatten)::H,.inl ?_,h _,?_⟩
 ·simp only [execOp,hf.eval hx,hf.eval hy,Sem.run_bind,hr];rfl
 ·have h2:=hi.alloc' (.cells (madeCells zv.cells (n*i.size)) e)
  rw [em] at h2 ⊢
  refine OwC.shut (by simp [List.length_flatten,hl]) (Nat.le_refl _) (by simpa [maxLen] using h63) (by simp [List.length_flatten,hl]) ?_ h2
  exact List.take_of_length_le (by simp [List.length_flatten,hl])
theorem WO.makeEN {α:Type} {enc:α→List Value} {e sz by':Nat} {n:Nat} {z:α} {zv:Value} {k k':IntKind} (he:EncOk enc sz) (hT:C.tt.sl? T=some (e,sz,by')) (hz:C.tt.z? e=some zv) (hc:zv.cells=(enc z).toArray) (hx:ev E x=some (.int k (n:Int))) (hy:ev E y=some (.int k' (n:Int)))
 (hb:by'*n≤281474976710656) (h63:n≤9223372036854775807) (hN:Nat.blt d C.N=true)
 (h:∀ b,WO C ops rest K ((d,.slice (some ⟨b,0,none⟩) n n)::E) (OwE enc e sz (.slice (some ⟨b,0,none⟩) n n) (List.replicate n z)::H)):WO C ops (⟨some d,.makeSlice T x y,ty,pos,af,none⟩::rest) K E H:=by
 refine WO.makeOwN hT hz hc (he.len z) he.pos hx hy hb h63 hN fun b=>?_
 have:=h b
 unfold OwE at this
 rw [List.length_replicate,show (List.replicate n z).flatMap enc=(List.replicate n (enc z)).flatten by rw [List.flatMap_def,List.map_replicate]] at this
 exact this
theorem run_copy_rowN {P:Program} (w:World) (dT sT ty elem:TypeId) (g o dLen dCap:Nat) (a:Addr) (sLen sCap sz:Nat) (cur:Array Value) (t:TypeId) (cs:List Value)
 (hu:P.underlying dT=some (.slice elem)) (hs:(P.info? elem).map (·.size)=some sz)
 (hg:w.heap[g]?=some (.cells cur t (0,0))) (hn:cs.length=Nat.min sLen dLen*sz)
 (hsrc:∀ j v,cs[j]?=some v→w.cell? (a.add j)=some v) (hfit:o+cs.length≤cur.size) (h1:∀ v∈cs,v.oneCell'=true) :
 (Builtin.copy_ #[dT,sT] ty #[.slice (some ⟨g,o,none⟩) dLen dCap,.slice (some a) sLen sCap]).run P w =
   .ok (goInt (Nat.min sLen dLen)) (w.setRow g (cur.toList.take o++cs++cur.toList.drop (o+cs.length)).toArray):=by
 have hl:=run_loadCells_list (P:=P) w a cs hsrc
 have hst:=run_storeCells_at P g o t cs 0 cur w hg (by simpa using hfit) h1
 cases hq:P.info? elem with
 | none=>simp [hq] at hs
 | some i =>
  have hi:i.size=sz:=by simpa [hq] using hs
  simp [Builtin.copy_,run_underlying hu,Builtin.lenOf,Builtin.firstCells,sizeOf,typeInfo,hq,hi,← hn,hl,hst]
theorem WO.copyOwN {e sz by' n m:Nat} {v u:Value} {cs ws:List Value} {H':List HP} (hT:C.tt.sl? T=some (e,sz,by')) (hx:ev E x=some v) (hy:ev E y=some u) (p:Pick (OwC e sz v n cs) H H') (hS:IsSl u m) (hnm:n≤m) (hn:0<n)
 (hc:Cells C H (base u) ws) (hl:ws.length=n*sz) (h1:∀ c∈ws,c.oneCell'=true) (hN:Nat.blt d C.N=true)
 (h:WO C ops rest K ((d,.int .i64 (n:Int))::E) (OwC e sz v n ws::H')):WO C ops (⟨some d,.call ⟨.builtin .copy,#[x,y],#[T,T]⟩,ty,pos,af,none⟩::rest) K E H:=by
 refine WO.step rfl rfl hN (XO.run (by simp) fun L a w hf hi=>?_)
 obtain ⟨hcl,hcase⟩:=OwC.open (hi.pickL p)
 rcases hcase with ⟨_,rfl,_⟩ | ⟨g,cap,cur,rfl,q1,q2,q3,q4,hv⟩
 ·omega
 obtain ⟨_,ao,c,rfl,hao⟩:=hS
 obtain ⟨gg,oo,rfl⟩:=hao (by omega)
 have hST:=SlT.of hT
 have hlook:=(hv.look (b:=g) (o:=.cells cur.toArray e (0,0)) ((Pick.head).app L)).1
 have hmin:Nat.min m n=n:=Nat.min_eq_right hnm
 have hle:n*sz≤cap*sz:=Nat.mul_le_mul_right _ q1
 have hrun:=run_copy_rowN (P:=P) w T T ty e g 0 n cap ⟨gg,oo,none⟩ m c sz cur.toArray e ws hST.u hST.size hlook (by rw [hmin,hl])
  (fun j v' hj=>by have:=hc j v' hj L w hi;simpa [base] using this) (by simp [q3,hl];omega) h1
 have hcur:((cur.toArray.toList.take 0++ws++cur.toArray.toList.drop (0+ws.length)).toArray)=(ws++cur.drop (n*sz)).toArray:=by simp [hl]
 rw [hcur,hmin] at hrun
 refine ⟨_,w.setRow g (ws++cur.drop (n*sz)).toArray,OwC e sz (.slice (some ⟨g,0,none⟩) n cap) n ws::H',.inl ?_,h,?_⟩
 ·simp only [execOp,resolve,hf.eval hx,hf.eval hy]
  simp [hf.eval hx,hf.eval hy,Deferred.ofValue,invoke,builtin,hrun,goInt]
 ·have h2:=Inv.set (b:=g) (o:=.cells cur.toArray e (0,0)) (o':=.cells (ws++cur.drop (n*sz)).toArray e (0,0)) (w':=w.setRow g (ws++cur.drop (n*sz)).toArray) hv (Pick.mem) rfl rfl rfl (by simp [World.setRow]) (setRow_same hlook) (fun k hk=>setRow_other hk)
  have h3:=h2.perm (List.perm_middle (l₁:=L) (l₂:=H')).symm
  exact OwC.shut (by simpa using hl) q1 q2 (by simp [q3,hl];omega) (by simp [← hl]) h3
theorem WO.copyEN {α:Type} {enc:α→List Value} {e sz by' m:Nat} {v u:Value} {xs ys:List α} {H':List HP} (he:EncOk enc sz) (hT:C.tt.sl? T=some (e,sz,by')) (hx:ev E x=some v) (hy:ev E y=some u) (p:Pick (OwE enc e sz v xs) H H') (hS:IsSl u m) (hnm:xs.length≤m) (hn:0<xs.length)
 (hl:ys.length=xs.length) (hc:Cells C H (base u) (ys.flatMap enc)) (hN:Nat.blt d C.N=true)
 (h:WO C ops rest K ((d,.int .i64 (xs.length:Int))::E) (OwE enc e sz v ys::H')):WO C ops (⟨some d,.call ⟨.builtin .copy,#[x,y],#[T,T]⟩,ty,pos,af,none⟩::rest) K E H:=by
 refine WO.copyOwN hT hx hy p hS hnm hn hc (by rw [he.flat_len,hl]) (fun c hc'=>?_) hN ?_
 ·obtain ⟨x,_,hx'⟩:=List.mem_flatMap.1 hc'
  exact he.one x c hx'
 ·unfold OwE at h;rw [hl] at h;exact h
end
end Go.TH
namespace Go.Proofs.YthoeeeehfkenkaaGreat.Sp
open Go Go.TH
attribute [local irreducible] W WO pt
set_option maxRecDepth 10000
set_option maxHeartbeats 1000000
structure Rn where
 p:Int
 q:Int
 lo:Int
 hi:Int
def encRn (r:Rn):List Value:=[.int .i64 r.p,.int .i64 r.q,.int .i64 r.lo,.int .i64 r.hi]
theorem encRn_ok:EncOk encRn 4:=⟨fun _=>rfl,fun x u hu=>by simp [encRn] at hu;rcases hu with rfl | rfl | rfl | rfl <;> rfl,by omega⟩
def rn0:Rn:=⟨0,0,0,0⟩
abbrev rnV (r:Rn):Value:=.agg #[.int .i64 r.p,.int .i64 r.q,.int .i64 r.lo,.int .i64 r.hi]
def OkN (n:Int):Prop := -20≤n∧n≤20
instance (n:Int):Decidable (OkN n):=by unfold OkN;infer_instance
def OkRn (r:Rn):Prop:=OkN r.p∧OkN r.q∧(r.p≠0∨r.q≠0)∧r.lo≤r.hi ∧ -100000≤r.lo∧r.hi≤100000
instance (r:Rn):Decidable (OkRn r):=by unfold OkRn;infer_instance
def OkRs (l:List Rn):Prop:=∀ r∈l,OkRn r
instance (l:List Rn):Decidable (OkRs l):=by unfold OkRs;infer_instance
def chkRs (l:List Rn):Int:=if 12<l.length then 6 else if OkRs l then 0 else 2
theorem chkRs0 {l:List Rn}:chkRs l=0↔l.length≤12∧OkRs l:=by
 unfold chkRs
 split
 ·exact ⟨fun h=>by omega,fun h=>by omega⟩
 ·split
  ·exact ⟨fun _=>⟨by omega,by assumption⟩,fun _=>rfl⟩
  ·exact ⟨fun h=>by omega,fun h=>absurd h.2 (by assumption)⟩
theorem RdF.cells4 {C:Cx Tryz.prog} {H:List HP} {o:Value} {l:List Rn} (h:RdF encRn 4 C.B C.w0 o l) {i:Nat} (h1:i<l.length):Cells C H (elt o i 4) [.int .i64 (l.getD i rn0).p,.int .i64 (l.getD i rn0).q,.int .i64 (l.getD i rn0).lo,.int .i64 (l.getD i rn0).hi]:=RdF.cells h h1 rn0
theorem c_within1 (w:World) (x lo hi:Int) (p q:Addr) (h1:Cap w p (.int .i64 lo)) (h2:Cap w q (.int .i64 hi)):Ret Tryz.prog 216 [.int .i64 x,.pointer (some p),.pointer (some q)].toArray w (.bool (bl (¬ (lo≤x∧x≤hi)))):=by
 refine Ret.of mixed tyTab Tryz.func216 rfl rfl ?_
 replace h1:Cap (fnCx mixed tyTab Tryz.f216.ntmps w).w0 p (.int .i64 lo):=h1
 replace h2:Cap (fnCx mixed tyTab Tryz.f216.ntmps w).w0 q (.int .i64 hi):=h2
 refine W.sreg (WO.p rfl rfl (WO.nil (W.sreg (WO.p rfl rfl ?_))))
 refine' WO.load (v:=_) rfl rfl ?hc rfl ?_
 case hc=>(refine Cap.cell (v:=.int .i64 lo) rfl h1)
 refine WO.p rfl rfl (WO.p rfl rfl ?_)
 refine WO.guard_bl rfl rfl (fun c1=>?_) (fun c1=>?_)
 ·refine WO.no rfl rfl (WO.no rfl rfl (WO.no rfl rfl (WO.p rfl rfl (WO.p rfl rfl (WO.nil (W.ret (fin.ret (Res.one rfl (RV.tmp rfl)) (congrArg Value.bool ?_))))))))
  exact (bl_t.2 (by omega)).symm
 ·refine WO.pg rfl rfl rfl (WO.go' rfl ?_)
  refine' WO.load (v:=_) rfl rfl ?hc rfl ?_
  case hc=>(refine Cap.cell (v:=.int .i64 hi) rfl h2)
  refine WO.pg rfl rfl rfl (WO.p rfl rfl (WO.p rfl rfl (WO.nil (W.ret (fin.ret (Res.one rfl (RV.tmp rfl)) (congrArg Value.bool ?_))))))
  (rw [bl_eq,bl_eq,decide_eq_decide];omega)
theorem c_IndexI (w:World) (v:Value) (xs:List Int) (lo hi:Int) (p q:Addr) (hR:RdF encI 1 w.heap.size w v xs) (h1:Cap w p (.int .i64 lo)) (h2:Cap w q (.int .i64 hi)):RetE Tryz.prog 300 [v,.func (.func 216) #[] #[.pointer (some p),.pointer (some q)]].toArray w (fun r=>∃ n:Int,r=.int .i64 n∧(0≤n↔¬ ∀ x∈xs,lo≤x∧x≤hi)):=by
 refine RetE.of mixed tyTab Tryz.func300 rfl rfl ?_
 replace hR:RdF encI 1 (fnCx mixed tyTab Tryz.f300.ntmps w).B (fnCx mixed tyTab Tryz.f300.ntmps w).w0 v xs:=hR
 replace h1:Cap (fnCx mixed tyTab Tryz.f300.ntmps w).w0 p (.int .i64 lo):=h1
 replace h2:Cap (fnCx mixed tyTab Tryz.f300.ntmps w).w0 q (.int .i64 hi):=h2
 have hle:=hR.sl.le
 refine W.sreg (WO.p rfl rfl (WO.nil (W.seq (W.sreg (WO.p rfl rfl (WO.len rfl rfl hR.sl rfl (WO.p rfl rfl (WO.nil (W.block ?_)))))))))
 refine W.loop (fun (i:Nat)=>i≤xs.length∧∀ x∈xs.take i,lo≤x∧x≤hi)
  (fun (i:Nat)=>[(8,.int .i64 (i:Int)),(7,.int .i64 (xs.length:Int)),(0,v),(1,.func (.func 216) #[] #[.pointer (some p),.pointer (some q)])])
  (fun (i:Nat)=>[])
  (fun (i:Nat)=>xs.length-i) 0
  (by exact ⟨by omega,by simp⟩) ⟨rfl,rfl,rfl,rfl,trivial⟩ (by repeat (first | exact Sub.nil | refine Sub.cons (by repeat first | exact .head | apply Pick.tail) ?_)) ?_
 rintro i ⟨hi0,hal⟩
 refine W.sreg (WO.p rfl rfl (WO.nil (W.seq ?_)))
 refine W.cond_bl rfl (fun c1=>?_) (fun c1=>?_)
 ·refine W.skip (W.seq (W.block (W.sreg (WO.p rfl rfl (WO.p rfl rfl (WO.nil (W.sreg (WO.p rfl rfl (WO.p rfl rfl (WO.p rfl rfl (WO.indexAddr rfl rfl rfl hR.sl (by omega) rfl ?_)))))))))))
  refine' WO.load (v:=_) rfl rfl ?hc rfl ?_
  case hc=>(first | (refine hR.cell0 ?_ 0 ?_ <;> first | rfl | omega))
  refine WO.callCR (first:=[]) (captured:=[.pointer (some p),.pointer (some q)]) rfl rfl Tryz.call216 (fun L w hi'=>c_within1 w (xs.getD i 0) lo hi p q (h1.old rfl hi') (h2.old rfl hi')) rfl (WO.nil ?_)
  refine W.cond_bl rfl (fun c2=>?_) (fun c2=>?_)
  ·refine W.sreg (WO.p rfl rfl (WO.p rfl rfl (WO.nil (W.ret ?_))))
   exact fin.ret (Res.one rfl (RV.tmp rfl)) ⟨_,rfl,by exact ⟨fun _=>not_all_getD (i:=i) (by omega) 0 (by assumption),fun _=>by omega⟩⟩
  ·refine W.skip (W.region (WO.ar rfl rfl rfl (by unfold in64;omega) rfl (WO.p rfl rfl (WO.nil ?_))))
   refine' ⟨i+1,?hp,?hmu,⟨rfl,rfl,rfl,rfl,trivial⟩,?hS⟩
   case hS=>repeat (first | exact Sub.nil | refine Sub.cons (by repeat first | exact .head | apply Pick.tail) ?_)
   case hp=>exact ⟨by omega,all_succ (by omega) 0 hal (Decidable.not_not.1 (by assumption))⟩
   case hmu=>omega
 ·refine W.exit (blk_same (W.sreg (WO.p rfl rfl (WO.nil (W.ret ?_)))))
  exact fin.ret (Res.one rfl (RV.tmp rfl)) ⟨_,rfl,by exact ⟨fun h=>by omega,fun h=>absurd (all_len (by omega) hal) h⟩⟩
theorem c_ContI (w:World) (v:Value) (xs:List Int) (lo hi:Int) (p q:Addr) (hR:RdF encI 1 w.heap.size w v xs) (h1:Cap w p (.int .i64 lo)) (h2:Cap w q (.int .i64 hi)):Ret Tryz.prog 215 [v,.func (.func 216) #[] #[.pointer (some p),.pointer (some q)]].toArray w (.bool (bl (¬ ∀ x∈xs,lo≤x∧x≤hi))):=by
 refine Ret.of mixed tyTab Tryz.func215 rfl rfl ?_
 replace hR:RdF encI 1 (fnCx mixed tyTab Tryz.f215.ntmps w).B (fnCx mixed tyTab Tryz.f215.ntmps w).w0 v xs:=hR
 replace h1:Cap (fnCx mixed tyTab Tryz.f215.ntmps w).w0 p (.int .i64 lo):=h1
 replace h2:Cap (fnCx mixed tyTab Tryz.f215.ntmps w).w0 q (.int .i64 hi):=h2
 refine W.sreg (WO.p rfl rfl (WO.nil (W.sreg (WO.p rfl rfl (WO.p rfl rfl (WO.callE rfl Tryz.call300 (fun L w hi'=>c_IndexI w v xs lo hi p q (hR.later hi') (h1.old rfl hi') (h2.old rfl hi')) rfl ?_))))))
 rintro _ ⟨n,rfl,hn⟩
 refine WO.p rfl rfl (WO.p rfl rfl (WO.nil (W.ret (fin.ret (Res.one rfl (RV.tmp rfl)) (congrArg Value.bool ?_)))))
 rw [bl_eq,bl_eq];exact decide_eq_decide.2 hn
theorem c_within (w:World) (v:Value) (xs:List Int) (lo hi:Int) (hR:RdF encI 1 w.heap.size w v xs):Ret Tryz.prog 130 [.int .i64 lo,.int .i64 hi,v].toArray w (.bool (bl (∀ x∈xs,lo≤x∧x≤hi))):=by
 refine Ret.of mixed tyTab Tryz.func130 rfl rfl ?_
 replace hR:RdF encI 1 (fnCx mixed tyTab Tryz.f130.ntmps w).B (fnCx mixed tyTab Tryz.f130.ntmps w).w0 v xs:=hR
 refine W.sreg (WO.box1 rfl (by rfl) rfl (fun b1 hb1=>(WO.box1 rfl (by rfl) rfl (fun b2 hb2=>(WO.p rfl rfl (WO.nil (W.sreg (WO.p rfl rfl (WO.p rfl rfl (WO.callR rfl Tryz.call215 (fun L w hi'=>c_ContI w v xs lo hi _ _ (hR.later hi') (Cap.of (b:=b1) (by repeat first | exact .head | apply Pick.tail) rfl hi') (Cap.of (b:=b2) (by repeat exact .head) rfl hi')) rfl (WO.p rfl rfl (WO.p rfl rfl (WO.nil (W.ret (fin.ret (Res.one rfl (RV.tmp rfl)) (congrArg Value.bool ?_))))))))))))))))
 rcases Decidable.em (∀ x∈xs,lo≤x∧x≤hi) with h | h
 ·(rw [bl_t.2 h,bl_f.2 (fun g=>g h)];try rfl)
 ·(rw [bl_f.2 h,bl_t.2 h];try rfl)
theorem all2 {lo hi x z:Int}:bl (∀ y∈[x,z],lo≤y∧y≤hi)=bl (lo≤x∧x≤hi∧lo≤z∧z≤hi):=by rw [bl_eq,bl_eq,decide_eq_decide];simp;omega
theorem okrn_of {r:Rn} (h1:OkN r.p) (h2:OkN r.q) (h3:r.p≠0∨r.q≠0) (h4 : -100000≤r.lo∧r.lo≤r.hi∧r.hi≤100000):OkRn r:=⟨h1,h2,h3,by omega,by omega,by omega⟩
theorem Cells.prtN {P:Program} {C:Cx P} {H:List HP} {p:Addr} {vs us:List Value} {o:Nat} (h:Cells C H p vs) (hs:∀ (j:Nat) (v:Value),us[j]?=some v→vs[o+j]?=some v):Cells C H (prt p o) us:=fun j v hv=>by
 rw [prt_eq,addr_add_add];exact h (o+j) v (hs j v hv)
theorem RdF.cellsV {C:Cx Tryz.prog} {H:List HP} {o:Value} {l:List Rn} (h:RdF encRn 4 C.B C.w0 o l) {i:Nat} (h1:i<l.length):Cells C H (prt (elt o i 4) 2) [.int .i64 (l.getD i rn0).lo,.int .i64 (l.getD i rn0).hi]:=Cells.prtN (RdF.cells4 h h1) (fun j v hv=>by
 match j,hv with
 | 0,hv=>exact hv
 | 1,hv=>exact hv)
theorem all_2 {lo hi x z:Int}:bl (∀ y∈[x,z],lo≤y∧y≤hi)=bl ((lo≤x∧x≤hi)∧lo≤z∧z≤hi):=by rw [bl_eq,bl_eq,decide_eq_decide];simp
theorem c_factors (w:World) (v:Value) (x y:Int) (hR:RdF encI 1 w.heap.size w v [x,y]):Ret Tryz.prog 132 [v].toArray w (.bool (bl (OkN x∧OkN y))):=by
 refine Ret.of mixed tyTab Tryz.func132 rfl rfl ?_
 replace hR:RdF encI 1 (fnCx mixed tyTab Tryz.f132.ntmps w).B (fnCx mixed tyTab Tryz.f132.ntmps w).w0 v [x,y]:=hR
 refine W.sreg (WO.p rfl rfl (WO.nil (W.sreg (WO.p rfl rfl (WO.callR (r:=.bool (bl (OkN x∧OkN y))) rfl Tryz.call130 (fun L w hi=>by have h:=c_within w v [x,y] (-20) 20 (hR.later hi);rw [all_2] at h;exact h) rfl (WO.p rfl rfl (WO.nil (W.ret ?_))))))))
 exact fin.ret (Res.one rfl (RV.tmp rfl)) rfl
theorem c_isRun (w:World) (r:Rn):Ret Tryz.prog 76 [rnV r].toArray w (.bool (bl (OkRn r))):=by
 refine Ret.of mixed tyTab Tryz.func76 rfl rfl (W.sreg (WO.boxA rfl rfl (fun b1 hb1=>(WO.p rfl rfl (WO.nil (W.sreg (WO.field0 rfl rfl rfl (WO.load rfl rfl (Cell.own Pick.head rfl) rfl (WO.fieldL rfl rfl rfl (WO.load rfl rfl (Cell.own Pick.head rfl) rfl (WO.buildSl rfl rfl rfl rfl rfl rfl rfl rfl rfl (fun v2=>(WO.callR (r:=.bool (bl (OkN r.p∧OkN r.q))) rfl Tryz.call132 (fun L w hi=>c_factors w _ r.p r.q (RdF.of_ow (e:=2) encI_ok (by repeat exact .head) hi)) rfl (WO.p rfl rfl ?_))))))))))))))
 refine WO.guard_bl rfl rfl (fun c1=>?_) (fun c1=>?_)
 ·refine WO.go' rfl (WO.field0 rfl rfl rfl (WO.go' rfl (WO.load rfl rfl (Cell.own (Pick.tail (Pick.head)) rfl) rfl (WO.pg rfl rfl rfl (WO.pg rfl rfl rfl ?_)))))
  refine WO.guard_bl rfl rfl (fun c2=>?_) (fun c2=>?_)
  ·refine WO.no rfl rfl (WO.no rfl rfl (WO.no rfl rfl (WO.pg rfl rfl rfl (WO.p rfl rfl (WO.p rfl rfl (WO.go' rfl (WO.fieldL rfl rfl rfl (WO.go' rfl (WO.field0 rfl rfl rfl (WO.go' rfl (WO.load rfl rfl (Cell.own (Pick.tail (Pick.head)) rfl) rfl (WO.go' rfl (WO.fieldL rfl rfl rfl (WO.go' rfl (WO.fieldL rfl rfl rfl (WO.go' rfl (WO.load rfl rfl (Cell.own (Pick.tail (Pick.head)) rfl) rfl (WO.pg rfl rfl rfl (WO.p rfl rfl (WO.p rfl rfl ?_))))))))))))))))))))
   refine WO.guard_bl rfl rfl (fun c3=>?_) (fun c3=>?_)
   ·refine WO.go' rfl (WO.fieldL rfl rfl rfl (WO.go' rfl (WO.field0 rfl rfl rfl (WO.go' rfl (WO.load rfl rfl (Cell.own (Pick.tail (Pick.head)) rfl) rfl (WO.go' rfl (WO.fieldL rfl rfl rfl (WO.go' rfl (WO.fieldL rfl rfl rfl (WO.go' rfl (WO.load rfl rfl (Cell.own (Pick.tail (Pick.head)) rfl) rfl (WO.go' rfl (WO.buildSl rfl rfl rfl rfl rfl rfl rfl rfl rfl (fun v3=>(WO.go' rfl ?_)))))))))))))))
    refine WO.callR (r:=.bool (bl ((-100000≤r.lo∧r.lo≤100000) ∧ -100000≤r.hi∧r.hi≤100000))) rfl Tryz.call130 (fun L w hi=>by have h:=c_within w _ [r.lo,r.hi] (-100000) 100000 (RdF.of_ow (e:=2) encI_ok (by repeat exact .head) hi);rw [all_2] at h;exact h) rfl (WO.p rfl rfl (WO.p rfl rfl (WO.nil (W.ret (fin.ret (Res.one rfl (RV.tmp rfl)) (congrArg Value.bool ?_))))))
    (rw [bl_eq,bl_eq,decide_eq_decide];simp only [OkRn,OkN] at *;omega)
   ·refine WO.no rfl rfl (WO.no rfl rfl (WO.no rfl rfl (WO.no rfl rfl (WO.no rfl rfl (WO.no rfl rfl (WO.no rfl rfl (WO.no rfl rfl (WO.p rfl rfl (WO.p rfl rfl (WO.nil (W.ret (fin.ret (Res.one rfl (RV.tmp rfl)) (congrArg Value.bool ?_)))))))))))))
    exact (bl_f.2 (by simp only [OkRn,OkN] at *;omega)).symm
  ·refine WO.go' rfl (WO.fieldL rfl rfl rfl (WO.go' rfl (WO.load rfl rfl (Cell.own (Pick.tail (Pick.head)) rfl) rfl (WO.pg rfl rfl rfl (WO.pg rfl rfl rfl (WO.p rfl rfl (WO.p rfl rfl ?_)))))))
   refine WO.guard_bl rfl rfl (fun c4=>?_) (fun c4=>?_)
   ·refine WO.go' rfl (WO.fieldL rfl rfl rfl (WO.go' rfl (WO.field0 rfl rfl rfl (WO.go' rfl (WO.load rfl rfl (Cell.own (Pick.tail (Pick.head)) rfl) rfl (WO.go' rfl (WO.fieldL rfl rfl rfl (WO.go' rfl (WO.fieldL rfl rfl rfl (WO.go' rfl (WO.load rfl rfl (Cell.own (Pick.tail (Pick.head)) rfl) rfl (WO.pg rfl rfl rfl (WO.p rfl rfl (WO.p rfl rfl ?_))))))))))))))
    refine WO.guard_bl rfl rfl (fun c5=>?_) (fun c5=>?_)
    ·refine WO.go' rfl (WO.fieldL rfl rfl rfl (WO.go' rfl (WO.field0 rfl rfl rfl (WO.go' rfl (WO.load rfl rfl (Cell.own (Pick.tail (Pick.head)) rfl) rfl (WO.go' rfl (WO.fieldL rfl rfl rfl (WO.go' rfl (WO.fieldL rfl rfl rfl (WO.go' rfl (WO.load rfl rfl (Cell.own (Pick.tail (Pick.head)) rfl) rfl (WO.go' rfl (WO.buildSl rfl rfl rfl rfl rfl rfl rfl rfl rfl (fun v4=>(WO.go' rfl ?_)))))))))))))))
     refine WO.callR (r:=.bool (bl ((-100000≤r.lo∧r.lo≤100000) ∧ -100000≤r.hi∧r.hi≤100000))) rfl Tryz.call130 (fun L w hi=>by have h:=c_within w _ [r.lo,r.hi] (-100000) 100000 (RdF.of_ow (e:=2) encI_ok (by repeat exact .head) hi);rw [all_2] at h;exact h) rfl (WO.p rfl rfl (WO.p rfl rfl (WO.nil (W.ret (fin.ret (Res.one rfl (RV.tmp rfl)) (congrArg Value.bool ?_))))))
     (rw [bl_eq,bl_eq,decide_eq_decide];simp only [OkRn,OkN] at *;omega)
    ·refine WO.no rfl rfl (WO.no rfl rfl (WO.no rfl rfl (WO.no rfl rfl (WO.no rfl rfl (WO.no rfl rfl (WO.no rfl rfl (WO.no rfl rfl (WO.p rfl rfl (WO.p rfl rfl (WO.nil (W.ret (fin.ret (Res.one rfl (RV.tmp rfl)) (congrArg Value.bool ?_)))))))))))))
     exact (bl_f.2 (by simp only [OkRn,OkN] at *;omega)).symm
   ·refine WO.no rfl rfl (WO.no rfl rfl (WO.no rfl rfl (WO.no rfl rfl (WO.no rfl rfl (WO.no rfl rfl (WO.no rfl rfl (WO.p rfl rfl (WO.p rfl rfl (WO.no rfl rfl (WO.no rfl rfl (WO.no rfl rfl (WO.no rfl rfl (WO.no rfl rfl (WO.no rfl rfl (WO.no rfl rfl (WO.no rfl rfl (WO.p rfl rfl (WO.p rfl rfl (WO.nil (W.ret (fin.ret (Res.one rfl (RV.tmp rfl)) (congrArg Value.bool ?_))))))))))))))))))))))
    exact (bl_f.2 (by simp only [OkRn,OkN] at *;omega)).symm
 ·refine WO.no rfl rfl (WO.no rfl rfl (WO.no rfl rfl (WO.no rfl rfl (WO.no rfl rfl (WO.no rfl rfl (WO.no rfl rfl (WO.no rfl rfl (WO.p rfl rfl (WO.p rfl rfl (WO.no rfl rfl (WO.no rfl rfl (WO.no rfl rfl (WO.no rfl rfl (WO.no rfl rfl (WO.no rfl rfl (WO.no rfl rfl (WO.p rfl rfl (WO.p rfl rfl (WO.no rfl rfl (WO.no rfl rfl (WO.no rfl rfl (WO.no rfl rfl (WO.no rfl rfl (WO.no rfl rfl (WO.no rfl rfl (WO.no rfl rfl (WO.p rfl rfl (WO.p rfl rfl (WO.nil (W.ret (fin.ret (Res.one rfl (RV.tmp rfl)) (congrArg Value.bool ?_))))))))))))))))))))))))))))))))
  exact (bl_f.2 (by simp only [OkRn,OkN] at *;omega)).symm
theorem c_bad (w:World) (r:Rn):Ret Tryz.prog 75 [rnV r].toArray w (.bool (bl (¬ OkRn r))):=by
 refine Ret.of mixed tyTab Tryz.func75 rfl rfl (W.sreg (WO.boxA rfl rfl (fun b1 hb1=>(WO.p rfl rfl (WO.nil (W.sreg (WO.loadA rfl rfl (Cells.own Pick.head) rfl rfl (WO.callR rfl Tryz.call76 (fun L w hi=>c_isRun w r) rfl (WO.p rfl rfl (WO.p rfl rfl (WO.nil (W.ret (fin.ret (Res.one rfl (RV.tmp rfl)) (congrArg Value.bool ?_))))))))))))))
 rcases Decidable.em (OkRn r) with h | h
 ·(rw [bl_t.2 h,bl_f.2 (fun g=>g h)];try rfl)
 ·(rw [bl_f.2 h,bl_t.2 h];try rfl)
theorem c_IndexR (w:World) (v:Value) (l:List Rn) (hR:RdF encRn 4 w.heap.size w v l):RetE Tryz.prog 140 [v,.func (.func 75) #[] #[]].toArray w (fun r=>∃ n:Int,r=.int .i64 n∧(0≤n↔¬ OkRs l)):=by
 refine RetE.of mixed tyTab Tryz.func140 rfl rfl ?_
 replace hR:RdF encRn 4 (fnCx mixed tyTab Tryz.f140.ntmps w).B (fnCx mixed tyTab Tryz.f140.ntmps w).w0 v l:=hR
 have hle:=hR.sl.le
 refine W.sreg (WO.p rfl rfl (WO.nil (W.seq (W.sreg (WO.p rfl rfl (WO.len rfl rfl hR.sl rfl (WO.p rfl rfl (WO.nil (W.block ?_)))))))))
 refine W.loop (fun (i:Nat)=>i≤l.length∧OkRs (l.take i))
  (fun (i:Nat)=>[(8,.int .i64 (i:Int)),(7,.int .i64 (l.length:Int)),(0,v),(1,.func (.func 75) #[] #[])])
  (fun (i:Nat)=>[])
  (fun (i:Nat)=>l.length-i) 0
  (by exact ⟨by omega,fun x hx=>by simp at hx⟩) ⟨rfl,rfl,rfl,rfl,trivial⟩ (by repeat (first | exact Sub.nil | refine Sub.cons (by repeat first | exact .head | apply Pick.tail) ?_)) ?_
 rintro i ⟨hi0,hal⟩
 refine W.sreg (WO.p rfl rfl (WO.nil (W.seq ?_)))
 refine W.cond_bl rfl (fun c1=>?_) (fun c1=>?_)
 ·refine W.skip (W.seq (W.block (W.sreg (WO.p rfl rfl (WO.p rfl rfl (WO.nil (W.sreg (WO.p rfl rfl (WO.p rfl rfl (WO.p rfl rfl (WO.indexAddr rfl rfl rfl hR.sl (by omega) rfl (WO.loadA rfl rfl (RdF.cells4 hR (i:=i) (by omega)) rfl rfl (WO.callCR (first:=[]) (captured:=[]) rfl rfl Tryz.call75 (fun L w hi'=>c_bad w (l.getD i rn0)) rfl (WO.nil ?_))))))))))))))
  refine W.cond_bl rfl (fun c2=>?_) (fun c2=>?_)
  ·refine W.sreg (WO.p rfl rfl (WO.p rfl rfl (WO.nil (W.ret ?_))))
   exact fin.ret (Res.one rfl (RV.tmp rfl)) ⟨_,rfl,by exact ⟨fun _=>not_all_getD (i:=i) (by omega) rn0 (by assumption),fun _=>by omega⟩⟩
  ·refine W.skip (W.region (WO.ar rfl rfl rfl (by unfold in64;omega) rfl (WO.p rfl rfl (WO.nil ?_))))
   refine' ⟨i+1,?hp,?hmu,⟨rfl,rfl,rfl,rfl,trivial⟩,?hS⟩
   case hS=>repeat (first | exact Sub.nil | refine Sub.cons (by repeat first | exact .head | apply Pick.tail) ?_)
   case hp=>exact ⟨by omega,all_succ (by omega) rn0 hal (Decidable.not_not.1 (by assumption))⟩
   case hmu=>omega
 ·refine W.exit (blk_same (W.sreg (WO.p rfl rfl (WO.nil (W.ret ?_)))))
  exact fin.ret (Res.one rfl (RV.tmp rfl)) ⟨_,rfl,by exact ⟨fun h=>by omega,fun h=>absurd (all_len (by omega) hal) h⟩⟩
theorem c_ContR (w:World) (v:Value) (l:List Rn) (hR:RdF encRn 4 w.heap.size w v l):Ret Tryz.prog 74 [v,.func (.func 75) #[] #[]].toArray w (.bool (bl (¬ OkRs l))):=by
 refine Ret.of mixed tyTab Tryz.func74 rfl rfl ?_
 replace hR:RdF encRn 4 (fnCx mixed tyTab Tryz.f74.ntmps w).B (fnCx mixed tyTab Tryz.f74.ntmps w).w0 v l:=hR
 refine W.sreg (WO.p rfl rfl (WO.nil (W.sreg (WO.p rfl rfl (WO.p rfl rfl (WO.callE rfl Tryz.call140 (fun L w hi'=>c_IndexR w v l (hR.later hi')) rfl ?_))))))
 rintro _ ⟨n,rfl,hn⟩
 refine WO.p rfl rfl (WO.p rfl rfl (WO.nil (W.ret (fin.ret (Res.one rfl (RV.tmp rfl)) (congrArg Value.bool ?_)))))
 rw [bl_eq,bl_eq];exact decide_eq_decide.2 hn
theorem c_CheckRuns (w:World) (v:Value) (l:List Rn) (hR:RdF encRn 4 w.heap.size w v l):Ret Tryz.prog 28 [v].toArray w (.int .i64 (chkRs l)):=by
 refine Ret.of mixed tyTab Tryz.func28 rfl rfl ?_
 replace hR:RdF encRn 4 (fnCx mixed tyTab Tryz.f28.ntmps w).B (fnCx mixed tyTab Tryz.f28.ntmps w).w0 v l:=hR
 refine W.sreg (WO.p rfl rfl (WO.nil (W.seq (W.block (W.sreg (WO.p rfl rfl (WO.len rfl rfl hR.sl rfl (WO.p rfl rfl (WO.p rfl rfl (WO.nil ?_))))))))))
 refine W.cond_bl rfl (fun c1=>?_) (fun c1=>?_)
 ·refine W.sreg (WO.p rfl rfl (WO.nil (W.ret (fin.ret (Res.one rfl (RV.tmp rfl)) (congrArg (Value.int .i64) ?_)))))
  (unfold chkRs;rw [if_pos (by omega)];done)
 ·refine W.sreg (WO.p rfl rfl (WO.callR rfl Tryz.call74 (fun L w hi'=>c_ContR w v l (hR.later hi')) rfl (WO.p rfl rfl (WO.nil ?_))))
  refine W.cond_bl rfl (fun c2=>?_) (fun c2=>?_)
  ·refine W.sreg (WO.p rfl rfl (WO.nil (W.ret (fin.ret (Res.one rfl (RV.tmp rfl)) (congrArg (Value.int .i64) ?_)))))
   (unfold chkRs;rw [if_neg (by omega),if_neg (by assumption)];done)
  ·refine W.skip (W.sreg (WO.p rfl rfl (WO.nil (W.ret (fin.ret (Res.one rfl (RV.tmp rfl)) (congrArg (Value.int .i64) ?_))))))
   (unfold chkRs;rw [if_neg (by omega),if_pos (Decidable.not_not.1 (by assumption))];done)
theorem ref_factor (w:World) (n:Int):Ret Tryz.prog 19 [.int .i64 n].toArray w (.bool (bl (OkN n))):=by
 refine Ret.of mixed tyTab Tryz.func19 rfl rfl (W.sreg (WO.p rfl rfl (WO.nil (W.sreg (WO.p rfl rfl (WO.p rfl rfl (WO.p rfl rfl ?_)))))))
 refine WO.guard_bl rfl rfl (fun c1=>?_) (fun c1=>?_)
 ·refine WO.pg rfl rfl rfl (WO.pg rfl rfl rfl (WO.p rfl rfl (WO.p rfl rfl (WO.nil (W.ret (fin.ret (Res.one rfl (RV.tmp rfl)) (congrArg Value.bool ?_)))))))
  (rw [bl_eq,bl_eq,decide_eq_decide];unfold OkN;omega)
 ·refine WO.no rfl rfl (WO.no rfl rfl (WO.p rfl rfl (WO.p rfl rfl (WO.nil (W.ret (fin.ret (Res.one rfl (RV.tmp rfl)) (congrArg Value.bool ?_)))))))
  exact (bl_f.2 (by unfold OkN;omega)).symm
theorem ref_values (w:World) (lo hi:Int):Ret Tryz.prog 20 [.agg #[.int .i64 lo,.int .i64 hi]].toArray w (.bool (bl (-100000≤lo∧lo≤hi∧hi≤100000))):=by
 refine Ret.of mixed tyTab Tryz.func20 rfl rfl (W.sreg (WO.boxA rfl rfl (fun b1 hb1=>(WO.p rfl rfl (WO.nil (W.sreg (WO.field0 rfl rfl rfl (WO.load rfl rfl (Cell.own Pick.head rfl) rfl (WO.p rfl rfl (WO.p rfl rfl ?_))))))))))
 refine WO.guard_bl rfl rfl (fun c1=>?_) (fun c1=>?_)
 ·refine WO.go' rfl (WO.field0 rfl rfl rfl (WO.go' rfl (WO.load rfl rfl (Cell.own Pick.head rfl) rfl (WO.go' rfl (WO.fieldL rfl rfl rfl (WO.go' rfl (WO.load rfl rfl (Cell.own Pick.head rfl) rfl (WO.pg rfl rfl rfl (WO.p rfl rfl (WO.p rfl rfl ?_))))))))))
  refine WO.guard_bl rfl rfl (fun c2=>?_) (fun c2=>?_)
  ·refine WO.go' rfl (WO.fieldL rfl rfl rfl (WO.go' rfl (WO.load rfl rfl (Cell.own Pick.head rfl) rfl (WO.pg rfl rfl rfl (WO.p rfl rfl (WO.p rfl rfl (WO.nil (W.ret (fin.ret (Res.one rfl (RV.tmp rfl)) (congrArg Value.bool ?_))))))))))
   (rw [bl_eq,bl_eq,decide_eq_decide];omega)
  ·refine WO.no rfl rfl (WO.no rfl rfl (WO.no rfl rfl (WO.p rfl rfl (WO.p rfl rfl (WO.nil (W.ret (fin.ret (Res.one rfl (RV.tmp rfl)) (congrArg Value.bool ?_))))))))
   exact (bl_f.2 (by omega)).symm
 ·refine WO.no rfl rfl (WO.no rfl rfl (WO.no rfl rfl (WO.no rfl rfl (WO.no rfl rfl (WO.p rfl rfl (WO.p rfl rfl (WO.no rfl rfl (WO.no rfl rfl (WO.no rfl rfl (WO.p rfl rfl (WO.p rfl rfl (WO.nil (W.ret (fin.ret (Res.one rfl (RV.tmp rfl)) (congrArg Value.bool ?_)))))))))))))))
  exact (bl_f.2 (by omega)).symm
theorem ref_CheckRuns (w:World) (v:Value) (l:List Rn) (hR:RdF encRn 4 w.heap.size w v l):Ret Tryz.prog 6 [v].toArray w (.int .i64 (chkRs l)):=by
 refine Ret.of mixed tyTab Tryz.func6 rfl rfl ?_
 replace hR:RdF encRn 4 (fnCx mixed tyTab Tryz.f6.ntmps w).B (fnCx mixed tyTab Tryz.f6.ntmps w).w0 v l:=hR
 have hle:=hR.sl.le
 refine W.sreg (WO.p rfl rfl (WO.nil (W.seq (W.sreg (WO.p rfl rfl (WO.len rfl rfl hR.sl rfl (WO.p rfl rfl (WO.nil ?_))))))))
 refine W.cond_bl rfl (fun c1=>?_) (fun c1=>?_)
 ·refine W.sreg (WO.p rfl rfl (WO.nil (W.ret (fin.ret (Res.one rfl (RV.tmp rfl)) (congrArg (Value.int .i64) ?_)))))
  (unfold chkRs;rw [if_pos (by omega)];done)
 ·refine W.skip (W.seq (W.sreg (WO.p rfl rfl (WO.nil (W.block ?_)))))
  refine W.loop (fun (i:Nat)=>i≤l.length∧OkRs (l.take i))
   (fun (i:Nat)=>[(3,.int .i64 (i:Int)),(0,v)])
   (fun (i:Nat)=>[])
   (fun (i:Nat)=>l.length-i) 0
   (by exact ⟨by omega,fun x hx=>by simp at hx⟩) ⟨rfl,rfl,trivial⟩ (by repeat (first | exact Sub.nil | refine Sub.cons (by repeat first | exact .head | apply Pick.tail) ?_)) ?_
  rintro i ⟨hi,hin⟩
  refine W.seq (W.sreg (WO.p rfl rfl (WO.p rfl rfl (WO.len rfl rfl hR.sl rfl (WO.p rfl rfl (WO.nil ?_))))))
  refine W.cond_bl rfl (fun c2=>?_) (fun c2=>?_)
  ·refine W.skip (W.seq (W.block (W.sreg (WO.p rfl rfl (WO.p rfl rfl (WO.indexAddr rfl rfl rfl hR.sl (by omega) rfl (WO.field0 rfl rfl rfl ?_)))))))
   refine' WO.load (v:=_) rfl rfl ?hc rfl ?_
   case hc=>((refine hR.cell0 (i:=i) (by omega) rn0 ?_;rfl))
   refine WO.callR rfl Tryz.call19 (fun L w hi=>ref_factor w (l.getD i rn0).p) rfl (WO.p rfl rfl (WO.p rfl rfl ?_))
   refine WO.guard_nbl rfl rfl (fun c3=>?_) (fun c3=>?_)
   ·refine WO.no rfl rfl (WO.no rfl rfl (WO.no rfl rfl (WO.no rfl rfl (WO.no rfl rfl (WO.no rfl rfl (WO.no rfl rfl (WO.p rfl rfl (WO.p rfl rfl (WO.no rfl rfl (WO.no rfl rfl (WO.no rfl rfl (WO.no rfl rfl (WO.no rfl rfl (WO.no rfl rfl (WO.no rfl rfl (WO.no rfl rfl (WO.no rfl rfl (WO.no rfl rfl (WO.no rfl rfl (WO.no rfl rfl (WO.no rfl rfl (WO.no rfl rfl (WO.p rfl rfl (WO.p rfl rfl (WO.no rfl rfl (WO.no rfl rfl (WO.no rfl rfl (WO.no rfl rfl (WO.no rfl rfl (WO.no rfl rfl (WO.no rfl rfl (WO.p rfl rfl (WO.nil (W.cond_t rfl (W.sreg (WO.p rfl rfl (WO.nil (W.ret (fin.ret (Res.one rfl (RV.tmp rfl)) (congrArg (Value.int .i64) ?_))))))))))))))))))))))))))))))))))))))))
    (unfold chkRs;rw [if_neg (by omega),if_neg (fun h=>by have h1:=h _ (getD_mem (show i<l.length by omega) rn0);simp only [OkRn,OkN] at *;omega)];done)
   ·refine WO.pg rfl rfl rfl (WO.pg rfl rfl rfl (WO.go' rfl (WO.indexAddr rfl rfl rfl hR.sl (by omega) rfl (WO.go' rfl (WO.field rfl rfl rfl (WO.go' rfl ?_))))))
    refine' WO.load (v:=_) rfl rfl ?hc rfl ?_
    case hc=>((refine hR.cellAt (i:=i) (by omega) rn0 ?_;rfl))
    refine WO.go' rfl (WO.callR rfl Tryz.call19 (fun L w hi=>ref_factor w (l.getD i rn0).q) rfl (WO.pg rfl rfl rfl (WO.p rfl rfl (WO.p rfl rfl ?_))))
    refine WO.guard_nbl rfl rfl (fun c4=>?_) (fun c4=>?_)
    ·refine WO.no rfl rfl (WO.no rfl rfl (WO.no rfl rfl (WO.no rfl rfl (WO.no rfl rfl (WO.no rfl rfl (WO.no rfl rfl (WO.no rfl rfl (WO.no rfl rfl (WO.no rfl rfl (WO.no rfl rfl (WO.no rfl rfl (WO.no rfl rfl (WO.no rfl rfl (WO.p rfl rfl (WO.p rfl rfl (WO.no rfl rfl (WO.no rfl rfl (WO.no rfl rfl (WO.no rfl rfl (WO.no rfl rfl (WO.no rfl rfl (WO.no rfl rfl (WO.p rfl rfl (WO.nil (W.cond_t rfl (W.sreg (WO.p rfl rfl (WO.nil (W.ret (fin.ret (Res.one rfl (RV.tmp rfl)) (congrArg (Value.int .i64) ?_)))))))))))))))))))))))))))))))
     (unfold chkRs;rw [if_neg (by omega),if_neg (fun h=>by have h1:=h _ (getD_mem (show i<l.length by omega) rn0);simp only [OkRn,OkN] at *;omega)];done)
    ·refine WO.pg rfl rfl rfl (WO.pg rfl rfl rfl (WO.go' rfl (WO.indexAddr rfl rfl rfl hR.sl (by omega) rfl (WO.go' rfl (WO.field0 rfl rfl rfl (WO.go' rfl ?_))))))
     refine' WO.load (v:=_) rfl rfl ?hc rfl ?_
     case hc=>((refine hR.cell0 (i:=i) (by omega) rn0 ?_;rfl))
     refine WO.pg rfl rfl rfl (WO.pg rfl rfl rfl ?_)
     refine WO.guard_bl rfl rfl (fun c5=>?_) (fun c5=>?_)
     ·refine WO.pg rfl rfl rfl (WO.pg rfl rfl rfl (WO.go' rfl (WO.indexAddr rfl rfl rfl hR.sl (by omega) rfl (WO.go' rfl (WO.field rfl rfl rfl (WO.go' rfl ?_))))))
      refine' WO.load (v:=_) rfl rfl ?hc rfl ?_
      case hc=>((refine hR.cellAt (i:=i) (by omega) rn0 ?_;rfl))
      refine WO.pg rfl rfl rfl (WO.pg rfl rfl rfl (WO.p rfl rfl (WO.p rfl rfl ?_)))
      refine WO.guard_bl rfl rfl (fun c6=>?_) (fun c6=>?_)
      ·refine WO.no rfl rfl (WO.no rfl rfl (WO.no rfl rfl (WO.no rfl rfl (WO.no rfl rfl (WO.no rfl rfl (WO.no rfl rfl (WO.p rfl rfl (WO.nil (W.cond_t rfl (W.sreg (WO.p rfl rfl (WO.nil (W.ret (fin.ret (Res.one rfl (RV.tmp rfl)) (congrArg (Value.int .i64) ?_)))))))))))))))
       (unfold chkRs;rw [if_neg (by omega),if_neg (fun h=>by have h1:=h _ (getD_mem (show i<l.length by omega) rn0);simp only [OkRn,OkN] at *;omega)];done)
      ·refine WO.pg rfl rfl rfl (WO.pg rfl rfl rfl (WO.go' rfl (WO.indexAddr rfl rfl rfl hR.sl (by omega) rfl (WO.go' rfl (WO.field rfl rfl rfl (WO.go' rfl (WO.loadA rfl rfl (RdF.cellsV hR (i:=i) (by omega)) rfl rfl (WO.go' rfl (WO.callR rfl Tryz.call20 (fun L w hi=>ref_values w (l.getD i rn0).lo (l.getD i rn0).hi) rfl (WO.pg rfl rfl rfl (WO.p rfl rfl (WO.nil ?_))))))))))))
       refine W.cond_nbl rfl (fun c7=>?_) (fun c7=>?_)
       ·refine W.sreg (WO.p rfl rfl (WO.nil (W.ret (fin.ret (Res.one rfl (RV.tmp rfl)) (congrArg (Value.int .i64) ?_)))))
        (unfold chkRs;rw [if_neg (by omega),if_neg (fun h=>by have h1:=h _ (getD_mem (show i<l.length by omega) rn0);simp only [OkRn,OkN] at *;omega)];done)
       ·refine W.skip (W.region (WO.p rfl rfl (WO.ar rfl rfl rfl (by unfold in64;omega) rfl (WO.p rfl rfl (WO.nil ?_)))))
        refine' ⟨i+1,?hp,?hmu,⟨rfl,rfl,trivial⟩,?hS⟩
        case hS=>repeat (first | exact Sub.nil | refine Sub.cons (by repeat first | exact .head | apply Pick.tail) ?_)
        case hp=>exact ⟨by omega,all_succ (by omega) rn0 hin (okrn_of (by assumption) (by assumption) (by omega) (by assumption))⟩
        case hmu=>omega
     ·refine WO.no rfl rfl (WO.no rfl rfl (WO.no rfl rfl (WO.no rfl rfl (WO.no rfl rfl (WO.no rfl rfl (WO.pg rfl rfl rfl (WO.p rfl rfl (WO.p rfl rfl (WO.pg rfl rfl rfl (WO.pg rfl rfl rfl (WO.go' rfl (WO.indexAddr rfl rfl rfl hR.sl (by omega) rfl (WO.go' rfl (WO.field rfl rfl rfl (WO.go' rfl (WO.loadA rfl rfl (RdF.cellsV hR (i:=i) (by omega)) rfl rfl (WO.go' rfl (WO.callR rfl Tryz.call20 (fun L w hi=>ref_values w (l.getD i rn0).lo (l.getD i rn0).hi) rfl (WO.pg rfl rfl rfl (WO.p rfl rfl (WO.nil ?_)))))))))))))))))))))
      refine W.cond_nbl rfl (fun c8=>?_) (fun c8=>?_)
      ·refine W.sreg (WO.p rfl rfl (WO.nil (W.ret (fin.ret (Res.one rfl (RV.tmp rfl)) (congrArg (Value.int .i64) ?_)))))
       (unfold chkRs;rw [if_neg (by omega),if_neg (fun h=>by have h1:=h _ (getD_mem (show i<l.length by omega) rn0);simp only [OkRn,OkN] at *;omega)];done)
      ·refine W.skip (W.region (WO.p rfl rfl (WO.ar rfl rfl rfl (by unfold in64;omega) rfl (WO.p rfl rfl (WO.nil ?_)))))
       refine' ⟨i+1,?hp,?hmu,⟨rfl,rfl,trivial⟩,?hS⟩
       case hS=>repeat (first | exact Sub.nil | refine Sub.cons (by repeat first | exact .head | apply Pick.tail) ?_)
       case hp=>exact ⟨by omega,all_succ (by omega) rn0 hin (okrn_of (by assumption) (by assumption) (by omega) (by assumption))⟩
       case hmu=>omega
  ·refine W.exit (blk_same (W.sreg (WO.p rfl rfl (WO.nil (W.ret (fin.ret (Res.one rfl (RV.tmp rfl)) (congrArg (Value.int .i64) ?_)))))))
   (unfold chkRs;rw [if_neg (by omega),if_pos (by rw [show i=l.length by omega,List.take_length] at hin;exact hin)];done)
end Go.Proofs.YthoeeeehfkenkaaGreat.Sp
namespace Go.Proofs.YthoeeeehfkenkaaGreat.Sp
open Go Go.TH
attribute [local irreducible] W WO pt
set_option maxRecDepth 10000
set_option maxHeartbeats 1000000
structure Tru where
 a:Int
 b:Int
 d:Int
abbrev truV (t:Tru):Value:=.agg #[.int .i64 t.a,.int .i64 t.b,.int .i64 t.d]
structure OkT (t:Tru):Prop where
 d:1≤t.d∧t.d≤1099511627776
 a : -1099511627776≤t.a∧t.a≤1099511627776
 b : -1099511627776≤t.b∧t.b≤1099511627776
theorem OkT_iff (t:Tru):OkT t↔(1≤t.d∧t.d≤1099511627776)∧(-1099511627776≤t.a∧t.a≤1099511627776)∧(-1099511627776≤t.b∧t.b≤1099511627776):=⟨fun h=>⟨h.d,h.a,h.b⟩,fun h=>⟨h.1,h.2.1,h.2.2⟩⟩
instance (t:Tru):Decidable (OkT t):=decidable_of_iff _ (OkT_iff t).symm
def fitR (r:Rn) (t:Tru):Prop:=r.lo*t.d≤r.p*t.a+r.q*t.b∧r.p*t.a+r.q*t.b≤r.hi*t.d
instance (r:Rn) (t:Tru):Decidable (fitR r t):=by unfold fitR;infer_instance
def fitL (l:List Rn) (t:Tru):Prop:=∀ r∈l,fitR r t
instance (l:List Rn) (t:Tru):Decidable (fitL l t):=by unfold fitL;infer_instance
def chkFit (l:List Rn) (t:Tru):Int:=if chkRs l≠0 then chkRs l else if OkT t then (if fitL l t then 0 else 20) else 2
theorem chkFit0 {l:List Rn} {t:Tru}:chkFit l t=0↔chkRs l=0∧OkT t∧fitL l t:=by
 unfold chkFit
 split
 ·exact ⟨fun h=>by omega,fun h=>by omega⟩
 ·split
  ·split
   ·exact ⟨fun _=>⟨by omega,by assumption,by assumption⟩,fun _=>rfl⟩
   ·exact ⟨fun h=>by omega,fun h=>absurd h.2.2 (by assumption)⟩
  ·exact ⟨fun h=>by omega,fun h=>absurd h.2.1 (by assumption)⟩
theorem chkFit_1 {l:List Rn} {t:Tru} (h:chkRs l≠0):chkRs l=chkFit l t:=by unfold chkFit;rw [if_pos h]
theorem chkFit_2 {l:List Rn} {t:Tru} (h:¬ chkRs l≠0) (g:¬ OkT t):2=chkFit l t:=by unfold chkFit;rw [if_neg h,if_neg g]
theorem chkFit_20 {l:List Rn} {t:Tru} (h:¬ chkRs l≠0) (g:OkT t) (f:¬ fitL l t):20=chkFit l t:=by unfold chkFit;rw [if_neg h,if_pos g,if_neg f]
theorem chkFit_0 {l:List Rn} {t:Tru} (h:¬ chkRs l≠0) (g:OkT t) (f:fitL l t):0=chkFit l t:=by unfold chkFit;rw [if_neg h,if_pos g,if_pos f]
theorem mul_bd {a b A B:Int} (ha : -A≤a∧a≤A) (hb : -B≤b∧b≤B) : -(A*B)≤a*b∧a*b≤A*B:=by
 have h1:=Int.mul_nonneg (show 0≤A-a by omega) (show 0≤B-b by omega)
 have h2:=Int.mul_nonneg (show 0≤A+a by omega) (show 0≤B+b by omega)
 have h3:=Int.mul_nonneg (show 0≤A-a by omega) (show 0≤B+b by omega)
 have h4:=Int.mul_nonneg (show 0≤A+a by omega) (show 0≤B-b by omega)
 rw [Int.sub_mul,Int.mul_sub,Int.mul_sub] at h1
 rw [Int.add_mul,Int.mul_add,Int.mul_add] at h2
 rw [Int.sub_mul,Int.mul_add,Int.mul_add] at h3
 rw [Int.add_mul,Int.mul_sub,Int.mul_sub] at h4
 constructor <;> omega
structure FB (r:Rn) (t:Tru):Prop where
 lo : -109951162777600000≤r.lo*t.d∧r.lo*t.d≤109951162777600000
 hi : -109951162777600000≤r.hi*t.d∧r.hi*t.d≤109951162777600000
 p : -21990232555520≤r.p*t.a∧r.p*t.a≤21990232555520
 q : -21990232555520≤r.q*t.b∧r.q*t.b≤21990232555520
theorem FB.of {r:Rn} {t:Tru} (h:OkRn r) (g:OkT t):FB r t:=by
 obtain ⟨h1,h2,_,h3,h4,h5⟩:=h
 have hd:=g.d
 unfold OkN at h1 h2
 exact ⟨mul_bd (A:=100000) (B:=1099511627776) (by omega) (by omega),mul_bd (A:=100000) (B:=1099511627776) (by omega) (by omega),mul_bd (A:=20) (B:=1099511627776) h1 g.a,mul_bd (A:=20) (B:=1099511627776) h2 g.b⟩
theorem Cell.prt2 {P:Program} {C:Cx P} {H:List HP} {p:Addr} {a b:Nat} {v:Value} (h:Cell C H (prt p (a+b)) v):Cell C H (prt (prt p a) b) v:=by
 rw [prt_eq,prt_eq,addr_add_add,← prt_eq];exact h
theorem ref_Valid (w:World) (t:Tru):Ret Tryz.prog 34 [truV t].toArray w (.bool (bl (OkT t))):=by
 refine Ret.of mixed tyTab Tryz.func34 rfl rfl (W.sreg (WO.boxA rfl rfl (fun b1 hb1=>(WO.p rfl rfl (WO.nil (W.sreg (WO.fieldL rfl rfl rfl (WO.load rfl rfl (Cell.own Pick.head rfl) rfl (WO.p rfl rfl (WO.p rfl rfl ?_))))))))))
 refine WO.guard_bl rfl rfl (fun c1=>?_) (fun c1=>?_)
 ·refine WO.go' rfl (WO.fieldL rfl rfl rfl (WO.go' rfl (WO.load rfl rfl (Cell.own Pick.head rfl) rfl (WO.pg rfl rfl rfl (WO.p rfl rfl (WO.p rfl rfl ?_))))))
  refine WO.guard_bl rfl rfl (fun c2=>?_) (fun c2=>?_)
  ·refine WO.go' rfl (WO.field0 rfl rfl rfl (WO.go' rfl (WO.load rfl rfl (Cell.own Pick.head rfl) rfl (WO.pg rfl rfl rfl (WO.p rfl rfl (WO.p rfl rfl ?_))))))
   refine WO.guard_bl rfl rfl (fun c3=>?_) (fun c3=>?_)
   ·refine WO.go' rfl (WO.field0 rfl rfl rfl (WO.go' rfl (WO.load rfl rfl (Cell.own Pick.head rfl) rfl (WO.pg rfl rfl rfl (WO.p rfl rfl (WO.p rfl rfl ?_))))))
    refine WO.guard_bl rfl rfl (fun c4=>?_) (fun c4=>?_)
    ·refine WO.go' rfl (WO.fieldL rfl rfl rfl (WO.go' rfl (WO.load rfl rfl (Cell.own Pick.head rfl) rfl (WO.pg rfl rfl rfl (WO.p rfl rfl (WO.p rfl rfl ?_))))))
     refine WO.guard_bl rfl rfl (fun c5=>?_) (fun c5=>?_)
     ·refine WO.go' rfl (WO.fieldL rfl rfl rfl (WO.go' rfl (WO.load rfl rfl (Cell.own Pick.head rfl) rfl (WO.pg rfl rfl rfl (WO.p rfl rfl (WO.p rfl rfl (WO.nil (W.ret (fin.ret (Res.one rfl (RV.tmp rfl)) (congrArg Value.bool ?_))))))))))
      (rw [bl_eq,bl_eq,decide_eq_decide,OkT_iff];omega)
     ·refine WO.no rfl rfl (WO.no rfl rfl (WO.no rfl rfl (WO.p rfl rfl (WO.p rfl rfl (WO.nil (W.ret (fin.ret (Res.one rfl (RV.tmp rfl)) (congrArg Value.bool ?_))))))))
      exact (bl_f.2 (by rw [OkT_iff];omega)).symm
    ·refine WO.no rfl rfl (WO.no rfl rfl (WO.no rfl rfl (WO.p rfl rfl (WO.p rfl rfl (WO.no rfl rfl (WO.no rfl rfl (WO.no rfl rfl (WO.p rfl rfl (WO.p rfl rfl (WO.nil (W.ret (fin.ret (Res.one rfl (RV.tmp rfl)) (congrArg Value.bool ?_)))))))))))))
     exact (bl_f.2 (by rw [OkT_iff];omega)).symm
   ·refine WO.no rfl rfl (WO.no rfl rfl (WO.no rfl rfl (WO.p rfl rfl (WO.p rfl rfl (WO.no rfl rfl (WO.no rfl rfl (WO.no rfl rfl (WO.p rfl rfl (WO.p rfl rfl (WO.no rfl rfl (WO.no rfl rfl (WO.no rfl rfl (WO.p rfl rfl (WO.p rfl rfl (WO.nil (W.ret (fin.ret (Res.one rfl (RV.tmp rfl)) (congrArg Value.bool ?_))))))))))))))))))
    exact (bl_f.2 (by rw [OkT_iff];omega)).symm
  ·refine WO.no rfl rfl (WO.no rfl rfl (WO.no rfl rfl (WO.p rfl rfl (WO.p rfl rfl (WO.no rfl rfl (WO.no rfl rfl (WO.no rfl rfl (WO.p rfl rfl (WO.p rfl rfl (WO.no rfl rfl (WO.no rfl rfl (WO.no rfl rfl (WO.p rfl rfl (WO.p rfl rfl (WO.no rfl rfl (WO.no rfl rfl (WO.no rfl rfl (WO.p rfl rfl (WO.p rfl rfl (WO.nil (W.ret (fin.ret (Res.one rfl (RV.tmp rfl)) (congrArg Value.bool ?_)))))))))))))))))))))))
   exact (bl_f.2 (by rw [OkT_iff];omega)).symm
 ·refine WO.no rfl rfl (WO.no rfl rfl (WO.no rfl rfl (WO.p rfl rfl (WO.p rfl rfl (WO.no rfl rfl (WO.no rfl rfl (WO.no rfl rfl (WO.p rfl rfl (WO.p rfl rfl (WO.no rfl rfl (WO.no rfl rfl (WO.no rfl rfl (WO.p rfl rfl (WO.p rfl rfl (WO.no rfl rfl (WO.no rfl rfl (WO.no rfl rfl (WO.p rfl rfl (WO.p rfl rfl (WO.no rfl rfl (WO.no rfl rfl (WO.no rfl rfl (WO.p rfl rfl (WO.p rfl rfl (WO.nil (W.ret (fin.ret (Res.one rfl (RV.tmp rfl)) (congrArg Value.bool ?_))))))))))))))))))))))))))))
  exact (bl_f.2 (by rw [OkT_iff];omega)).symm
theorem ref_fits (w:World) (v:Value) (l:List Rn) (t:Tru) (hR:RdF encRn 4 w.heap.size w v l) (hl:OkRs l) (ht:OkT t):Ret Tryz.prog 35 [v,truV t].toArray w (.bool (bl (fitL l t))):=by
 refine Ret.of mixed tyTab Tryz.func35 rfl rfl ?_
 replace hR:RdF encRn 4 (fnCx mixed tyTab Tryz.f35.ntmps w).B (fnCx mixed tyTab Tryz.f35.ntmps w).w0 v l:=hR
 have hle:=hR.sl.le
 refine W.sreg (WO.boxA rfl rfl (fun b1 hb1=>(WO.p rfl rfl (WO.nil (W.seq (W.sreg (WO.p rfl rfl (WO.nil (W.block ?_)))))))))
 refine W.loop (fun (i:Nat)=>i≤l.length∧fitL (l.take i) t)
  (fun (i:Nat)=>[(5,.int .i64 (i:Int)),(0,v),(3,.pointer (some ⟨b1,0,none⟩))])
  (fun (i:Nat)=>[pt b1 (.cells #[.int .i64 t.a,.int .i64 t.b,.int .i64 t.d] 45 (0,0))])
  (fun (i:Nat)=>l.length-i) 0
  (by exact ⟨by omega,fun x hx=>by simp at hx⟩) ⟨rfl,rfl,rfl,trivial⟩ (by repeat (first | exact Sub.nil | refine Sub.cons (by repeat exact .head) ?_)) ?_
 rintro i ⟨hi,hin⟩
 refine W.seq (W.sreg (WO.p rfl rfl (WO.p rfl rfl (WO.len rfl rfl hR.sl rfl (WO.p rfl rfl (WO.nil ?_))))))
 refine W.cond_bl rfl (fun c1=>?_) (fun c1=>?_)
 ·refine W.skip (W.seq (W.block (W.seq ?_)))
  have fb:=FB.of (hl _ (getD_mem (show i<l.length by omega) rn0)) ht
  obtain ⟨f1,f2,f3,f4⟩:=fb
  refine W.drawD 16 [.r 0 [],.r 1 [],.r 2 [],.r 3 [],.b 4 [],.r 5 [],.b 6 [],.r 7 [],.r 8 [],.r 9 [],.r 10 [],.r 11 [],.b 12 [],.r 13 [],.b 14 [],.r 15 []] [] (A0:=[]) (Sub.refl _) (by kernel_rfl) ?_ ?_
  ·repeat constructor
  refine DT.r rfl rfl rfl (WO.p rfl rfl (WO.nil ⟨rfl,rfl⟩)) (DT.r rfl rfl rfl (WO.p rfl rfl (WO.nil ⟨rfl,rfl⟩)) (DT.r rfl rfl rfl (WO.indexAddr rfl rfl rfl hR.sl (by omega) rfl (WO.nil ⟨rfl,rfl⟩)) (DT.r rfl rfl rfl (WO.field0 rfl rfl rfl (WO.nil ⟨rfl,rfl⟩)) ?_)))
  refine' DT.b rfl rfl rfl ?hq ?_
  case hq =>
   refine' WO.load (v:=_) rfl rfl ?hc rfl ?_
   case hc=>((refine hR.cell0 (i:=i) (by omega) rn0 ?_;rfl))
   exact WO.nil ⟨rfl,rfl⟩
  refine DT.r rfl rfl rfl (WO.field0 rfl rfl rfl (WO.nil ⟨rfl,rfl⟩)) (DT.b rfl rfl rfl (WO.load rfl rfl (Cell.own Pick.head rfl) rfl (WO.nil ⟨rfl,rfl⟩)) (DT.r rfl rfl rfl (WO.ar rfl rfl rfl (by unfold in64;omega) rfl (WO.nil ⟨rfl,rfl⟩)) (DT.r rfl rfl rfl (WO.p rfl rfl (WO.nil ⟨rfl,rfl⟩)) (DT.r rfl rfl rfl (WO.p rfl rfl (WO.nil ⟨rfl,rfl⟩)) (DT.r rfl rfl rfl (WO.indexAddr rfl rfl rfl hR.sl (by omega) rfl (WO.nil ⟨rfl,rfl⟩)) (DT.r rfl rfl rfl (WO.field rfl rfl rfl (WO.nil ⟨rfl,rfl⟩)) ?_))))))
  refine' DT.b rfl rfl rfl ?hq ?_
  case hq =>
   refine' WO.load (v:=_) rfl rfl ?hc rfl ?_
   case hc=>((refine hR.cellAt (i:=i) (by omega) rn0 ?_;rfl))
   exact WO.nil ⟨rfl,rfl⟩
  refine DT.r rfl rfl rfl (WO.fieldL rfl rfl rfl (WO.nil ⟨rfl,rfl⟩)) (DT.b rfl rfl rfl (WO.load rfl rfl (Cell.own Pick.head rfl) rfl (WO.nil ⟨rfl,rfl⟩)) (DT.r rfl rfl rfl (WO.ar rfl rfl rfl (by unfold in64;omega) rfl (WO.nil ⟨rfl,rfl⟩)) (DT.nil [_] rfl (WO.ar rfl rfl rfl (by unfold in64;omega) rfl (WO.p rfl rfl (WO.nil (W.seq ?_)))))))
  refine W.drawD 22 [.r 0 [],.r 1 [],.r 2 [],.r 3 [],.r 4 [],.r 5 [],.b 6 [],.r 7 [],.b 8 [],.r 9 [],.r 10 [],.r 11 [],.r 12 [],.r 13 [],.r 14 [],.r 15 [],.r 16 [],.r 17 [],.b 18 [],.r 19 [],.b 20 [],.r 21 []] [] (A0:=[]) (Sub.refl _) (by kernel_rfl) ?_ ?_
  ·repeat constructor
  refine DT.r rfl rfl rfl (WO.p rfl rfl (WO.nil ⟨rfl,rfl⟩)) (DT.r rfl rfl rfl (WO.p rfl rfl (WO.nil ⟨rfl,rfl⟩)) (DT.r rfl rfl rfl (WO.p rfl rfl (WO.nil ⟨rfl,rfl⟩)) (DT.r rfl rfl rfl (WO.indexAddr rfl rfl rfl hR.sl (by omega) rfl (WO.nil ⟨rfl,rfl⟩)) (DT.r rfl rfl rfl (WO.field rfl rfl rfl (WO.nil ⟨rfl,rfl⟩)) (DT.r rfl rfl rfl (WO.field0 rfl rfl rfl (WO.nil ⟨rfl,rfl⟩)) ?_)))))
  refine' DT.b rfl rfl rfl ?hq ?_
  case hq =>
   refine' WO.load (v:=_) rfl rfl ?hc rfl ?_
   case hc=>((refine hR.cellAt (i:=i) (by omega) rn0 ?_;rfl))
   exact WO.nil ⟨rfl,rfl⟩
  refine DT.r rfl rfl rfl (WO.fieldL rfl rfl rfl (WO.nil ⟨rfl,rfl⟩)) (DT.b rfl rfl rfl (WO.load rfl rfl (Cell.own Pick.head rfl) rfl (WO.nil ⟨rfl,rfl⟩)) (DT.r rfl rfl rfl (WO.ar rfl rfl rfl (by unfold in64;omega) rfl (WO.nil ⟨rfl,rfl⟩)) (DT.r rfl rfl rfl (WO.p rfl rfl (WO.nil ⟨rfl,rfl⟩)) ?_)))
  refine DT.rB rfl rfl rfl (WO.p rfl rfl (WO.nil ⟨rfl,rfl⟩)) (fun c2=>?_) (fun c2=>?_)
  ·refine DT.r rfl rfl rfl (WO.no rfl rfl (WO.nil ⟨rfl,rfl⟩)) (DT.r rfl rfl rfl (WO.no rfl rfl (WO.nil ⟨rfl,rfl⟩)) (DT.r rfl rfl rfl (WO.no rfl rfl (WO.nil ⟨rfl,rfl⟩)) (DT.r rfl rfl rfl (WO.no rfl rfl (WO.nil ⟨rfl,rfl⟩)) (DT.r rfl rfl rfl (WO.no rfl rfl (WO.nil ⟨rfl,rfl⟩)) (DT.r rfl rfl rfl (WO.no rfl rfl (WO.nil ⟨rfl,rfl⟩)) (DT.b rfl rfl rfl (WO.no rfl rfl (WO.nil ⟨rfl,rfl⟩)) (DT.r rfl rfl rfl (WO.no rfl rfl (WO.nil ⟨rfl,rfl⟩)) (DT.b rfl rfl rfl (WO.no rfl rfl (WO.nil ⟨rfl,rfl⟩)) (DT.r rfl rfl rfl (WO.no rfl rfl (WO.nil ⟨rfl,rfl⟩)) (DT.nil [_] rfl (WO.no rfl rfl (WO.p rfl rfl (WO.nil (W.cond_t rfl (W.sreg (WO.p rfl rfl (WO.nil (W.ret ?_))))))))))))))))))
   refine fin.ret (Res.one rfl (RV.tmp rfl)) (congrArg Value.bool ?_)
   exact (bl_f.2 (fun h=>by have h1:=h _ (getD_mem (show i<l.length by omega) rn0);unfold fitR at h1;omega)).symm
  ·refine DT.r rfl rfl rfl (WO.pg rfl rfl rfl (WO.nil ⟨rfl,rfl⟩)) (DT.r rfl rfl rfl (WO.pg rfl rfl rfl (WO.nil ⟨rfl,rfl⟩)) (DT.r rfl rfl rfl (WO.pg rfl rfl rfl (WO.nil ⟨rfl,rfl⟩)) (DT.r rfl rfl rfl (WO.go' rfl (WO.indexAddr rfl rfl rfl hR.sl (by omega) rfl (WO.nil ⟨rfl,rfl⟩))) (DT.r rfl rfl rfl (WO.go' rfl (WO.field rfl rfl rfl (WO.nil ⟨rfl,rfl⟩))) (DT.r rfl rfl rfl (WO.go' rfl (WO.field rfl rfl rfl (WO.nil ⟨rfl,rfl⟩))) ?_)))))
   refine' DT.b rfl rfl rfl ?hq ?_
   case hq =>
    refine WO.go' rfl ?_
    refine' WO.load (v:=_) rfl rfl ?hc rfl ?_
    case hc=>((refine Cell.prt2 (a:=2) (b:=1) (hR.cellAt (i:=i) (j:=3) (by omega) rn0 ?_);rfl))
    exact WO.nil ⟨rfl,rfl⟩
   refine DT.r rfl rfl rfl (WO.go' rfl (WO.fieldL rfl rfl rfl (WO.nil ⟨rfl,rfl⟩))) (DT.b rfl rfl rfl (WO.go' rfl (WO.load rfl rfl (Cell.own Pick.head rfl) rfl (WO.nil ⟨rfl,rfl⟩))) (DT.r rfl rfl rfl (WO.go' rfl (WO.ar rfl rfl rfl (by unfold in64;omega) rfl (WO.nil ⟨rfl,rfl⟩))) (DT.nil [_] rfl (WO.pg rfl rfl rfl (WO.p rfl rfl (WO.nil ?_))))))
   refine W.cond_bl rfl (fun c3=>?_) (fun c3=>?_)
   ·refine W.sreg (WO.p rfl rfl (WO.nil (W.ret (fin.ret (Res.one rfl (RV.tmp rfl)) (congrArg Value.bool ?_)))))
    exact (bl_f.2 (fun h=>by have h1:=h _ (getD_mem (show i<l.length by omega) rn0);unfold fitR at h1;omega)).symm
   ·refine W.skip (W.region (WO.p rfl rfl (WO.ar rfl rfl rfl (by unfold in64;omega) rfl (WO.p rfl rfl (WO.nil ?_)))))
    refine' ⟨i+1,?hp,?hmu,⟨rfl,rfl,rfl,trivial⟩,?hS⟩
    case hS=>repeat (first | exact Sub.nil | refine Sub.cons (by repeat exact .head) ?_)
    case hp=>exact ⟨by omega,all_succ (by omega) rn0 hin ⟨by omega,by omega⟩⟩
    case hmu=>omega
 ·refine W.exit (blk_same (W.sreg (WO.p rfl rfl (WO.nil (W.ret (fin.ret (Res.one rfl (RV.tmp rfl)) (congrArg Value.bool ?_)))))))
  exact (bl_t.2 (by rw [show i=l.length by omega,List.take_length] at hin;exact hin)).symm
theorem ref_Fits (w:World) (v:Value) (l:List Rn) (t:Tru) (hR:RdF encRn 4 w.heap.size w v l):Ret Tryz.prog 13 [v,truV t].toArray w (.int .i64 (chkFit l t)):=by
 refine Ret.of mixed tyTab Tryz.func13 rfl rfl ?_
 replace hR:RdF encRn 4 (fnCx mixed tyTab Tryz.f13.ntmps w).B (fnCx mixed tyTab Tryz.f13.ntmps w).w0 v l:=hR
 refine W.sreg (WO.boxA rfl rfl (fun b1 hb1=>(WO.p rfl rfl (WO.nil (W.seq (W.sreg (WO.p rfl rfl (WO.callR rfl Tryz.call6 (fun L w hi=>ref_CheckRuns w v l (hR.later hi)) rfl (WO.p rfl rfl (WO.nil ?_))))))))))
 refine W.cond_bl rfl (fun c1=>?_) (fun c1=>?_)
 ·refine W.sreg (WO.p rfl rfl (WO.callR rfl Tryz.call6 (fun L w hi=>ref_CheckRuns w v l (hR.later hi)) rfl (WO.p rfl rfl (WO.nil (W.ret (fin.ret (Res.one rfl (RV.tmp rfl)) (congrArg (Value.int .i64) ?_)))))))
  exact chkFit_1 (by assumption)
 ·refine W.skip (W.seq (W.sreg (WO.loadA rfl rfl (Cells.own Pick.head) rfl rfl (WO.callR rfl Tryz.call34 (fun L w hi=>ref_Valid w t) rfl (WO.p rfl rfl (WO.nil ?_))))))
  refine W.cond_nbl rfl (fun c2=>?_) (fun c2=>?_)
  ·refine W.sreg (WO.p rfl rfl (WO.nil (W.ret (fin.ret (Res.one rfl (RV.tmp rfl)) (congrArg (Value.int .i64) ?_)))))
   exact chkFit_2 (by assumption) (by assumption)
  ·refine W.skip (W.seq (W.sreg (WO.p rfl rfl (WO.loadA rfl rfl (Cells.own Pick.head) rfl rfl ?_))))
   have hrs:=chkRs0.1 (show chkRs l=0 by omega)
   refine WO.callR rfl Tryz.call35 (fun L w hi=>ref_fits w v l t (hR.later hi) hrs.2 (by assumption)) rfl (WO.p rfl rfl (WO.nil ?_))
   refine W.cond_nbl rfl (fun c3=>?_) (fun c3=>?_)
   ·refine W.sreg (WO.p rfl rfl (WO.nil (W.ret (fin.ret (Res.one rfl (RV.tmp rfl)) (congrArg (Value.int .i64) ?_)))))
    exact chkFit_20 (by assumption) (by assumption) (by assumption)
   ·refine W.skip (W.sreg (WO.p rfl rfl (WO.nil (W.ret (fin.ret (Res.one rfl (RV.tmp rfl)) (congrArg (Value.int .i64) ?_))))))
    exact chkFit_0 (by assumption) (by assumption) (by assumption)
theorem all_1 {lo hi x:Int}:bl (∀ y∈[x],lo≤y∧y≤hi)=bl (lo≤x∧x≤hi):=by rw [bl_eq,bl_eq,decide_eq_decide];simp
theorem c_Fits (w:World) (v:Value) (l:List Rn) (t:Tru) (hR:RdF encRn 4 w.heap.size w v l):Ret Tryz.prog 70 [v,truV t].toArray w (.int .i64 (chkFit l t)):=by
 refine Ret.of mixed tyTab Tryz.func70 rfl rfl ?_
 replace hR:RdF encRn 4 (fnCx mixed tyTab Tryz.f70.ntmps w).B (fnCx mixed tyTab Tryz.f70.ntmps w).w0 v l:=hR
 have hle:=hR.sl.le
 refine W.sreg (WO.boxA rfl rfl (fun b1 hb1=>(WO.p rfl rfl (WO.nil (W.seq (W.sreg (WO.p rfl rfl (WO.callR rfl Tryz.call28 (fun L w hi=>c_CheckRuns w v l (hR.later hi)) rfl (WO.p rfl rfl (WO.nil (W.sreg (WO.p rfl rfl (WO.p rfl rfl (WO.nil ?_))))))))))))))
 refine W.cond_bl rfl (fun c1=>?_) (fun c1=>?_)
 ·refine W.sreg (WO.p rfl rfl (WO.p rfl rfl (WO.nil (W.ret (fin.ret (Res.one rfl (RV.tmp rfl)) (congrArg (Value.int .i64) ?_))))))
  exact chkFit_1 (by assumption)
 ·refine W.skip (W.seq (W.sreg (WO.fieldL rfl rfl rfl (WO.load rfl rfl (Cell.own Pick.head rfl) rfl (WO.buildSl rfl rfl rfl rfl rfl rfl rfl rfl rfl (fun v2=>(WO.callR (r:=.bool (bl (1≤t.d∧t.d≤1099511627776))) rfl Tryz.call130 (fun L w hi=>by have h:=c_within w _ [t.d] 1 1099511627776 (RdF.of_ow (e:=2) encI_ok (by repeat exact .head) hi);rw [all_1] at h;exact h) rfl (WO.p rfl rfl (WO.p rfl rfl ?_)))))))))
  refine WO.guard_nbl rfl rfl (fun c2=>?_) (fun c2=>?_)
  ·refine WO.no rfl rfl (WO.no rfl rfl (WO.no rfl rfl (WO.no rfl rfl (WO.no rfl rfl (WO.no rfl rfl (WO.no rfl rfl (WO.p rfl rfl (WO.nil (W.cond_t rfl (W.sreg (WO.p rfl rfl (WO.nil (W.ret (fin.ret (Res.one rfl (RV.tmp rfl)) (congrArg (Value.int .i64) ?_)))))))))))))))
   exact chkFit_2 (by assumption) (by rw [OkT_iff];omega)
  ·refine WO.go' rfl (WO.field0 rfl rfl rfl (WO.go' rfl (WO.load rfl rfl (Cell.own (Pick.tail (Pick.head)) rfl) rfl (WO.go' rfl (WO.fieldL rfl rfl rfl (WO.go' rfl (WO.load rfl rfl (Cell.own (Pick.tail (Pick.head)) rfl) rfl (WO.go' rfl (WO.buildSl rfl rfl rfl rfl rfl rfl rfl rfl rfl (fun v3=>(WO.go' rfl (WO.callR (r:=.bool (bl ((-1099511627776≤t.a∧t.a≤1099511627776) ∧ -1099511627776≤t.b∧t.b≤1099511627776))) rfl Tryz.call130 (fun L w hi=>by have h:=c_within w _ [t.a,t.b] (-1099511627776) 1099511627776 (RdF.of_ow (e:=2) encI_ok (by repeat exact .head) hi);rw [all_2] at h;exact h) rfl (WO.pg rfl rfl rfl (WO.p rfl rfl ?_))))))))))))))
   refine WO.nil ?_
   refine W.cond_nbl rfl (fun c3=>?_) (fun c3=>?_)
   ·refine W.sreg (WO.p rfl rfl (WO.nil (W.ret (fin.ret (Res.one rfl (RV.tmp rfl)) (congrArg (Value.int .i64) ?_)))))
    exact chkFit_2 (by assumption) (by rw [OkT_iff];omega)
   ·refine W.skip (W.seq (W.sreg (WO.p rfl rfl (WO.len rfl rfl hR.sl rfl (WO.p rfl rfl (WO.nil (W.block ?_)))))))
    refine W.loop (fun (i:Nat)=>i≤l.length∧fitL (l.take i) t)
     (fun (i:Nat)=>[(29,.int .i64 (i:Int)),(28,.int .i64 (l.length:Int)),(27,v),(3,.pointer (some ⟨b1,0,none⟩))])
     (fun (i:Nat)=>[pt b1 (.cells #[.int .i64 t.a,.int .i64 t.b,.int .i64 t.d] 45 (0,0))])
     (fun (i:Nat)=>l.length-i) 0
     (by exact ⟨by omega,fun x hx=>by simp at hx⟩) ⟨rfl,rfl,rfl,rfl,trivial⟩ (by repeat (first | exact Sub.nil | refine Sub.cons (by repeat first | exact .head | apply Pick.tail) ?_)) ?_
    rintro i ⟨hi0,hin⟩
    refine W.sreg (WO.p rfl rfl (WO.nil (W.seq ?_)))
    refine W.cond_bl rfl (fun c4=>?_) (fun c4=>?_)
    ·refine W.skip (W.seq (W.block ?_))
     have hrs:=chkRs0.1 (show chkRs l=0 by omega)
     have htt:OkT t:=⟨by assumption,(show _∧_ by assumption).1,(show _∧_ by assumption).2⟩
     have fb:=FB.of (hrs.2 _ (getD_mem (show i<l.length by omega) rn0)) htt
     obtain ⟨f1,f2,f3,f4⟩:=fb
     refine W.sreg (WO.indexAddr rfl rfl rfl hR.sl (by omega) rfl (WO.loadA rfl rfl (RdF.cells4 hR (i:=i) (by omega)) rfl rfl (WO.alloc rfl rfl rfl (fun b4 hb4=>(WO.storeA rfl rfl rfl rfl Pick.head rfl rfl (WO.nil (W.sreg ?_)))))))
     refine WO.fieldL rfl rfl rfl (WO.field0 rfl rfl rfl (WO.load rfl rfl (Cell.own Pick.head rfl) rfl (WO.fieldL rfl rfl rfl (WO.load rfl rfl (Cell.own (Pick.tail (Pick.head)) rfl) rfl (WO.ar rfl rfl rfl (by unfold in64;omega) rfl (WO.fieldL rfl rfl rfl (WO.fieldL rfl rfl rfl (WO.load rfl rfl (Cell.own Pick.head rfl) rfl (WO.fieldL rfl rfl rfl (WO.load rfl rfl (Cell.own (Pick.tail (Pick.head)) rfl) rfl (WO.ar rfl rfl rfl (by unfold in64;omega) rfl ?_)))))))))))
     refine WO.field0 rfl rfl rfl (WO.load rfl rfl (Cell.own Pick.head rfl) rfl (WO.field0 rfl rfl rfl (WO.load rfl rfl (Cell.own (Pick.tail (Pick.head)) rfl) rfl (WO.ar rfl rfl rfl (by unfold in64;omega) rfl (WO.fieldL rfl rfl rfl (WO.load rfl rfl (Cell.own Pick.head rfl) rfl (WO.fieldL rfl rfl rfl (WO.load rfl rfl (Cell.own (Pick.tail (Pick.head)) rfl) rfl (WO.ar rfl rfl rfl (by unfold in64;omega) rfl (WO.ar rfl rfl rfl (by unfold in64;omega) rfl (WO.buildSl rfl rfl rfl rfl rfl rfl rfl rfl rfl (fun v5=>?_))))))))))))
     refine WO.callR (r:=.bool (bl (fitR (l.getD i rn0) t))) rfl Tryz.call130 (fun L w hi=>by have h:=c_within w _ [(l.getD i rn0).p*t.a+(l.getD i rn0).q*t.b] ((l.getD i rn0).lo*t.d) ((l.getD i rn0).hi*t.d) (RdF.of_ow (e:=2) encI_ok (by repeat exact .head) hi);rw [all_1] at h;exact h) rfl (WO.p rfl rfl (WO.nil ?_))
     refine W.cond_nbl rfl (fun c5=>?_) (fun c5=>?_)
     ·refine W.sreg (WO.p rfl rfl (WO.nil (W.ret (fin.ret (Res.one rfl (RV.tmp rfl)) (congrArg (Value.int .i64) ?_)))))
      exact chkFit_20 (by assumption) htt (fun h=>absurd (h _ (getD_mem (show i<l.length by omega) rn0)) (by assumption))
     ·refine W.skip (W.region (WO.ar rfl rfl rfl (by unfold in64;omega) rfl (WO.p rfl rfl (WO.nil ?_))))
      refine' ⟨i+1,?hp,?hmu,⟨rfl,rfl,rfl,rfl,trivial⟩,?hS⟩
      case hS=>repeat (first | exact Sub.nil | refine Sub.cons (by repeat first | exact .head | apply Pick.tail) ?_)
      case hp=>exact ⟨by omega,all_succ (by omega) rn0 hin (by assumption)⟩
      case hmu=>omega
    ·refine W.exit (blk_same (W.sreg (WO.p rfl rfl (WO.nil (W.ret (fin.ret (Res.one rfl (RV.tmp rfl)) (congrArg (Value.int .i64) ?_)))))))
     exact chkFit_0 (by assumption) ⟨by omega,by omega,by omega⟩ (by rw [show i=l.length by omega,List.take_length] at hin;exact hin)
def chkA (l:List Rn) (p q:Int):Int:=if chkRs l≠0 then chkRs l else if OkN p∧OkN q then 0 else 3
theorem chkA0 {l:List Rn} {p q:Int}:chkA l p q=0↔chkRs l=0∧OkN p∧OkN q:=by
 unfold chkA
 split
 ·exact ⟨fun h=>by omega,fun h=>by omega⟩
 ·split
  ·exact ⟨fun _=>⟨by omega,by assumption⟩,fun _=>rfl⟩
  ·exact ⟨fun h=>by omega,fun h=>absurd h.2 (by assumption)⟩
theorem c_check (w:World) (v:Value) (l:List Rn) (p q:Int) (hR:RdF encRn 4 w.heap.size w v l):Ret Tryz.prog 72 [v,.int .i64 p,.int .i64 q].toArray w (.int .i64 (chkA l p q)):=by
 refine Ret.of mixed tyTab Tryz.func72 rfl rfl ?_
 replace hR:RdF encRn 4 (fnCx mixed tyTab Tryz.f72.ntmps w).B (fnCx mixed tyTab Tryz.f72.ntmps w).w0 v l:=hR
 refine W.sreg (WO.p rfl rfl (WO.nil (W.seq (W.sreg (WO.p rfl rfl (WO.callR rfl Tryz.call28 (fun L w hi=>c_CheckRuns w v l (hR.later hi)) rfl (WO.p rfl rfl (WO.nil (W.sreg (WO.p rfl rfl (WO.p rfl rfl (WO.nil ?_))))))))))))
 refine W.cond_bl rfl (fun c1=>?_) (fun c1=>?_)
 ·refine W.sreg (WO.p rfl rfl (WO.p rfl rfl (WO.nil (W.ret (fin.ret (Res.one rfl (RV.tmp rfl)) (congrArg (Value.int .i64) ?_))))))
  (unfold chkA;rw [if_pos (by assumption)];done)
 ·refine W.skip (W.seq (W.sreg (WO.p rfl rfl (WO.p rfl rfl (WO.buildSl rfl rfl rfl rfl rfl rfl rfl rfl rfl (fun v1=>(WO.callR rfl Tryz.call132 (fun L w hi=>c_factors w _ p q (RdF.of_ow (e:=2) encI_ok (by repeat exact .head) hi)) rfl (WO.p rfl rfl (WO.nil ?_)))))))))
  refine W.cond_nbl rfl (fun c2=>?_) (fun c2=>?_)
  ·refine W.sreg (WO.p rfl rfl (WO.nil (W.ret (fin.ret (Res.one rfl (RV.tmp rfl)) (congrArg (Value.int .i64) ?_)))))
   (unfold chkA;rw [if_neg (by assumption),if_neg (by assumption)];done)
  ·refine W.skip (W.sreg (WO.p rfl rfl (WO.nil (W.ret (fin.ret (Res.one rfl (RV.tmp rfl)) (congrArg (Value.int .i64) ?_))))))
   (unfold chkA;rw [if_neg (by assumption),if_pos (by assumption)];done)
end Go.Proofs.YthoeeeehfkenkaaGreat.Sp
