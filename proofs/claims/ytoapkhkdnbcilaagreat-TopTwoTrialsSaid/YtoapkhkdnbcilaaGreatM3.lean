/-
  What is proved here: which trials are valid. Conditions: none; each contract states its own.
-/
import Derived.Test.YtoapkhkdnbcilaaGreatM2
set_option linter.unusedVariables false
set_option linter.unusedSimpArgs false
namespace Go.Proofs.YtoapkhkdnbcilaaGreat.Tr
open Go Go.TH
attribute [local irreducible] W WO pt
set_option maxRecDepth 10000
set_option maxHeartbeats 1000000
theorem foldl_take {α β:Type} (f:β→α→β) {l:List α} {i:Nat} (h:i<l.length) (z:α) (b:β):(l.take (i+1)).foldl f b=f ((l.take i).foldl f b) (l.getD i z):=by
 rw [take_succ_getD h z,List.foldl_append];rfl
def minL:List Int→Int
 | []=>0
 | x::r=>r.foldl min x
def maxL:List Int→Int
 | []=>0
 | x::r=>r.foldl max x
theorem minL_succ {xs:List Int} {i:Nat} (h:i<xs.length) (h1:1≤i):minL (xs.take (i+1))=min (minL (xs.take i)) (xs.getD i 0):=by
 cases xs with
 | nil=>simp at h
 | cons x r =>
  obtain ⟨j,rfl⟩:∃ j,i=j+1:=⟨i-1,by omega⟩
  simp only [List.take_succ_cons,minL]
  rw [foldl_take _ (by simpa using h) 0];simp
theorem maxL_succ {xs:List Int} {i:Nat} (h:i<xs.length) (h1:1≤i):maxL (xs.take (i+1))=max (maxL (xs.take i)) (xs.getD i 0):=by
 cases xs with
 | nil=>simp at h
 | cons x r =>
  obtain ⟨j,rfl⟩:∃ j,i=j+1:=⟨i-1,by omega⟩
  simp only [List.take_succ_cons,maxL]
  rw [foldl_take _ (by simpa using h) 0];simp
theorem minL_one {xs:List Int} (h:0<xs.length):minL (xs.take 1)=xs.getD 0 0:=by
 cases xs with
 | nil=>simp at h
 | cons x r=>simp [minL]
theorem maxL_one {xs:List Int} (h:0<xs.length):maxL (xs.take 1)=xs.getD 0 0:=by
 cases xs with
 | nil=>simp at h
 | cons x r=>simp [maxL]
theorem c_Min (w:World) (o:Value) (xs:List Int) (hR:RdF encI 1 w.heap.size w o xs) (hn:0<xs.length):Ret Tryz.prog 201 [o].toArray w (.int .i64 (minL xs)):=by
 refine Ret.of mixed tyTab Tryz.func201 rfl rfl ?_
 replace hR:RdF encI 1 (fnCx mixed tyTab Tryz.f201.ntmps w).B (fnCx mixed tyTab Tryz.f201.ntmps w).w0 o xs:=hR
 have hle:=hR.sl.le
 refine W.sreg (WO.p rfl rfl (WO.nil (W.seq (W.sreg (WO.p rfl rfl (WO.len rfl rfl hR.sl rfl (WO.p rfl rfl (WO.nil ?_))))))))
 refine W.cond_bl rfl (fun c1=>?_) (fun c1=>?_)
 ·exfalso;omega
 ·refine W.skip (W.sreg (WO.p rfl rfl (WO.indexAddr (i:=0) rfl rfl rfl hR.sl (by omega) rfl ?_)))
  refine' WO.load (v:=_) rfl rfl ?hc rfl ?_
  case hc=>(first | (refine hR.cell0 ?_ 0 ?_ <;> first | rfl | omega))
  refine WO.p rfl rfl (WO.nil (W.seq (W.sreg (WO.p rfl rfl (WO.nil (W.block ?_))))))
  refine W.loop2 (fun (i:Nat) (m:Int)=>1≤i∧i≤xs.length∧m=minL (xs.take i))
   (fun (i:Nat) (m:Int)=>[(4,.int .i64 (i:Int)),(3,.int .i64 m),(0,o)])
   (fun (i:Nat) (m:Int)=>[])
   (fun (i:Nat) (m:Int)=>xs.length-i) 1 (xs.getD 0 0)
   (by exact ⟨by omega,by omega,(minL_one hn).symm⟩) ⟨rfl,rfl,rfl,trivial⟩ (by repeat (first | exact Sub.nil | refine Sub.cons (by repeat first | exact .head | apply Pick.tail) ?_)) ?_
  rintro i m ⟨h1,hi,em⟩
  refine W.seq (W.sreg (WO.p rfl rfl (WO.p rfl rfl (WO.len rfl rfl hR.sl rfl (WO.p rfl rfl (WO.nil ?_))))))
  refine W.cond_bl rfl (fun c3=>?_) (fun c3=>?_)
  ·refine W.skip (W.seq (W.block (W.region (WO.p rfl rfl (WO.p rfl rfl (WO.p rfl rfl (WO.indexAddr rfl rfl rfl hR.sl (by omega) rfl ?_)))))))
   refine' WO.load (v:=_) rfl rfl ?hc rfl ?_
   case hc=>(first | (refine hR.cell0 ?_ 0 ?_ <;> first | rfl | omega))
   refine WO.min2 rfl rfl rfl (WO.p rfl rfl (WO.nil (W.region (WO.p rfl rfl (WO.ar rfl rfl rfl (by (first | (unfold in64;omega))) rfl (WO.p rfl rfl (WO.nil ?_)))))))
   refine' ⟨i+1,_,?hp,?hmu,⟨rfl,rfl,rfl,trivial⟩,?hS⟩
   case hS=>repeat (first | exact Sub.nil | refine Sub.cons (by repeat first | exact .head | apply Pick.tail) ?_)
   case hp=>exact ⟨by omega,by omega,by rw [minL_succ (by omega) h1,em]⟩
   case hmu=>omega
  ·refine W.exit (blk_same (W.sreg (WO.p rfl rfl (WO.p rfl rfl (WO.nil (W.ret ?_))))))
   obtain rfl:i=xs.length:=by omega
   refine fin.ret (Res.one rfl (RV.tmp rfl)) ?_
   rw [em,List.take_length]
theorem c_Max (w:World) (o:Value) (xs:List Int) (hR:RdF encI 1 w.heap.size w o xs) (hn:0<xs.length):Ret Tryz.prog 202 [o].toArray w (.int .i64 (maxL xs)):=by
 refine Ret.of mixed tyTab Tryz.func202 rfl rfl ?_
 replace hR:RdF encI 1 (fnCx mixed tyTab Tryz.f202.ntmps w).B (fnCx mixed tyTab Tryz.f202.ntmps w).w0 o xs:=hR
 have hle:=hR.sl.le
 refine W.sreg (WO.p rfl rfl (WO.nil (W.seq (W.sreg (WO.p rfl rfl (WO.len rfl rfl hR.sl rfl (WO.p rfl rfl (WO.nil ?_))))))))
 refine W.cond_bl rfl (fun c1=>?_) (fun c1=>?_)
 ·exfalso;omega
 ·refine W.skip (W.sreg (WO.p rfl rfl (WO.indexAddr (i:=0) rfl rfl rfl hR.sl (by omega) rfl ?_)))
  refine' WO.load (v:=_) rfl rfl ?hc rfl ?_
  case hc=>(first | (refine hR.cell0 ?_ 0 ?_ <;> first | rfl | omega))
  refine WO.p rfl rfl (WO.nil (W.seq (W.sreg (WO.p rfl rfl (WO.nil (W.block ?_))))))
  refine W.loop2 (fun (i:Nat) (m:Int)=>1≤i∧i≤xs.length∧m=maxL (xs.take i))
   (fun (i:Nat) (m:Int)=>[(4,.int .i64 (i:Int)),(3,.int .i64 m),(0,o)])
   (fun (i:Nat) (m:Int)=>[])
   (fun (i:Nat) (m:Int)=>xs.length-i) 1 (xs.getD 0 0)
   (by exact ⟨by omega,by omega,(maxL_one hn).symm⟩) ⟨rfl,rfl,rfl,trivial⟩ (by repeat (first | exact Sub.nil | refine Sub.cons (by repeat first | exact .head | apply Pick.tail) ?_)) ?_
  rintro i m ⟨h1,hi,em⟩
  refine W.seq (W.sreg (WO.p rfl rfl (WO.p rfl rfl (WO.len rfl rfl hR.sl rfl (WO.p rfl rfl (WO.nil ?_))))))
  refine W.cond_bl rfl (fun c3=>?_) (fun c3=>?_)
  ·refine W.skip (W.seq (W.block (W.region (WO.p rfl rfl (WO.p rfl rfl (WO.p rfl rfl (WO.indexAddr rfl rfl rfl hR.sl (by omega) rfl ?_)))))))
   refine' WO.load (v:=_) rfl rfl ?hc rfl ?_
   case hc=>(first | (refine hR.cell0 ?_ 0 ?_ <;> first | rfl | omega))
   refine WO.max2 rfl rfl rfl (WO.p rfl rfl (WO.nil (W.region (WO.p rfl rfl (WO.ar rfl rfl rfl (by (first | (unfold in64;omega))) rfl (WO.p rfl rfl (WO.nil ?_)))))))
   refine' ⟨i+1,_,?hp,?hmu,⟨rfl,rfl,rfl,trivial⟩,?hS⟩
   case hS=>repeat (first | exact Sub.nil | refine Sub.cons (by repeat first | exact .head | apply Pick.tail) ?_)
   case hp=>exact ⟨by omega,by omega,by rw [maxL_succ (by omega) h1,em]⟩
   case hmu=>omega
  ·refine W.exit (blk_same (W.sreg (WO.p rfl rfl (WO.p rfl rfl (WO.nil (W.ret ?_))))))
   obtain rfl:i=xs.length:=by omega
   refine fin.ret (Res.one rfl (RV.tmp rfl)) ?_
   rw [em,List.take_length]
def btw (lo hi:Int) (xs:List Int):Bool:=bl (lo≤minL xs)&&bl (maxL xs≤hi)
theorem c_within (w:World) (lo hi:Int) (o:Value) (xs:List Int) (hR:RdF encI 1 w.heap.size w o xs) (hn:0<xs.length):Ret Tryz.prog 116 [.int .i64 lo,.int .i64 hi,o].toArray w (.bool (btw lo hi xs)):=by
 refine Ret.of mixed tyTab Tryz.func116 rfl rfl ?_
 replace hR:RdF encI 1 (fnCx mixed tyTab Tryz.f116.ntmps w).B (fnCx mixed tyTab Tryz.f116.ntmps w).w0 o xs:=hR
 refine W.sreg (WO.p rfl rfl (WO.nil (W.sreg (WO.p rfl rfl (WO.callR rfl Tryz.call201 (fun L w hi=>c_Min w o xs (hR.later hi) hn) rfl (WO.p rfl rfl (WO.p rfl rfl (WO.p rfl rfl ?_))))))))
 refine WO.guard_bl rfl rfl (fun c1=>?_) (fun c1=>?_)
 ·refine WO.pg rfl rfl rfl (WO.go' rfl (WO.callR rfl Tryz.call202 (fun L w hi=>c_Max w o xs (hR.later hi) hn) rfl (WO.pg rfl rfl rfl (WO.pg rfl rfl rfl (WO.p rfl rfl (WO.p rfl rfl (WO.nil (W.ret (fin.ret (Res.one rfl (RV.tmp rfl)) (congrArg Value.bool ?_))))))))))
  (simp_all [btw,bl_eq];done)
 ·refine WO.no rfl rfl (WO.no rfl rfl (WO.no rfl rfl (WO.no rfl rfl (WO.p rfl rfl (WO.p rfl rfl (WO.nil (W.ret (fin.ret (Res.one rfl (RV.tmp rfl)) (congrArg Value.bool ?_)))))))))
  (simp_all [btw,bl_eq];omega)
theorem btw1 (lo hi x:Int):btw lo hi [x]=bl (lo≤x∧x≤hi):=by
 unfold btw;rw [bl_eq,bl_eq,bl_eq]
 show (decide (lo≤x)&&decide (x≤hi))=_
 simp
theorem btw2 (lo hi x y:Int):btw lo hi [x,y]=bl (lo≤x∧x≤hi∧lo≤y∧y≤hi):=by
 unfold btw;rw [bl_eq,bl_eq,bl_eq]
 show (decide (lo≤min x y)&&decide (max x y≤hi))=_
 rw [← Bool.decide_and,decide_eq_decide]
 omega
def encR (r:Int × Int × Int):List Value:=[.int .i64 r.1,.int .i64 r.2.1,.int .i64 r.2.2]
theorem encR_ok:EncOk encR 3:=⟨fun _=>rfl,fun x u hu=>by simp [encR] at hu;rcases hu with rfl | rfl | rfl <;> rfl,by omega⟩
def r0:Int × Int × Int:=(0,0,0)
def prevAt (rs:List (Int × Int × Int)) (i:Nat):Int:=if i=0 then -1 else (rs.getD (i-1) r0).1
def goodR (p:Int) (r:Int × Int × Int):Prop:=p+1≤r.1∧r.1≤60∧0≤r.2.1∧r.2.1≤r.2.2∧r.2.2≤20000
instance (p:Int) (r:Int × Int × Int):Decidable (goodR p r):=by unfold goodR;infer_instance
def goodTo (rs:List (Int × Int × Int)) (n:Nat):Prop:=∀ i,i<n→goodR (prevAt rs i) (rs.getD i r0)
instance (rs:List (Int × Int × Int)) (n:Nat):Decidable (goodTo rs n):=by unfold goodTo;infer_instance
def chkT (m:Int) (rs:List (Int × Int × Int)):Int:=if rs.length<2∨5<rs.length then 6 else if m<0∨2<m then 2 else if goodTo rs rs.length then 0 else 2
theorem prev_in {rs:List (Int × Int × Int)} {i:Nat} (h:goodTo rs i) : -1≤prevAt rs i∧prevAt rs i≤60:=by
 induction i with
 | zero=>simp [prevAt]
 | succ i ih =>
  have h1:=h i (by omega)
  have h2:=ih (fun j hj=>h j (by omega))
  unfold prevAt
  rw [if_neg (by omega),Nat.add_sub_cancel]
  unfold goodR at h1
  omega
theorem goodTo_succ {rs:List (Int × Int × Int)} {i:Nat} (h:goodTo rs i) (h2:goodR (prevAt rs i) (rs.getD i r0)):goodTo rs (i+1):=by
 intro j hj
 by_cases e:j=i
 ·subst e;exact h2
 ·exact h j (by omega)
theorem chkT_bad {m:Int} {rs:List (Int × Int × Int)} {i:Nat} (h1:2≤rs.length∧rs.length≤5) (h2:0≤m∧m≤2) (hi:i<rs.length) (h:¬ goodR (prevAt rs i) (rs.getD i r0)):2=chkT m rs:=by
 unfold chkT;rw [if_neg (by omega),if_neg (by omega),if_neg (fun hg=>h (hg i hi))]
theorem chkT_good {m:Int} {rs:List (Int × Int × Int)} {i:Nat} (h1:2≤rs.length∧rs.length≤5) (h2:0≤m∧m≤2) (hi:rs.length≤i) (h:goodTo rs i):0=chkT m rs:=by
 have h':goodTo rs rs.length:=fun j hj=>h j (by omega)
 unfold chkT;rw [if_neg (by omega),if_neg (by omega),if_pos h']
theorem c_CheckTest (w:World) (m:Int) (o:Value) (rs:List (Int × Int × Int)) (hR:RdF encR 3 w.heap.size w o rs):Ret Tryz.prog 60 [.agg #[.int .i64 m,o]].toArray w (.int .i64 (chkT m rs)):=by
 refine Ret.of mixed tyTab Tryz.func60 rfl rfl ?_
 replace hR:RdF encR 3 (fnCx mixed tyTab Tryz.f60.ntmps w).B (fnCx mixed tyTab Tryz.f60.ntmps w).w0 o rs:=hR
 have hle:=hR.sl.le
 have ho:=hR.sl.oc
 refine W.sreg (WO.boxA rfl rfl (fun b1 hb1=>(WO.p rfl rfl (WO.nil (W.seq (W.block (W.sreg (WO.fieldL rfl rfl rfl (WO.load rfl rfl (Cell.own Pick.head rfl) rfl (WO.len rfl rfl hR.sl rfl (WO.p rfl rfl (WO.p rfl rfl ?_))))))))))))
 refine WO.guard_bl rfl rfl (fun c1=>?_) (fun c1=>?_)
 ·refine WO.no rfl rfl (WO.no rfl rfl (WO.no rfl rfl (WO.no rfl rfl (WO.p rfl rfl (WO.p rfl rfl (WO.nil (W.cond_t rfl (W.sreg (WO.p rfl rfl (WO.nil (W.ret (fin.ret (Res.one rfl (RV.tmp rfl)) (congrArg (Value.int .i64) ?_)))))))))))))
  (unfold chkT;rw [if_pos (by omega)])
 ·refine WO.go' rfl (WO.fieldL rfl rfl rfl (WO.go' rfl (WO.load rfl rfl (Cell.own Pick.head rfl) rfl (WO.go' rfl (WO.len rfl rfl hR.sl rfl (WO.pg rfl rfl rfl (WO.p rfl rfl (WO.p rfl rfl (WO.nil ?_)))))))))
  refine W.cond_bl rfl (fun c2=>?_) (fun c2=>?_)
  ·refine W.sreg (WO.p rfl rfl (WO.nil (W.ret (fin.ret (Res.one rfl (RV.tmp rfl)) (congrArg (Value.int .i64) ?_)))))
   (unfold chkT;rw [if_pos (by omega)])
  ·refine W.sreg (WO.field0 rfl rfl rfl (WO.load rfl rfl (Cell.own Pick.head rfl) rfl (WO.p rfl rfl (WO.p rfl rfl ?_))))
   refine WO.guard_bl rfl rfl (fun c3=>?_) (fun c3=>?_)
   ·refine WO.no rfl rfl (WO.no rfl rfl (WO.no rfl rfl (WO.p rfl rfl (WO.p rfl rfl (WO.nil (W.cond_t rfl (W.sreg (WO.p rfl rfl (WO.nil (W.ret (fin.ret (Res.one rfl (RV.tmp rfl)) (congrArg (Value.int .i64) ?_))))))))))))
    (unfold chkT;(rw [if_neg (by omega),if_pos (by omega)]);done)
   ·refine WO.go' rfl (WO.field0 rfl rfl rfl (WO.go' rfl (WO.load rfl rfl (Cell.own Pick.head rfl) rfl (WO.pg rfl rfl rfl (WO.p rfl rfl (WO.p rfl rfl (WO.nil ?_)))))))
    refine W.cond_bl rfl (fun c4=>?_) (fun c4=>?_)
    ·refine W.sreg (WO.p rfl rfl (WO.nil (W.ret (fin.ret (Res.one rfl (RV.tmp rfl)) (congrArg (Value.int .i64) ?_)))))
     (unfold chkT;(rw [if_neg (by omega),if_pos (by omega)]);done)
    ·refine W.skip (W.sreg (WO.p rfl rfl (WO.nil (W.seq (W.sreg (WO.fieldL rfl rfl rfl (WO.load rfl rfl (Cell.own Pick.head rfl) rfl (WO.len rfl rfl hR.sl rfl (WO.p rfl rfl (WO.nil (W.block ?_)))))))))))
     refine W.loop2 (fun (i:Nat) (last:Int)=>i≤rs.length∧last=prevAt rs i∧goodTo rs i)
      (fun (i:Nat) (last:Int)=>[(29,.int .i64 (i:Int)),(28,.int .i64 (rs.length:Int)),(27,o),(3,.int .i64 last)])
      (fun (i:Nat) (last:Int)=>[])
      (fun (i:Nat) (last:Int)=>rs.length-i) 0 (-1)
      (by exact ⟨by omega,rfl,fun j hj=>by omega⟩) ⟨rfl,rfl,rfl,rfl,trivial⟩ (by repeat (first | exact Sub.nil | refine Sub.cons (by repeat first | exact .head | apply Pick.tail) ?_)) ?_
     rintro i last ⟨hi,hl,hg⟩
     refine W.sreg (WO.p rfl rfl (WO.nil (W.seq ?_)))
     refine W.cond_bl rfl (fun c5=>?_) (fun c5=>?_)
     ·refine W.skip (W.seq (W.block (W.sreg (WO.indexAddr rfl rfl rfl hR.sl (by omega) rfl ?_))))
      refine' WO.loadA (vs:=_) rfl rfl ?hc ?hl rfl ?_
      case hc=>((refine hR.cells ?_ r0;omega))
      case hl=>rfl
      refine WO.alloc rfl rfl rfl (fun b2 hb2=>(WO.storeA rfl rfl rfl rfl Pick.head rfl rfl (WO.nil (W.seq ?_))))
      have hpi:=prev_in hg
      refine W.sreg (WO.p rfl rfl (WO.ar rfl rfl rfl (by unfold in64;omega) rfl (WO.field0 rfl rfl rfl (WO.load rfl rfl (Cell.own Pick.head rfl) rfl (WO.buildSl rfl rfl rfl rfl rfl rfl rfl rfl rfl (fun v3=>(WO.callR (r:=.bool (bl (last+1≤(rs.getD i r0).1∧(rs.getD i r0).1≤60))) rfl Tryz.call116 (fun L w hi=>by rw [← btw1];exact c_within w _ _ _ [(rs.getD i r0).1] (RdF.of_ow (e:=2) encI_ok (by repeat exact .head) hi) (by simp)) rfl (WO.p rfl rfl (WO.p rfl rfl ?_)))))))))
      refine WO.guard_nbl rfl rfl (fun c6=>?_) (fun c6=>?_)
      ·refine WO.no rfl rfl (WO.no rfl rfl (WO.no rfl rfl (WO.no rfl rfl (WO.no rfl rfl (WO.no rfl rfl (WO.no rfl rfl (WO.no rfl rfl (WO.no rfl rfl (WO.p rfl rfl (WO.p rfl rfl (WO.no rfl rfl (WO.no rfl rfl (WO.no rfl rfl (WO.no rfl rfl (WO.no rfl rfl (WO.no rfl rfl (WO.no rfl rfl (WO.p rfl rfl (WO.nil (W.cond_t rfl (W.sreg (WO.p rfl rfl (WO.nil (W.ret (fin.ret (Res.one rfl (RV.tmp rfl)) (congrArg (Value.int .i64) ?_))))))))))))))))))))))))))
       first | (unfold chkT;first | rw [if_pos (by omega)] | (rw [if_neg (by omega),if_pos (by omega)]);done) | exact chkT_bad (i:=i) (by omega) (by omega) (by omega) (by unfold goodR;omega) | exact chkT_good (by omega) (by omega) (by omega) hg
      ·refine WO.go' rfl (WO.fieldL rfl rfl rfl (WO.go' rfl (WO.field0 rfl rfl rfl (WO.go' rfl (WO.load rfl rfl (Cell.own (Pick.tail (Pick.head)) rfl) rfl (WO.go' rfl (WO.fieldL rfl rfl rfl (WO.go' rfl (WO.fieldL rfl rfl rfl (WO.go' rfl (WO.load rfl rfl (Cell.own (Pick.tail (Pick.head)) rfl) rfl (WO.go' rfl (WO.buildSl rfl rfl rfl rfl rfl rfl rfl rfl rfl (fun v4=>(WO.go' rfl ?_)))))))))))))))
       refine WO.callR (r:=.bool (bl (0≤(rs.getD i r0).2.1∧(rs.getD i r0).2.1≤20000∧0≤(rs.getD i r0).2.2∧(rs.getD i r0).2.2≤20000))) rfl Tryz.call116 (fun L w hi=>by rw [← btw2];exact c_within w _ _ _ [(rs.getD i r0).2.1,(rs.getD i r0).2.2] (RdF.of_ow (e:=2) encI_ok (by repeat exact .head) hi) (by simp)) rfl (WO.pg rfl rfl rfl (WO.p rfl rfl (WO.p rfl rfl ?_)))
       refine WO.guard_nbl rfl rfl (fun c7=>?_) (fun c7=>?_)
       ·refine WO.no rfl rfl (WO.no rfl rfl (WO.no rfl rfl (WO.no rfl rfl (WO.no rfl rfl (WO.no rfl rfl (WO.no rfl rfl (WO.p rfl rfl (WO.nil (W.cond_t rfl (W.sreg (WO.p rfl rfl (WO.nil (W.ret (fin.ret (Res.one rfl (RV.tmp rfl)) (congrArg (Value.int .i64) ?_)))))))))))))))
        first | (unfold chkT;first | rw [if_pos (by omega)] | (rw [if_neg (by omega),if_pos (by omega)]);done) | exact chkT_bad (i:=i) (by omega) (by omega) (by omega) (by unfold goodR;omega) | exact chkT_good (by omega) (by omega) (by omega) hg
       ·refine WO.go' rfl (WO.fieldL rfl rfl rfl (WO.go' rfl (WO.field0 rfl rfl rfl (WO.go' rfl (WO.load rfl rfl (Cell.own (Pick.tail (Pick.tail (Pick.head))) rfl) rfl (WO.go' rfl (WO.fieldL rfl rfl rfl (WO.go' rfl (WO.fieldL rfl rfl rfl (WO.go' rfl (WO.load rfl rfl (Cell.own (Pick.tail (Pick.tail (Pick.head))) rfl) rfl (WO.pg rfl rfl rfl (WO.p rfl rfl (WO.nil ?_))))))))))))))
        refine W.cond_bl rfl (fun c8=>?_) (fun c8=>?_)
        ·refine W.sreg (WO.p rfl rfl (WO.nil (W.ret (fin.ret (Res.one rfl (RV.tmp rfl)) (congrArg (Value.int .i64) ?_)))))
         first | (unfold chkT;first | rw [if_pos (by omega)] | (rw [if_neg (by omega),if_pos (by omega)]);done) | exact chkT_bad (i:=i) (by omega) (by omega) (by omega) (by unfold goodR;omega) | exact chkT_good (by omega) (by omega) (by omega) hg
        ·refine W.skip (W.region (WO.field0 rfl rfl rfl (WO.load rfl rfl (Cell.own (Pick.tail (Pick.tail (Pick.head))) rfl) rfl (WO.p rfl rfl (WO.nil (W.region (WO.ar rfl rfl rfl (by unfold in64;omega) rfl (WO.p rfl rfl (WO.nil ?_)))))))))
         refine' ⟨i+1,_,?hp,?hmu,⟨rfl,rfl,rfl,rfl,trivial⟩,?hS⟩
         case hS=>repeat (first | exact Sub.nil | refine Sub.cons (by repeat first | exact .head | apply Pick.tail) ?_)
         case hp=>exact ⟨by omega,by unfold prevAt;rw [if_neg (by omega),Nat.add_sub_cancel],goodTo_succ hg (by unfold goodR;omega)⟩
         case hmu=>omega
     ·refine W.exit (blk_same (W.sreg (WO.p rfl rfl (WO.nil (W.ret (fin.ret (Res.one rfl (RV.tmp rfl)) (congrArg (Value.int .i64) ?_)))))))
      first | (unfold chkT;first | rw [if_pos (by omega)] | (rw [if_neg (by omega),if_pos (by omega)]);done) | exact chkT_bad (i:=i) (by omega) (by omega) (by omega) (by unfold goodR;omega) | exact chkT_good (by omega) (by omega) (by omega) hg
theorem ref_between (w:World) (n lo hi:Int):Ret Tryz.prog 26 [.int .i64 n,.int .i64 lo,.int .i64 hi].toArray w (.bool (bl (lo≤n∧n≤hi))):=by
 refine Ret.of mixed tyTab Tryz.func26 rfl rfl (W.sreg (WO.p rfl rfl (WO.nil (W.sreg (WO.p rfl rfl (WO.p rfl rfl (WO.p rfl rfl (WO.p rfl rfl ?_))))))))
 refine WO.guard_bl rfl rfl (fun c1=>?_) (fun c1=>?_)
 ·refine WO.pg rfl rfl rfl (WO.pg rfl rfl rfl (WO.pg rfl rfl rfl (WO.p rfl rfl (WO.p rfl rfl (WO.nil (W.ret (fin.ret (Res.one rfl (RV.tmp rfl)) (congrArg Value.bool ?_))))))))
  (simp_all [bl_eq];done)
 ·refine WO.no rfl rfl (WO.no rfl rfl (WO.no rfl rfl (WO.p rfl rfl (WO.p rfl rfl (WO.nil (W.ret (fin.ret (Res.one rfl (RV.tmp rfl)) (congrArg Value.bool ?_))))))))
  (simp_all [bl_eq];omega)
theorem prevAt_pos {rs:List (Int × Int × Int)} {i:Nat} (h:0<i):prevAt rs i=(rs.getD (i-1) r0).1:=by unfold prevAt;rw [if_neg (by omega)]
theorem prevAt_0 {rs:List (Int × Int × Int)} {i:Nat} (h:¬ 0<i):prevAt rs i = -1:=by unfold prevAt;rw [if_pos (by omega)]
theorem ref_CheckTest (w:World) (m:Int) (o:Value) (rs:List (Int × Int × Int)) (hR:RdF encR 3 w.heap.size w o rs):Ret Tryz.prog 19 [.agg #[.int .i64 m,o]].toArray w (.int .i64 (chkT m rs)):=by
 refine Ret.of mixed tyTab Tryz.func19 rfl rfl ?_
 replace hR:RdF encR 3 (fnCx mixed tyTab Tryz.f19.ntmps w).B (fnCx mixed tyTab Tryz.f19.ntmps w).w0 o rs:=hR
 have hle:=hR.sl.le
 have ho:=hR.sl.oc
 refine W.sreg (WO.boxA rfl rfl (fun b1 hb1=>(WO.p rfl rfl (WO.nil (W.seq (W.sreg (WO.fieldL rfl rfl rfl (WO.load rfl rfl (Cell.own Pick.head rfl) rfl (WO.len rfl rfl hR.sl rfl (WO.p rfl rfl (WO.p rfl rfl ?_)))))))))))
 refine WO.guard_bl rfl rfl (fun c1=>?_) (fun c1=>?_)
 ·refine WO.no rfl rfl (WO.no rfl rfl (WO.no rfl rfl (WO.no rfl rfl (WO.p rfl rfl (WO.nil (W.cond_t rfl (W.sreg (WO.p rfl rfl (WO.nil (W.ret (fin.ret (Res.one rfl (RV.tmp rfl)) (congrArg (Value.int .i64) ?_))))))))))))
  (unfold chkT;rw [if_pos (by omega)])
 ·refine WO.go' rfl (WO.fieldL rfl rfl rfl (WO.go' rfl (WO.load rfl rfl (Cell.own Pick.head rfl) rfl (WO.go' rfl (WO.len rfl rfl hR.sl rfl (WO.pg rfl rfl rfl (WO.p rfl rfl (WO.nil ?_))))))))
  refine W.cond_bl rfl (fun c2=>?_) (fun c2=>?_)
  ·refine W.sreg (WO.p rfl rfl (WO.nil (W.ret (fin.ret (Res.one rfl (RV.tmp rfl)) (congrArg (Value.int .i64) ?_)))))
   (unfold chkT;rw [if_pos (by omega)])
  ·refine W.skip (W.seq (W.sreg (WO.field0 rfl rfl rfl (WO.load rfl rfl (Cell.own Pick.head rfl) rfl (WO.p rfl rfl (WO.p rfl rfl ?_))))))
   refine WO.guard_bl rfl rfl (fun c3=>?_) (fun c3=>?_)
   ·refine WO.no rfl rfl (WO.no rfl rfl (WO.no rfl rfl (WO.p rfl rfl (WO.nil (W.cond_t rfl (W.sreg (WO.p rfl rfl (WO.nil (W.ret (fin.ret (Res.one rfl (RV.tmp rfl)) (congrArg (Value.int .i64) ?_)))))))))))
    (unfold chkT;(rw [if_neg (by omega),if_pos (by omega)]);done)
   ·refine WO.go' rfl (WO.field0 rfl rfl rfl (WO.go' rfl (WO.load rfl rfl (Cell.own Pick.head rfl) rfl (WO.pg rfl rfl rfl (WO.p rfl rfl (WO.nil ?_))))))
    refine W.cond_bl rfl (fun c4=>?_) (fun c4=>?_)
    ·refine W.sreg (WO.p rfl rfl (WO.nil (W.ret (fin.ret (Res.one rfl (RV.tmp rfl)) (congrArg (Value.int .i64) ?_)))))
     (unfold chkT;(rw [if_neg (by omega),if_pos (by omega)]);done)
    ·refine W.skip (W.seq (W.sreg (WO.p rfl rfl (WO.nil (W.block ?_)))))
     refine W.loop (fun (i:Nat)=>i≤rs.length∧goodTo rs i)
      (fun (i:Nat)=>[(3,.int .i64 (i:Int)),(1,.pointer (some ⟨b1,0,none⟩))])
      (fun (i:Nat)=>[pt b1 (.cells #[.int .i64 m,o] 35 (0,0))])
      (fun (i:Nat)=>rs.length-i) 0
      (by exact ⟨by omega,fun j hj=>by omega⟩) ⟨rfl,rfl,trivial⟩ (by repeat (first | exact Sub.nil | refine Sub.cons (by repeat exact .head) ?_)) ?_
     rintro i ⟨hi,hg⟩
     refine W.seq (W.sreg (WO.p rfl rfl (WO.fieldL rfl rfl rfl (WO.load rfl rfl (Cell.own Pick.head rfl) rfl (WO.len rfl rfl hR.sl rfl (WO.p rfl rfl (WO.nil ?_)))))))
     refine W.cond_bl rfl (fun c5=>?_) (fun c5=>?_)
     ·refine W.skip (W.seq (W.block (W.sreg (WO.fieldL rfl rfl rfl (WO.load rfl rfl (Cell.own Pick.head rfl) rfl (WO.p rfl rfl (WO.indexAddr rfl rfl rfl hR.sl (by omega) rfl ?_)))))))
      refine' WO.loadA (vs:=_) rfl rfl ?hc ?hl rfl ?_
      case hc=>((refine hR.cells ?_ r0;omega))
      case hl=>rfl
      refine WO.alloc rfl rfl rfl (fun b2 hb2=>(WO.storeA rfl rfl rfl rfl Pick.head rfl rfl (WO.nil (W.seq ?_))))
      have hpi:=prev_in hg
      have hp1:0<i→prevAt rs i=(rs.getD ((i:Int)-1).toNat r0).1:=fun h=>by rw [prevAt_pos h,show ((i:Int)-1).toNat=i-1 by omega]
      have hp0:¬ 0<i→prevAt rs i = -1:=prevAt_0
      refine W.drawD 33 [.r 0 [],.b 1 [],.b 2 [],.r 3 [],.r 4 [],.r 5 [],.r 6 [],.r 7 [],.r 8 [],.b 9 [],.r 10 [],.b 11 [],.r 12 [],.r 13 [],.r 14 [],.r 15 [],.b 16 [],.r 17 [],.r 18 [],.r 19 [],.r 20 [],.r 21 [],.r 22 [],.b 23 [],.r 24 [],.r 25 [],.r 26 [],.r 27 [],.r 28 [],.b 29 [],.r 30 [],.r 31 [],.b 32 []] [] (A0:=[]) (Sub.refl _) (by kernel_rfl) ?_ ?_
      ·repeat constructor
      refine DT.r rfl rfl rfl (WO.field0 rfl rfl rfl (WO.nil ⟨rfl,rfl⟩)) (DT.b rfl rfl rfl (WO.load rfl rfl (Cell.own Pick.head rfl) rfl (WO.nil ⟨rfl,rfl⟩)) (DT.b rfl rfl rfl (WO.callR (r:=.bool (bl (0≤(rs.getD i r0).1∧(rs.getD i r0).1≤60))) rfl Tryz.call26 (fun L w hi=>ref_between w _ _ _) rfl (WO.nil ⟨rfl,rfl⟩)) (DT.r rfl rfl rfl (WO.p rfl rfl (WO.nil ⟨rfl,rfl⟩)) ?_)))
      refine DT.rNB rfl rfl rfl (WO.p rfl rfl (WO.nil ⟨rfl,rfl⟩)) (fun c6=>?_) (fun c6=>?_)
      ·refine DT.r rfl rfl rfl (WO.no rfl rfl (WO.nil ⟨rfl,rfl⟩)) (DT.r rfl rfl rfl (WO.no rfl rfl (WO.nil ⟨rfl,rfl⟩)) (DT.r rfl rfl rfl (WO.no rfl rfl (WO.nil ⟨rfl,rfl⟩)) (DT.r rfl rfl rfl (WO.no rfl rfl (WO.nil ⟨rfl,rfl⟩)) (DT.b rfl rfl rfl (WO.no rfl rfl (WO.nil ⟨rfl,rfl⟩)) (DT.r rfl rfl rfl (WO.no rfl rfl (WO.nil ⟨rfl,rfl⟩)) (DT.b rfl rfl rfl (WO.no rfl rfl (WO.nil ⟨rfl,rfl⟩)) (DT.r rfl rfl rfl (WO.no rfl rfl (WO.nil ⟨rfl,rfl⟩)) (DT.r rfl rfl rfl (WO.no rfl rfl (WO.nil ⟨rfl,rfl⟩)) (DT.r rfl rfl rfl (WO.no rfl rfl (WO.nil ⟨rfl,rfl⟩)) (DT.r rfl rfl rfl (WO.no rfl rfl (WO.nil ⟨rfl,rfl⟩)) (DT.b rfl rfl rfl (WO.no rfl rfl (WO.nil ⟨rfl,rfl⟩)) ?_)))))))))))
       refine DT.r rfl rfl rfl (WO.no rfl rfl (WO.nil ⟨rfl,rfl⟩)) (DT.r rfl rfl rfl (WO.no rfl rfl (WO.nil ⟨rfl,rfl⟩)) (DT.r rfl rfl rfl (WO.p rfl rfl (WO.nil ⟨rfl,rfl⟩)) (DT.r rfl rfl rfl (WO.p rfl rfl (WO.nil ⟨rfl,rfl⟩)) (DT.r rfl rfl rfl (WO.no rfl rfl (WO.nil ⟨rfl,rfl⟩)) (DT.r rfl rfl rfl (WO.no rfl rfl (WO.nil ⟨rfl,rfl⟩)) (DT.b rfl rfl rfl (WO.no rfl rfl (WO.nil ⟨rfl,rfl⟩)) (DT.r rfl rfl rfl (WO.no rfl rfl (WO.nil ⟨rfl,rfl⟩)) (DT.r rfl rfl rfl (WO.p rfl rfl (WO.nil ⟨rfl,rfl⟩)) (DT.r rfl rfl rfl (WO.p rfl rfl (WO.nil ⟨rfl,rfl⟩)) (DT.r rfl rfl rfl (WO.no rfl rfl (WO.nil ⟨rfl,rfl⟩)) (DT.r rfl rfl rfl (WO.no rfl rfl (WO.nil ⟨rfl,rfl⟩)) ?_)))))))))))
       refine DT.b rfl rfl rfl (WO.no rfl rfl (WO.nil ⟨rfl,rfl⟩)) (DT.r rfl rfl rfl (WO.no rfl rfl (WO.nil ⟨rfl,rfl⟩)) (DT.r rfl rfl rfl (WO.no rfl rfl (WO.nil ⟨rfl,rfl⟩)) (DT.b rfl rfl rfl (WO.no rfl rfl (WO.nil ⟨rfl,rfl⟩)) (DT.nil [_,_] rfl (WO.no rfl rfl (WO.p rfl rfl (WO.p rfl rfl (WO.no rfl rfl (WO.no rfl rfl (WO.no rfl rfl (WO.no rfl rfl (WO.p rfl rfl (WO.nil (W.cond_t rfl (W.sreg (WO.p rfl rfl (WO.nil (W.ret (fin.ret (Res.one rfl (RV.tmp rfl)) (congrArg (Value.int .i64) ?_))))))))))))))))))))
       first | (unfold chkT;first | rw [if_pos (by omega)] | (rw [if_neg (by omega),if_pos (by omega)]);done) | exact chkT_bad (i:=i) (by omega) (by omega) (by omega) (by unfold goodR;omega) | exact chkT_good (by omega) (by omega) (by omega) hg
      ·refine DT.r rfl rfl rfl (WO.pg rfl rfl rfl (WO.nil ⟨rfl,rfl⟩)) (DT.r rfl rfl rfl (WO.pg rfl rfl rfl (WO.nil ⟨rfl,rfl⟩)) ?_)
       refine DT.rB rfl rfl rfl (WO.pg rfl rfl rfl (WO.nil ⟨rfl,rfl⟩)) (fun c7=>?_) (fun c7=>?_)
       ·refine DT.r rfl rfl rfl (WO.go' rfl (WO.field0 rfl rfl rfl (WO.nil ⟨rfl,rfl⟩))) (DT.b rfl rfl rfl (WO.go' rfl (WO.load rfl rfl (Cell.own Pick.head rfl) rfl (WO.nil ⟨rfl,rfl⟩))) (DT.r rfl rfl rfl (WO.go' rfl (WO.fieldL rfl rfl rfl (WO.nil ⟨rfl,rfl⟩))) (DT.b rfl rfl rfl (WO.go' rfl (WO.load rfl rfl (Cell.own (Pick.tail (Pick.head)) rfl) rfl (WO.nil ⟨rfl,rfl⟩))) (DT.r rfl rfl rfl (WO.pg rfl rfl rfl (WO.nil ⟨rfl,rfl⟩)) (DT.r rfl rfl rfl (WO.go' rfl (WO.ar rfl rfl rfl (by unfold in64;omega) rfl (WO.nil ⟨rfl,rfl⟩))) ?_)))))
        refine' DT.r rfl rfl rfl ?hq ?_
        case hq =>
         refine WO.go' rfl ?_
         refine' WO.indexAddrZ (n:=_) rfl rfl rfl ?hs ?h00 ?h1 rfl ?_
         case hs=>exact hR.sl
         case h00=>omega
         case h1=>(omega)
         exact WO.nil ⟨rfl,rfl⟩
        refine DT.r rfl rfl rfl (WO.go' rfl (WO.field0 rfl rfl rfl (WO.nil ⟨rfl,rfl⟩))) ?_
        refine' DT.b rfl rfl rfl ?hq ?_
        case hq =>
         refine WO.go' rfl ?_
         refine' WO.load (v:=_) rfl rfl ?hc rfl ?_
         case hc=>(first | (refine hR.cell0 ?_ r0 ?_ <;> first | rfl | omega))
         exact WO.nil ⟨rfl,rfl⟩
        refine DT.r rfl rfl rfl (WO.pg rfl rfl rfl (WO.nil ⟨rfl,rfl⟩)) (DT.r rfl rfl rfl (WO.pg rfl rfl rfl (WO.nil ⟨rfl,rfl⟩)) (DT.r rfl rfl rfl (WO.p rfl rfl (WO.nil ⟨rfl,rfl⟩)) ?_))
        refine DT.rB rfl rfl rfl (WO.p rfl rfl (WO.nil ⟨rfl,rfl⟩)) (fun c8=>?_) (fun c8=>?_)
        ·refine DT.r rfl rfl rfl (WO.no rfl rfl (WO.nil ⟨rfl,rfl⟩)) (DT.r rfl rfl rfl (WO.no rfl rfl (WO.nil ⟨rfl,rfl⟩)) (DT.b rfl rfl rfl (WO.no rfl rfl (WO.nil ⟨rfl,rfl⟩)) (DT.r rfl rfl rfl (WO.no rfl rfl (WO.nil ⟨rfl,rfl⟩)) (DT.r rfl rfl rfl (WO.p rfl rfl (WO.nil ⟨rfl,rfl⟩)) (DT.r rfl rfl rfl (WO.p rfl rfl (WO.nil ⟨rfl,rfl⟩)) (DT.r rfl rfl rfl (WO.no rfl rfl (WO.nil ⟨rfl,rfl⟩)) (DT.r rfl rfl rfl (WO.no rfl rfl (WO.nil ⟨rfl,rfl⟩)) (DT.b rfl rfl rfl (WO.no rfl rfl (WO.nil ⟨rfl,rfl⟩)) (DT.r rfl rfl rfl (WO.no rfl rfl (WO.nil ⟨rfl,rfl⟩)) (DT.r rfl rfl rfl (WO.no rfl rfl (WO.nil ⟨rfl,rfl⟩)) (DT.b rfl rfl rfl (WO.no rfl rfl (WO.nil ⟨rfl,rfl⟩)) ?_)))))))))))
         refine DT.nil [_,_] rfl (WO.no rfl rfl (WO.p rfl rfl (WO.p rfl rfl (WO.no rfl rfl (WO.no rfl rfl (WO.no rfl rfl (WO.no rfl rfl (WO.p rfl rfl (WO.nil (W.cond_t rfl (W.sreg (WO.p rfl rfl (WO.nil (W.ret (fin.ret (Res.one rfl (RV.tmp rfl)) (congrArg (Value.int .i64) ?_))))))))))))))))
         first | (unfold chkT;first | rw [if_pos (by omega)] | (rw [if_neg (by omega),if_pos (by omega)]);done) | exact chkT_bad (i:=i) (by omega) (by omega) (by omega) (by unfold goodR;omega) | exact chkT_good (by omega) (by omega) (by omega) hg
        ·refine DT.r rfl rfl rfl (WO.go' rfl (WO.fieldL rfl rfl rfl (WO.nil ⟨rfl,rfl⟩))) (DT.r rfl rfl rfl (WO.go' rfl (WO.field0 rfl rfl rfl (WO.nil ⟨rfl,rfl⟩))) (DT.b rfl rfl rfl (WO.go' rfl (WO.load rfl rfl (Cell.own Pick.head rfl) rfl (WO.nil ⟨rfl,rfl⟩))) (DT.r rfl rfl rfl (WO.pg rfl rfl rfl (WO.nil ⟨rfl,rfl⟩)) (DT.r rfl rfl rfl (WO.p rfl rfl (WO.nil ⟨rfl,rfl⟩)) ?_))))
         refine DT.rB rfl rfl rfl (WO.p rfl rfl (WO.nil ⟨rfl,rfl⟩)) (fun c9=>?_) (fun c9=>?_)
         ·refine DT.r rfl rfl rfl (WO.no rfl rfl (WO.nil ⟨rfl,rfl⟩)) (DT.r rfl rfl rfl (WO.no rfl rfl (WO.nil ⟨rfl,rfl⟩)) (DT.b rfl rfl rfl (WO.no rfl rfl (WO.nil ⟨rfl,rfl⟩)) (DT.r rfl rfl rfl (WO.no rfl rfl (WO.nil ⟨rfl,rfl⟩)) (DT.r rfl rfl rfl (WO.no rfl rfl (WO.nil ⟨rfl,rfl⟩)) (DT.b rfl rfl rfl (WO.no rfl rfl (WO.nil ⟨rfl,rfl⟩)) (DT.nil [_,_] rfl (WO.no rfl rfl (WO.p rfl rfl (WO.p rfl rfl (WO.no rfl rfl (WO.no rfl rfl (WO.no rfl rfl (WO.no rfl rfl (WO.p rfl rfl (WO.nil (W.cond_t rfl (W.sreg (WO.p rfl rfl (WO.nil (W.ret (fin.ret (Res.one rfl (RV.tmp rfl)) (congrArg (Value.int .i64) ?_))))))))))))))))))))))
          first | (unfold chkT;first | rw [if_pos (by omega)] | (rw [if_neg (by omega),if_pos (by omega)]);done) | exact chkT_bad (i:=i) (by omega) (by omega) (by omega) (by unfold goodR;omega) | exact chkT_good (by omega) (by omega) (by omega) hg
         ·refine DT.r rfl rfl rfl (WO.go' rfl (WO.fieldL rfl rfl rfl (WO.nil ⟨rfl,rfl⟩))) (DT.r rfl rfl rfl (WO.go' rfl (WO.field0 rfl rfl rfl (WO.nil ⟨rfl,rfl⟩))) (DT.b rfl rfl rfl (WO.go' rfl (WO.load rfl rfl (Cell.own Pick.head rfl) rfl (WO.nil ⟨rfl,rfl⟩))) (DT.r rfl rfl rfl (WO.go' rfl (WO.fieldL rfl rfl rfl (WO.nil ⟨rfl,rfl⟩))) (DT.r rfl rfl rfl (WO.go' rfl (WO.fieldL rfl rfl rfl (WO.nil ⟨rfl,rfl⟩))) (DT.b rfl rfl rfl (WO.go' rfl (WO.load rfl rfl (Cell.own Pick.head rfl) rfl (WO.nil ⟨rfl,rfl⟩))) (DT.nil [_,_] rfl (WO.pg rfl rfl rfl (WO.p rfl rfl (WO.p rfl rfl ?_)))))))))
          refine WO.guard_bl rfl rfl (fun c10=>?_) (fun c10=>?_)
          ·refine WO.no rfl rfl (WO.no rfl rfl (WO.no rfl rfl (WO.no rfl rfl (WO.p rfl rfl (WO.nil (W.cond_t rfl (W.sreg (WO.p rfl rfl (WO.nil (W.ret (fin.ret (Res.one rfl (RV.tmp rfl)) (congrArg (Value.int .i64) ?_))))))))))))
           first | (unfold chkT;first | rw [if_pos (by omega)] | (rw [if_neg (by omega),if_pos (by omega)]);done) | exact chkT_bad (i:=i) (by omega) (by omega) (by omega) (by unfold goodR;omega) | exact chkT_good (by omega) (by omega) (by omega) hg
          ·refine WO.go' rfl (WO.fieldL rfl rfl rfl (WO.go' rfl (WO.fieldL rfl rfl rfl (WO.go' rfl (WO.load rfl rfl (Cell.own Pick.head rfl) rfl (WO.pg rfl rfl rfl (WO.p rfl rfl (WO.nil ?_))))))))
           refine W.cond_bl rfl (fun c11=>?_) (fun c11=>?_)
           ·refine W.sreg (WO.p rfl rfl (WO.nil (W.ret (fin.ret (Res.one rfl (RV.tmp rfl)) (congrArg (Value.int .i64) ?_)))))
            first | (unfold chkT;first | rw [if_pos (by omega)] | (rw [if_neg (by omega),if_pos (by omega)]);done) | exact chkT_bad (i:=i) (by omega) (by omega) (by omega) (by unfold goodR;omega) | exact chkT_good (by omega) (by omega) (by omega) hg
           ·refine W.skip (W.region (WO.p rfl rfl (WO.ar rfl rfl rfl (by unfold in64;omega) rfl (WO.p rfl rfl (WO.nil ?_)))))
            refine' ⟨i+1,?hp,?hmu,⟨rfl,rfl,trivial⟩,?hS⟩
            case hS=>repeat (first | exact Sub.nil | refine Sub.cons (by repeat first | exact .head | apply Pick.tail) ?_)
            case hp=>exact ⟨by omega,goodTo_succ hg (by unfold goodR;omega)⟩
            case hmu=>omega
       ·refine DT.r rfl rfl rfl (WO.no rfl rfl (WO.nil ⟨rfl,rfl⟩)) (DT.b rfl rfl rfl (WO.no rfl rfl (WO.nil ⟨rfl,rfl⟩)) (DT.r rfl rfl rfl (WO.no rfl rfl (WO.nil ⟨rfl,rfl⟩)) (DT.b rfl rfl rfl (WO.no rfl rfl (WO.nil ⟨rfl,rfl⟩)) (DT.r rfl rfl rfl (WO.no rfl rfl (WO.nil ⟨rfl,rfl⟩)) (DT.r rfl rfl rfl (WO.no rfl rfl (WO.nil ⟨rfl,rfl⟩)) (DT.r rfl rfl rfl (WO.no rfl rfl (WO.nil ⟨rfl,rfl⟩)) (DT.r rfl rfl rfl (WO.no rfl rfl (WO.nil ⟨rfl,rfl⟩)) (DT.b rfl rfl rfl (WO.no rfl rfl (WO.nil ⟨rfl,rfl⟩)) (DT.r rfl rfl rfl (WO.no rfl rfl (WO.nil ⟨rfl,rfl⟩)) (DT.r rfl rfl rfl (WO.pg rfl rfl rfl (WO.nil ⟨rfl,rfl⟩)) (DT.r rfl rfl rfl (WO.p rfl rfl (WO.nil ⟨rfl,rfl⟩)) ?_)))))))))))
        refine DT.r rfl rfl rfl (WO.p rfl rfl (WO.nil ⟨rfl,rfl⟩)) (DT.r rfl rfl rfl (WO.go' rfl (WO.fieldL rfl rfl rfl (WO.nil ⟨rfl,rfl⟩))) (DT.r rfl rfl rfl (WO.go' rfl (WO.field0 rfl rfl rfl (WO.nil ⟨rfl,rfl⟩))) (DT.b rfl rfl rfl (WO.go' rfl (WO.load rfl rfl (Cell.own Pick.head rfl) rfl (WO.nil ⟨rfl,rfl⟩))) (DT.r rfl rfl rfl (WO.pg rfl rfl rfl (WO.nil ⟨rfl,rfl⟩)) (DT.r rfl rfl rfl (WO.p rfl rfl (WO.nil ⟨rfl,rfl⟩)) ?_)))))
        refine DT.rB rfl rfl rfl (WO.p rfl rfl (WO.nil ⟨rfl,rfl⟩)) (fun c12=>?_) (fun c12=>?_)
        ·refine DT.r rfl rfl rfl (WO.no rfl rfl (WO.nil ⟨rfl,rfl⟩)) (DT.r rfl rfl rfl (WO.no rfl rfl (WO.nil ⟨rfl,rfl⟩)) (DT.b rfl rfl rfl (WO.no rfl rfl (WO.nil ⟨rfl,rfl⟩)) (DT.r rfl rfl rfl (WO.no rfl rfl (WO.nil ⟨rfl,rfl⟩)) (DT.r rfl rfl rfl (WO.no rfl rfl (WO.nil ⟨rfl,rfl⟩)) (DT.b rfl rfl rfl (WO.no rfl rfl (WO.nil ⟨rfl,rfl⟩)) (DT.nil [_,_] rfl (WO.no rfl rfl (WO.p rfl rfl (WO.p rfl rfl (WO.no rfl rfl (WO.no rfl rfl (WO.no rfl rfl (WO.no rfl rfl (WO.p rfl rfl (WO.nil (W.cond_t rfl (W.sreg (WO.p rfl rfl (WO.nil (W.ret (fin.ret (Res.one rfl (RV.tmp rfl)) (congrArg (Value.int .i64) ?_))))))))))))))))))))))
         first | (unfold chkT;first | rw [if_pos (by omega)] | (rw [if_neg (by omega),if_pos (by omega)]);done) | exact chkT_bad (i:=i) (by omega) (by omega) (by omega) (by unfold goodR;omega) | exact chkT_good (by omega) (by omega) (by omega) hg
        ·refine DT.r rfl rfl rfl (WO.go' rfl (WO.fieldL rfl rfl rfl (WO.nil ⟨rfl,rfl⟩))) (DT.r rfl rfl rfl (WO.go' rfl (WO.field0 rfl rfl rfl (WO.nil ⟨rfl,rfl⟩))) (DT.b rfl rfl rfl (WO.go' rfl (WO.load rfl rfl (Cell.own Pick.head rfl) rfl (WO.nil ⟨rfl,rfl⟩))) (DT.r rfl rfl rfl (WO.go' rfl (WO.fieldL rfl rfl rfl (WO.nil ⟨rfl,rfl⟩))) (DT.r rfl rfl rfl (WO.go' rfl (WO.fieldL rfl rfl rfl (WO.nil ⟨rfl,rfl⟩))) (DT.b rfl rfl rfl (WO.go' rfl (WO.load rfl rfl (Cell.own Pick.head rfl) rfl (WO.nil ⟨rfl,rfl⟩))) (DT.nil [_,_] rfl (WO.pg rfl rfl rfl (WO.p rfl rfl (WO.p rfl rfl ?_)))))))))
         refine WO.guard_bl rfl rfl (fun c13=>?_) (fun c13=>?_)
         ·refine WO.no rfl rfl (WO.no rfl rfl (WO.no rfl rfl (WO.no rfl rfl (WO.p rfl rfl (WO.nil (W.cond_t rfl (W.sreg (WO.p rfl rfl (WO.nil (W.ret (fin.ret (Res.one rfl (RV.tmp rfl)) (congrArg (Value.int .i64) ?_))))))))))))
          first | (unfold chkT;first | rw [if_pos (by omega)] | (rw [if_neg (by omega),if_pos (by omega)]);done) | exact chkT_bad (i:=i) (by omega) (by omega) (by omega) (by unfold goodR;omega) | exact chkT_good (by omega) (by omega) (by omega) hg
         ·refine WO.go' rfl (WO.fieldL rfl rfl rfl (WO.go' rfl (WO.fieldL rfl rfl rfl (WO.go' rfl (WO.load rfl rfl (Cell.own Pick.head rfl) rfl (WO.pg rfl rfl rfl (WO.p rfl rfl (WO.nil ?_))))))))
          refine W.cond_bl rfl (fun c14=>?_) (fun c14=>?_)
          ·refine W.sreg (WO.p rfl rfl (WO.nil (W.ret (fin.ret (Res.one rfl (RV.tmp rfl)) (congrArg (Value.int .i64) ?_)))))
           first | (unfold chkT;first | rw [if_pos (by omega)] | (rw [if_neg (by omega),if_pos (by omega)]);done) | exact chkT_bad (i:=i) (by omega) (by omega) (by omega) (by unfold goodR;omega) | exact chkT_good (by omega) (by omega) (by omega) hg
          ·refine W.skip (W.region (WO.p rfl rfl (WO.ar rfl rfl rfl (by unfold in64;omega) rfl (WO.p rfl rfl (WO.nil ?_)))))
           refine' ⟨i+1,?hp,?hmu,⟨rfl,rfl,trivial⟩,?hS⟩
           case hS=>repeat (first | exact Sub.nil | refine Sub.cons (by repeat first | exact .head | apply Pick.tail) ?_)
           case hp=>exact ⟨by omega,goodTo_succ hg (by unfold goodR;omega)⟩
           case hmu=>omega
     ·refine W.exit (blk_same (W.sreg (WO.p rfl rfl (WO.nil (W.ret (fin.ret (Res.one rfl (RV.tmp rfl)) (congrArg (Value.int .i64) ?_)))))))
      first | (unfold chkT;first | rw [if_pos (by omega)] | (rw [if_neg (by omega),if_pos (by omega)]);done) | exact chkT_bad (i:=i) (by omega) (by omega) (by omega) (by unfold goodR;omega) | exact chkT_good (by omega) (by omega) (by omega) hg
end Go.Proofs.YtoapkhkdnbcilaaGreat.Tr
namespace Go.Proofs.YtoapkhkdnbcilaaGreat.Tr
open Go Go.TH
attribute [local irreducible] W WO pt
set_option maxRecDepth 10000
set_option maxHeartbeats 1000000
structure VT (m:Int) (rs:List (Int × Int × Int)):Prop where
 n:2≤rs.length∧rs.length≤5
 m:0≤m∧m≤2
 ok:goodTo rs rs.length
theorem VT.of {m:Int} {rs:List (Int × Int × Int)} (h:chkT m rs=0):VT m rs:=by
 unfold chkT at h
 split at h;· omega
 split at h;· omega
 split at h
 ·exact ⟨by omega,by omega,by assumption⟩
 ·omega
theorem VT.to {m:Int} {rs:List (Int × Int × Int)} (h:VT m rs):chkT m rs=0:=by
 have h1:=h.n;have h2:=h.m
 unfold chkT;rw [if_neg (by omega),if_neg (by omega),if_pos h.ok]
def tm (rs:List (Int × Int × Int)) (i:Nat):Int:=(rs.getD i r0).1
theorem VT.run {m:Int} {rs:List (Int × Int × Int)} (h:VT m rs) {i:Nat} (hi:i<rs.length):0≤tm rs i∧tm rs i≤60∧0≤(rs.getD i r0).2.1∧(rs.getD i r0).2.1≤(rs.getD i r0).2.2∧(rs.getD i r0).2.2≤20000:=by
 have h1:=h.ok i hi
 have h2:=prev_in (rs:=rs) (i:=i) (fun j hj=>h.ok j (by omega))
 unfold goodR at h1
 unfold tm;omega
theorem VT.next {m:Int} {rs:List (Int × Int × Int)} (h:VT m rs) {i:Nat} (hi:i+1<rs.length):tm rs i+1≤tm rs (i+1):=by
 have h1:=h.ok (i+1) hi
 unfold goodR at h1
 rw [prevAt_pos (by omega),Nat.add_sub_cancel] at h1
 exact h1.1
theorem VT.lt {m:Int} {rs:List (Int × Int × Int)} (h:VT m rs) {j k:Nat} (hjk:j<k) (hk:k<rs.length):1≤tm rs k-tm rs j∧tm rs k-tm rs j≤60:=by
 have key:∀ d,j+1+d<rs.length→tm rs j+1≤tm rs (j+1+d):=by
  intro d
  induction d with
  | zero=>exact fun hd=>h.next hd
  | succ d ih=>intro hd;have h1:=ih (by omega);have h2:=h.next (i:=j+1+d) hd;rw [show j+1+(d+1)=j+1+d+1 by omega];omega
 have h1:=key (k-j-1) (by omega)
 rw [show j+1+(k-j-1)=k by omega] at h1
 have h2:=h.run (i:=j) (by omega)
 have h3:=h.run hk
 omega
def pairsTo (k:Nat):List (Nat × Nat):=(List.range k).flatMap fun k=>(List.range k).map fun j=>(j,k)
theorem pairsTo_succ (k:Nat):pairsTo (k+1)=pairsTo k++(List.range k).map fun j=>(j,k):=by
 unfold pairsTo;rw [List.range_succ,List.flatMap_append];simp
theorem pairsTo_len (k:Nat):(pairsTo (k+1)).length=(pairsTo k).length+k:=by rw [pairsTo_succ];simp
theorem pairsTo_get {j k:Nat}:∀ {n:Nat},k<n→j<k→(pairsTo n)[(pairsTo k).length+j]?=some (j,k)
 | 0,h,_=>by omega
 | n+1,h,hj=>by
  rw [pairsTo_succ]
  rcases Nat.lt_or_ge k n with h1 | h1
  ·have:=pairsTo_get (n:=n) h1 hj
   rw [List.getElem?_append_left (List.getElem?_eq_some_iff.1 this).1];exact this
  ·obtain rfl:k=n:=by omega
   rw [List.getElem?_append_right (by omega),Nat.add_sub_cancel_left,List.getElem?_map,List.getElem?_range hj]
   rfl
theorem pairsTo_mem {n:Nat} {q:Nat × Nat} (h:q∈pairsTo n):q.1<q.2∧q.2<n:=by
 unfold pairsTo at h
 obtain ⟨k,hk,h⟩:=List.mem_flatMap.1 h
 obtain ⟨j,hj,rfl⟩:=List.mem_map.1 h
 simp at hk hj
 exact ⟨hj,hk⟩
def pairV (q:Nat × Nat):Value × Value:=(.int .i64 (q.1:Int),.int .i64 (q.2:Int))
theorem pairV_get {j k n:Nat} (hk:k<n) (hj:j<k):((pairsTo n).map pairV)[(pairsTo k).length+j]?=some (.int .i64 (j:Int),.int .i64 (k:Int)):=by
 rw [List.getElem?_map,pairsTo_get hk hj];rfl
theorem c_pairs (w:World) (p:Addr):Ct Tryz.prog 122 [.pointer (some p)].toArray w fun v w'=>∃ Hq,(∃ b1,v=.func (.func 204) #[] #[.pointer (some ⟨b1,0,none⟩)] ∧
 Hq=[pt b1 (.cells #[.pointer (some p)] 67 (0,0))])∧Inv w [] Hq w':=by
 refine Ct.of mixed tyTab Tryz.func122 rfl rfl (W.sreg (WO.box1 rfl (by rfl) rfl (fun b1 hb1=>(WO.p rfl rfl (WO.nil (W.sreg (WO.p rfl rfl (WO.p rfl rfl (WO.nil (W.ret ?_))))))))))
 exact fin.ret (Res.one rfl (RV.tmp rfl)) ⟨b1,rfl,rfl⟩
theorem c_pairs1 (B:Nat) (wr:World) (p:Addr) (m:Int) (o:Value) (rest:List Value) (rs:List (Int × Int × Int)) (hP:RdC B wr p (.int .i64 m::o::rest)) (hR:RdF encR 3 B wr o rs) (hn:rs.length≤5)
 (l:Nat) (Hc:Nat→List HP) (hy:∀ k x,((pairsTo rs.length).map pairV)[k]?=some x→YieldOK Tryz.prog B wr l #[x.1,x.2] (Hc k) (Hc (k+1))) (b1:Nat) (w:World) (M':List Nat) (hB:B≤w.heap.size) (hk:∀ k,k<B→w.heap[k]?=wr.heap[k]?) (hM:∀ b∈M',B≤b)
 (hi:Inv w M' ([pt b1 (.cells #[.pointer (some p)] 67 (0,0))]++Hc 0) w) :
 Ct Tryz.prog 204 ([.func (.yield l) #[] #[],.pointer (some ⟨b1,0,none⟩)]:List Value).toArray w fun _ w'=>Inv w M' ([pt b1 (.cells #[.pointer (some p)] 67 (0,0))]++Hc ((pairsTo rs.length).map pairV).length) w':=by
 refine Iter.of mixed tyTab hB hM Tryz.func204 rfl rfl hi ?_
 replace hR:RdF encR 3 (itCx mixed tyTab Tryz.f204.ntmps w M' B hB hM).B (itCx mixed tyTab Tryz.f204.ntmps w M' B hB hM).w0 o rs:=hR.agree hk
 replace hP:RdC (itCx mixed tyTab Tryz.f204.ntmps w M' B hB hM).B (itCx mixed tyTab Tryz.f204.ntmps w M' B hB hM).w0 p (.int .i64 m::o::rest):=hP.agree hk
 have hle:=hR.sl.le
 refine W.sreg (WO.load rfl rfl (Cell.own Pick.head rfl) rfl (WO.p rfl rfl (WO.field0 rfl rfl rfl (WO.field rfl rfl rfl ?_))))
 refine' WO.load (v:=_) rfl rfl ?hc rfl ?_
 case hc=>((refine hP.cellAt ?_;rfl))
 refine WO.len rfl rfl hR.sl rfl (WO.p rfl rfl (WO.nil (W.block ?_)))
 refine W.loop (fun (k:Nat)=>k≤rs.length)
  (fun (k:Nat)=>[(11,.int .i64 (k:Int)),(10,.int .i64 (rs.length:Int)),(0,.func (.yield l) #[] #[]),(1,.pointer (some ⟨b1,0,none⟩))])
  (fun (k:Nat)=>[pt b1 (.cells #[.pointer (some p)] 67 (0,0)),sat (Hc (pairsTo k).length)])
  (fun (k:Nat)=>rs.length-k) 0
  (by exact Nat.zero_le _) ⟨rfl,rfl,rfl,rfl,trivial⟩ (by repeat (first | exact Sub.nil | refine Sub.cons (by repeat exact .head) ?_)) ?_
 rintro k hk'
 refine W.sreg (WO.p rfl rfl (WO.nil (W.seq ?_)))
 refine W.cond_bl rfl (fun c1=>?_) (fun c1=>?_)
 ·refine W.skip (W.seq (W.block (W.sreg (WO.p rfl rfl (WO.p rfl rfl (WO.nil (W.sreg (WO.p rfl rfl (WO.p rfl rfl (WO.nil (W.block ?_)))))))))))
  refine W.loop (fun (j:Nat)=>j≤k)
   (fun (j:Nat)=>[(11,.int .i64 (k:Int)),(10,.int .i64 (rs.length:Int)),(3,.int .i64 (k:Int)),(14,.int .i64 (k:Int)),(15,.int .i64 (j:Int)),(0,.func (.yield l) #[] #[]),(1,.pointer (some ⟨b1,0,none⟩))])
   (fun (j:Nat)=>[pt b1 (.cells #[.pointer (some p)] 67 (0,0)),sat (Hc ((pairsTo k).length+j))])
   (fun (j:Nat)=>k-j) 0
   (by exact Nat.zero_le _) ⟨rfl,rfl,rfl,rfl,rfl,rfl,rfl,trivial⟩ (by repeat (first | exact Sub.nil | refine Sub.cons (by repeat exact .head) ?_)) ?_
  rintro j hj'
  refine W.sreg (WO.p rfl rfl (WO.nil (W.seq ?_)))
  refine W.cond_bl rfl (fun c2=>?_) (fun c2=>?_)
  ·refine W.skip (W.seq (W.block (W.sreg (WO.p rfl rfl (WO.p rfl rfl (WO.nil (W.sreg (WO.p rfl rfl (WO.p rfl rfl (WO.p rfl rfl (WO.yield rfl rfl (by repeat first | exact .head | apply Pick.tail) ((hy _ _ (pairV_get (j:=j) (k:=k) (by omega) (by omega))).one.agree hk) rfl (WO.p rfl rfl (WO.nil (W.cond_f rfl (W.skip (W.region (WO.ar rfl rfl rfl (by unfold in64;omega) rfl (WO.p rfl rfl (WO.nil ?_)))))))))))))))))))
   refine' ⟨j+1,?hp,?hmu,⟨rfl,rfl,rfl,rfl,rfl,rfl,rfl,trivial⟩,?hS⟩
   case hS=>repeat (first | exact Sub.nil | refine Sub.cons (by repeat first | exact .head | apply Pick.tail) ?_)
   case hp=>omega
   case hmu=>omega
  ·refine W.exit (blk_same ?_)
   obtain rfl:k=j:=by omega
   rw [← pairsTo_len]
   refine W.region (WO.ar rfl rfl rfl (by unfold in64;omega) rfl (WO.p rfl rfl (WO.nil ?_)))
   refine' ⟨k+1,?hp,?hmu,⟨rfl,rfl,rfl,rfl,trivial⟩,?hS⟩
   case hS=>repeat (first | exact Sub.nil | refine Sub.cons (by repeat exact .head) ?_)
   case hp=>omega
   case hmu=>omega
 ·refine W.exit (blk_same ?_)
  obtain rfl:k=rs.length:=by omega
  refine fin.normal (Res.none rfl) ?_
  rw [show ((pairsTo rs.length).map pairV).length=(pairsTo rs.length).length by simp]
  exact .cons .head (.cons .head .nil)
end Go.Proofs.YtoapkhkdnbcilaaGreat.Tr
namespace Go.Proofs.YtoapkhkdnbcilaaGreat.Tr
open Go Go.TH
attribute [local irreducible] W WO pt
set_option maxRecDepth 10000
set_option maxHeartbeats 1000000
def a5 (f:Nat→Int):List Value:=[.int .i64 (f 0),.int .i64 (f 1),.int .i64 (f 2),.int .i64 (f 3),.int .i64 (f 4)]
def up (f:Nat→Int) (i:Nat) (x:Int):Nat→Int:=fun j=>if j=i then x else f j
def wTo (g:Nat→Int) (i:Nat):Nat→Int:=fun j=>if j<i then g j else 0
theorem up_wTo (g:Nat→Int) (i:Nat):up (wTo g i) i (g i)=wTo g (i+1):=by
 funext j
 show (if j=i then g i else if j<i then g j else 0)=if j<i+1 then g j else 0
 by_cases e:j=i
 ·rw [if_pos e,if_pos (by omega),e]
 ·rw [if_neg e]
  by_cases h:j<i
  ·rw [if_pos h,if_pos (by omega)]
  ·rw [if_neg h,if_neg (by omega)]
theorem a5_set {f:Nat→Int} {i:Nat} {x:Int} (h:i<5):(a5 f).set (0+i) (.int .i64 x)=a5 (up f i x):=by
 match i,h with
 | 0,_=>rfl
 | 1,_=>rfl
 | 2,_=>rfl
 | 3,_=>rfl
 | 4,_=>rfl
theorem a5_congr {f g:Nat→Int} (h:∀ j,j<5→f j=g j):a5 f=a5 g:=by
 unfold a5
 rw [h 0 (by omega),h 1 (by omega),h 2 (by omega),h 3 (by omega),h 4 (by omega)]
theorem a5_get {f:Nat→Int} {i:Nat} (h:i<5):lget (a5 f) (0+i)=some (.int .i64 (f i)):=by
 match i,h with
 | 0,_=>rfl
 | 1,_=>rfl
 | 2,_=>rfl
 | 3,_=>rfl
 | 4,_=>rfl
theorem a5_cell {P:Program} {C:Cx P} {H H':List HP} {b i:Nat} {t:TypeId} {fr:Nat × Nat} {f:Nat→Int} (p:Pick (pt b (.cells (a5 f).toArray t fr)) H H') (h:i<5):Cell C H ⟨b,0+i,none⟩ (.int .i64 (f i)):=Cell.own p (a5_get h)
theorem a5_cellE {P:Program} {C:Cx P} {H H':List HP} {b i:Nat} {t:TypeId} {fr:Nat × Nat} {f:Nat→Int} {x:Int} (p:Pick (pt b (.cells (a5 f).toArray t fr)) H H') (h:i<5) (e:f i=x):Cell C H ⟨b,0+i,none⟩ (.int .i64 x):=e▸a5_cell p h
theorem a5_cellS {P:Program} {C:Cx P} {H:List HP} {b i:Nat} {t:TypeId} {fr:Nat × Nat} {f:Nat→Int} {x:Int} (s:Sub H [pt b (.cells (a5 f).toArray t fr)]) (h:i<5) (e:f i=x):Cell C H ⟨b,0+i,none⟩ (.int .i64 x):=by
 cases s with
 | cons p _=>exact a5_cellE p h e
theorem a5_blt {f:Nat→Int} {i:Nat} (h:i<5):Nat.blt (0+i) (a5 f).length=true:=by rw [Nat.blt_eq,Nat.zero_add];exact h
def exF (rs:List (Int × Int × Int)) (i:Nat) (w:Int) (q:Nat × Nat):Int:=if i≠q.1∧i≠q.2 then w*(tm rs q.2-tm rs q.1) else w
def exW (rs:List (Int × Int × Int)) (i:Nat):Int:=(pairsTo rs.length).foldl (exF rs i) 1
theorem foldl_take_some {α β:Type} (f:β→α→β) {l:List α} {i:Nat} {x:α} (h:l[i]?=some x) (b:β):(l.take (i+1)).foldl f b=f ((l.take i).foldl f b) x:=by
 rw [List.take_add_one,h,List.foldl_append];rfl
theorem exF_in {m:Int} {rs:List (Int × Int × Int)} (hv:VT m rs) {i:Nat} {w:Int} {q:Nat × Nat} (hq:q.1<q.2∧q.2<rs.length) {B:Int} (h:1≤w∧w≤B):1≤exF rs i w q∧exF rs i w q≤B*60:=by
 have h1:=hv.lt hq.1 hq.2
 unfold exF
 split
 ·constructor
  ·have:=Int.mul_le_mul h.1 h1.1 (by omega) (by omega);omega
  ·exact Int.mul_le_mul h.2 h1.2 (by omega) (by omega)
 ·omega
theorem exW_in {m:Int} {rs:List (Int × Int × Int)} (hv:VT m rs) (i:Nat):∀ q,q≤(pairsTo rs.length).length→1≤((pairsTo rs.length).take q).foldl (exF rs i) 1∧((pairsTo rs.length).take q).foldl (exF rs i) 1≤60 ^ q
 | 0,_=>by simp
 | q+1,h=>by
  have ih:=exW_in hv i q (by omega)
  obtain ⟨x,hx⟩:∃ x,(pairsTo rs.length)[q]?=some x:=⟨(pairsTo rs.length)[q],by simp [h]⟩
  rw [foldl_take_some _ hx,Int.pow_succ]
  exact exF_in hv (pairsTo_mem (List.mem_of_getElem? hx)) ih
theorem pairs_ten {n:Nat} (h:n≤5):(pairsTo n).length≤10:=by
 match n,h with
 | 0,_=>decide
 | 1,_=>decide
 | 2,_=>decide
 | 3,_=>decide
 | 4,_=>decide
 | 5,_=>decide
theorem exW_B {m:Int} {rs:List (Int × Int × Int)} (hv:VT m rs) (i:Nat) {q:Nat} (hq:q≤(pairsTo rs.length).length):1≤((pairsTo rs.length).take q).foldl (exF rs i) 1∧((pairsTo rs.length).take q).foldl (exF rs i) 1≤604661760000000000:=by
 have h1:=exW_in hv i q hq
 have h2:q≤10:=Nat.le_trans hq (pairs_ten hv.n.2)
 have h3:=(by decide:∀ q:Nat,q≤10→(60:Int) ^ q≤604661760000000000) q h2
 omega
theorem c_plain (w:World) (p:Addr) (m:Int) (o:Value) (rest:List Value) (rs:List (Int × Int × Int)) (hP:RdC w.heap.size w p (.int .i64 m::o::rest)) (hR:RdF encR 3 w.heap.size w o rs) (hn:rs.length≤5) :
 Ret Tryz.prog 62 [.pointer (some p)].toArray w (.agg (a5 (wTo (fun _=>1) rs.length)).toArray):=by
 refine Ret.of mixed tyTab Tryz.func62 rfl rfl ?_
 replace hR:RdF encR 3 (fnCx mixed tyTab Tryz.f62.ntmps w).B (fnCx mixed tyTab Tryz.f62.ntmps w).w0 o rs:=hR
 replace hP:RdC (fnCx mixed tyTab Tryz.f62.ntmps w).B (fnCx mixed tyTab Tryz.f62.ntmps w).w0 p (.int .i64 m::o::rest):=hP
 refine W.sreg (WO.alloc rfl rfl rfl (fun b1 hb1=>(WO.nil (W.sreg (WO.alloc rfl rfl rfl (fun b2 hb2=>(WO.nil (W.seq (W.sreg (WO.p rfl rfl (WO.p rfl rfl (WO.field0 rfl rfl rfl (WO.field rfl rfl rfl ?_)))))))))))))
 refine' WO.load (v:=_) rfl rfl ?hc rfl ?_
 case hc=>((refine hP.cellAt ?_;rfl))
 refine WO.len rfl rfl hR.sl rfl (WO.p rfl rfl (WO.nil (W.block ?_)))
 refine W.loop (fun (i:Nat)=>i≤rs.length)
  (fun (i:Nat)=>[(11,.int .i64 (i:Int)),(10,.int .i64 (rs.length:Int)),(3,.pointer (some ⟨b2,0,none⟩)),(2,.pointer (some ⟨b1,0,none⟩))])
  (fun (i:Nat)=>[pt b1 (.cells #[.int .i64 0,.int .i64 0,.int .i64 0,.int .i64 0,.int .i64 0] 110 (0,0)),pt b2 (.cells (a5 (wTo (fun _=>1) i)).toArray 110 (0,0))])
  (fun (i:Nat)=>rs.length-i) 0
  (by omega) ⟨rfl,rfl,rfl,rfl,trivial⟩ (by repeat (first | exact Sub.nil | refine Sub.cons (by repeat first | exact .head | apply Pick.tail) ?_)) ?_
 rintro i hi
 refine W.sreg (WO.p rfl rfl (WO.nil (W.seq ?_)))
 refine W.cond_bl rfl (fun c1=>?_) (fun c1=>?_)
 ·refine W.skip (W.seq (W.block (W.sreg (WO.p rfl rfl (WO.p rfl rfl (WO.nil (W.region (WO.p rfl rfl (WO.indexArrL (i:=i) (o':=0+i) rfl rfl rfl (by omega) (by omega) rfl (WO.store1 rfl rfl rfl rfl (by repeat first | exact .head | apply Pick.tail) (a5_blt (by omega)) ?_))))))))))
  rw [a5_set (by omega),up_wTo (fun _=>1) i]
  refine WO.nil (W.region (WO.ar rfl rfl rfl (by unfold in64;omega) rfl (WO.p rfl rfl (WO.nil ?_))))
  refine' ⟨i+1,?hp,?hmu,⟨rfl,rfl,rfl,rfl,trivial⟩,?hS⟩
  case hS=>repeat (first | exact Sub.nil | refine Sub.cons (by repeat first | exact .head | apply Pick.tail) ?_)
  case hp=>omega
  case hmu=>omega
 ·refine W.exit (blk_same (W.sreg (WO.loadA rfl rfl (Cells.own (Pick.tail (Pick.head))) rfl rfl (WO.storeA rfl rfl rfl rfl Pick.head rfl rfl (WO.nil (W.ret ?_))))))
  obtain rfl:i=rs.length:=by omega
  exact fin.ret (Res.one rfl (RV.cell rfl rfl rfl (Cells.own Pick.head))) rfl
theorem exF_q {rs:List (Int × Int × Int)} {i j k:Nat} {w:Int}:exF rs i w (j,k)=if (i:Int)≠(j:Int)∧(i:Int)≠(k:Int) then w*(tm rs k-tm rs j) else w:=by
 unfold exF
 by_cases h:i≠j∧i≠k
 ·rw [if_pos h,if_pos (by omega)]
 ·rw [if_neg h,if_neg (by omega)]
theorem up_up (f:Nat→Int) (i:Nat) (x y:Int):up (up f i x) i y=up f i y:=by
 funext j
 unfold up
 by_cases h:j=i
 ·rw [if_pos h,if_pos h]
 ·rw [if_neg h,if_neg h,if_neg h]
theorem up_at (f:Nat→Int) (i:Nat) (x:Int):up f i x i=x:=by unfold up;rw [if_pos rfl]
theorem pairV_some {n q:Nat} {x:Value × Value} (h:((pairsTo n).map pairV)[q]?=some x):∃ j k:Nat,(pairsTo n)[q]?=some (j,k)∧j<k∧k<n∧x=(.int .i64 (j:Int),.int .i64 (k:Int)):=by
 rw [List.getElem?_map] at h
 cases hq:(pairsTo n)[q]? with
 | none=>rw [hq] at h;cases h
 | some y =>
  rw [hq] at h
  have:=pairsTo_mem (List.mem_of_getElem? hq)
  exact ⟨y.1,y.2,rfl,this.1,this.2,(Option.some.inj h).symm⟩
theorem c_exact (w:World) (p:Addr) (m:Int) (o:Value) (rest:List Value) (rs:List (Int × Int × Int)) (hP:RdC w.heap.size w p (.int .i64 m::o::rest)) (hR:RdF encR 3 w.heap.size w o rs) (hv:VT m rs) :
 Ret Tryz.prog 61 [.pointer (some p)].toArray w (.agg (a5 (wTo (exW rs) rs.length)).toArray):=by
 refine Ret.of mixed tyTab Tryz.func61 rfl rfl ?_
 replace hR:RdF encR 3 (fnCx mixed tyTab Tryz.f61.ntmps w).B (fnCx mixed tyTab Tryz.f61.ntmps w).w0 o rs:=hR
 replace hP:RdC (fnCx mixed tyTab Tryz.f61.ntmps w).B (fnCx mixed tyTab Tryz.f61.ntmps w).w0 p (.int .i64 m::o::rest):=hP
 have hn:=hv.n
 refine W.sreg (WO.box1 rfl (by rfl) rfl (fun b1 hb1=>(WO.alloc rfl rfl rfl (fun b2 hb2=>(WO.nil (W.sreg (WO.alloc rfl rfl rfl (fun b3 hb3=>(WO.nil (W.seq (W.sreg (WO.load rfl rfl (Cell.own (Pick.tail (Pick.tail (Pick.head))) rfl) rfl (WO.p rfl rfl (WO.field0 rfl rfl rfl (WO.field rfl rfl rfl ?_)))))))))))))))
 refine' WO.load (v:=_) rfl rfl ?hc rfl ?_
 case hc=>(first | (refine hP.cellAt ?_;rfl) | (refine hP2.cellAt ?_;rfl) | (refine hR2.cell0 ?_ r0 ?_ <;> first | rfl | omega))
 refine' WO.len (n:=_) rfl rfl ?hs rfl ?_
 case hs=>(exact hR.sl)
 refine WO.p rfl rfl (WO.nil (W.block ?_))
 refine W.loop (fun (i:Nat)=>i≤rs.length)
  (fun (i:Nat)=>[(13,.int .i64 (i:Int)),(12,.int .i64 (rs.length:Int)),(3,.pointer (some ⟨b3,0,none⟩)),(2,.pointer (some ⟨b2,0,none⟩)),(1,.pointer (some ⟨b1,0,none⟩))])
  (fun (i:Nat)=>[pt b1 (.cells #[.pointer (some p)] 67 (0,0)),pt b2 (.cells #[.int .i64 0,.int .i64 0,.int .i64 0,.int .i64 0,.int .i64 0] 110 (0,0)),pt b3 (.cells (a5 (wTo (exW rs) i)).toArray 110 (0,0))])
  (fun (i:Nat)=>rs.length-i) 0
  (by omega) ⟨rfl,rfl,rfl,rfl,rfl,trivial⟩ (by repeat (first | exact Sub.nil | refine Sub.cons (by repeat first | exact .head | apply Pick.tail) ?_)) ?_
 rintro i hi
 refine W.sreg (WO.p rfl rfl (WO.nil (W.seq ?_)))
 refine W.cond_bl rfl (fun c1=>?_) (fun c1=>?_)
 ·refine W.skip (W.seq (W.block (W.sreg (WO.p rfl rfl (WO.alloc rfl rfl rfl (fun b4 hb4=>(WO.store1 rfl rfl rfl (by rfl) Pick.head rfl (WO.nil (W.sreg (WO.load rfl rfl (Cell.own Pick.head rfl) rfl (WO.indexArrL (i:=i) (o':=0+i) rfl rfl rfl (by omega) (by omega) rfl (WO.store1 rfl rfl rfl rfl (by repeat first | exact .head | apply Pick.tail) (a5_blt (by omega)) ?_))))))))))))
  rw [a5_set (by omega)]
  refine WO.nil (W.sreg (WO.load rfl rfl (Cell.own (Pick.tail (Pick.tail (Pick.head))) rfl) rfl (WO.call (Post:=fun v Hq=>∃ b1,v=.func (.func 204) #[] #[.pointer (some ⟨b1,0,none⟩)]∧Hq=[pt b1 (.cells #[.pointer (some p)] 67 (0,0))]) rfl Tryz.call122 (fun L w hi=>c_pairs w _) rfl ?_)))
  rintro _ _ ⟨e1,rfl,rfl⟩
  refine WO.nil (W.block ?_)
  refine W.rangeFunc2 [pt e1 (.cells #[.pointer (some p)] 67 (0,0))] (fun q=>[pt b1 (.cells #[.pointer (some p)] 67 (0,0)),pt b2 (.cells #[.int .i64 0,.int .i64 0,.int .i64 0,.int .i64 0,.int .i64 0] 110 (0,0)),pt b4 (.cells #[.int .i64 (i:Int)] 3 (0,0)),pt b3 (.cells (a5 (up (wTo (exW rs) i) i (((pairsTo rs.length).take q).foldl (exF rs i) 1))).toArray 110 (0,0))]) ((pairsTo rs.length).map pairV) rfl rfl rfl rfl Tryz.call204 (by repeat (first | exact Sub.nil | refine Sub.cons (by repeat first | exact .head | apply Pick.tail) ?_)) ?_ ?_ ?_
  ·intro l Hc hy w1 M' hB hk hM hi
   exact c_pairs1 _ _ p m o rest rs hP hR hn.2 l Hc hy e1 w1 M' hB hk hM hi
  ·intro l w1 M hB hM hk q x hx
   obtain ⟨j,k,hq,hjk,hkn,rfl⟩:=pairV_some hx
   have hR2:RdF encR 3 (rdCx (fnCx mixed tyTab Tryz.f61.ntmps w) l w1 M hB hM).B (rdCx (fnCx mixed tyTab Tryz.f61.ntmps w) l w1 M hB hM).w0 o rs:=hR.agree hk
   have hP2:RdC (rdCx (fnCx mixed tyTab Tryz.f61.ntmps w) l w1 M hB hM).B (rdCx (fnCx mixed tyTab Tryz.f61.ntmps w) l w1 M hB hM).w0 p (.int .i64 m::o::rest):=hP.agree hk
   have hB1:=exW_B hv i (q:=q) (Nat.le_of_lt (List.getElem?_eq_some_iff.1 hq).1)
   have hB2:=exW_B hv i (q:=q+1) (List.getElem?_eq_some_iff.1 hq).1
   rw [foldl_take_some _ hq,exF_q] at hB2
   rw [foldl_take_some _ hq,exF_q]
   generalize hwq:((pairsTo rs.length).take q).foldl (exF rs i) 1=w2 at hB1 hB2
   have hru:=hv.run hkn
   have hlt:=hv.lt hjk hkn
   refine W.sreg (WO.p rfl rfl (WO.nil (W.region (WO.p rfl rfl (WO.nil (W.block (W.sreg (WO.load rfl rfl (Cell.own (Pick.tail (Pick.tail (Pick.head))) rfl) rfl (WO.p rfl rfl (WO.p rfl rfl (WO.p rfl rfl ?_)))))))))))
   refine WO.guard_bl rfl rfl (fun c2=>?_) (fun c2=>?_)
   ·refine WO.go' rfl (WO.load rfl rfl (Cell.own (Pick.tail (Pick.tail (Pick.head))) rfl) rfl (WO.pg rfl rfl rfl (WO.pg rfl rfl rfl (WO.p rfl rfl (WO.nil ?_)))))
    refine W.cond_bl rfl (fun c3=>?_) (fun c3=>?_)
    ·rw [if_pos (by omega)] at hB2
     unfold tm at hB2 hlt
     refine W.drawD 22 [.b 0 [],.r 1 [],.b 2 [],.b 3 [],.r 4 [],.r 5 [],.r 6 [],.b 7 [],.r 8 [],.r 9 [],.r 10 [],.b 11 [],.b 12 [],.r 13 [],.r 14 [],.r 15 [],.b 16 [],.r 17 [],.r 18 [],.r 19 [],.b 20 [],.r 21 []] [] (A0:=[]) (Sub.refl _) (by kernel_rfl) ?_ ?_
     ·repeat constructor
     refine DT.b rfl rfl rfl (WO.load rfl rfl (Cell.own (Pick.tail (Pick.tail (Pick.head))) rfl) rfl (WO.nil ⟨rfl,rfl⟩)) (DT.r rfl rfl rfl (WO.indexArrL (i:=i) (o':=0+i) rfl rfl rfl (by omega) (by omega) rfl (WO.nil ⟨rfl,rfl⟩)) ?_)
     refine' DT.b rfl rfl rfl ?hq ?_
     case hq =>
      refine' WO.load (v:=_) rfl rfl ?hc rfl ?_
      case hc=>(first | (refine a5_cellS (t:=110) (fr:=(0,0)) (f:=up (wTo (exW rs) i) i w2) ?_ ?_ (up_at _ _ _);(repeat (first | exact Sub.nil | refine Sub.cons (by repeat first | exact .head | apply Pick.tail) ?_));omega))
      exact WO.nil ⟨rfl,rfl⟩
     refine DT.b rfl rfl rfl (WO.load rfl rfl (Cell.own Pick.head rfl) rfl (WO.nil ⟨rfl,rfl⟩)) (DT.r rfl rfl rfl (WO.p rfl rfl (WO.nil ⟨rfl,rfl⟩)) (DT.r rfl rfl rfl (WO.field0 rfl rfl rfl (WO.nil ⟨rfl,rfl⟩)) (DT.r rfl rfl rfl (WO.field rfl rfl rfl (WO.nil ⟨rfl,rfl⟩)) ?_)))
     refine' DT.b rfl rfl rfl ?hq ?_
     case hq =>
      refine' WO.load (v:=_) rfl rfl ?hc rfl ?_
      case hc=>(first | (refine hP.cellAt ?_;rfl) | (refine hP2.cellAt ?_;rfl) | (refine hR2.cell0 ?_ r0 ?_ <;> first | rfl | omega))
      exact WO.nil ⟨rfl,rfl⟩
     refine DT.r rfl rfl rfl (WO.p rfl rfl (WO.nil ⟨rfl,rfl⟩)) ?_
     refine' DT.r rfl rfl rfl ?hq ?_
     case hq =>
      refine' WO.indexAddr (n:=_) (i:=_) rfl rfl rfl ?hs ?h1 rfl ?_
      case hs=>(exact hR.sl)
      case h1=>(omega)
      exact WO.nil ⟨rfl,rfl⟩
     refine DT.r rfl rfl rfl (WO.field0 rfl rfl rfl (WO.nil ⟨rfl,rfl⟩)) ?_
     refine' DT.b rfl rfl rfl ?hq ?_
     case hq =>
      refine' WO.load (v:=_) rfl rfl ?hc rfl ?_
      case hc=>(first | (refine hP.cellAt ?_;rfl) | (refine hP2.cellAt ?_;rfl) | (refine hR2.cell0 ?_ r0 ?_ <;> first | rfl | omega))
      exact WO.nil ⟨rfl,rfl⟩
     refine DT.b rfl rfl rfl (WO.load rfl rfl (Cell.own Pick.head rfl) rfl (WO.nil ⟨rfl,rfl⟩)) (DT.r rfl rfl rfl (WO.p rfl rfl (WO.nil ⟨rfl,rfl⟩)) (DT.r rfl rfl rfl (WO.field0 rfl rfl rfl (WO.nil ⟨rfl,rfl⟩)) (DT.r rfl rfl rfl (WO.field rfl rfl rfl (WO.nil ⟨rfl,rfl⟩)) ?_)))
     refine' DT.b rfl rfl rfl ?hq ?_
     case hq =>
      refine' WO.load (v:=_) rfl rfl ?hc rfl ?_
      case hc=>(first | (refine hP.cellAt ?_;rfl) | (refine hP2.cellAt ?_;rfl) | (refine hR2.cell0 ?_ r0 ?_ <;> first | rfl | omega))
      exact WO.nil ⟨rfl,rfl⟩
     refine DT.r rfl rfl rfl (WO.p rfl rfl (WO.nil ⟨rfl,rfl⟩)) ?_
     refine' DT.r rfl rfl rfl ?hq ?_
     case hq =>
      refine' WO.indexAddr (n:=_) (i:=_) rfl rfl rfl ?hs ?h1 rfl ?_
      case hs=>(exact hR.sl)
      case h1=>(omega)
      exact WO.nil ⟨rfl,rfl⟩
     refine DT.r rfl rfl rfl (WO.field0 rfl rfl rfl (WO.nil ⟨rfl,rfl⟩)) ?_
     refine' DT.b rfl rfl rfl ?hq ?_
     case hq =>
      refine' WO.load (v:=_) rfl rfl ?hc rfl ?_
      case hc=>(first | (refine hP.cellAt ?_;rfl) | (refine hP2.cellAt ?_;rfl) | (refine hR2.cell0 ?_ r0 ?_ <;> first | rfl | omega))
      exact WO.nil ⟨rfl,rfl⟩
     refine DT.r rfl rfl rfl (WO.ar rfl rfl rfl (by unfold in64;omega) rfl (WO.nil ⟨rfl,rfl⟩)) (DT.nil [_,_,_,_] rfl (WO.ar rfl rfl rfl (by unfold in64;omega) rfl (WO.indexArrL (i:=i) (o':=0+i) rfl rfl rfl (by omega) (by omega) rfl (WO.store1 rfl rfl rfl rfl (by repeat first | exact .head | apply Pick.tail) (a5_blt (by omega)) ?_))))
     rw [a5_set (by omega),up_up]
     refine WO.nil ?_
     rw [if_pos (by omega)]
     (repeat (first | exact Sub.nil | refine Sub.cons (by repeat first | exact .head | apply Pick.tail) ?_))
    ·refine W.skip ?_
     rw [if_neg (by omega)]
     (repeat (first | exact Sub.nil | refine Sub.cons (by repeat exact .head) ?_))
   ·refine WO.no rfl rfl (WO.no rfl rfl (WO.no rfl rfl (WO.p rfl rfl (WO.nil (W.cond_f rfl (W.skip ?_))))))
    rw [if_neg (by omega)]
    (repeat (first | exact Sub.nil | refine Sub.cons (by repeat exact .head) ?_))
  rw [List.length_map,List.take_length,show (pairsTo rs.length).foldl (exF rs i) 1=exW rs i from rfl,up_wTo]
  refine W.region (WO.ar rfl rfl rfl (by unfold in64;omega) rfl (WO.p rfl rfl (WO.nil ?_)))
  refine' ⟨i+1,?hp,?hmu,⟨rfl,rfl,rfl,rfl,rfl,trivial⟩,?hS⟩
  case hS=>repeat (first | exact Sub.nil | refine Sub.cons (by repeat first | exact .head | apply Pick.tail) ?_)
  case hp=>omega
  case hmu=>omega
 ·refine W.exit (blk_same (W.sreg (WO.loadA rfl rfl (Cells.own (Pick.tail (Pick.tail (Pick.head)))) rfl rfl (WO.storeA rfl rfl rfl rfl (Pick.tail (Pick.head)) rfl rfl (WO.nil (W.ret ?_))))))
  obtain rfl:i=rs.length:=by omega
  exact fin.ret (Res.one rfl (RV.cell rfl rfl rfl (Cells.own Pick.head))) rfl
end Go.Proofs.YtoapkhkdnbcilaaGreat.Tr
namespace Go.Proofs.YtoapkhkdnbcilaaGreat.Tr
open Go Go.TH
attribute [local irreducible] W WO pt
set_option maxRecDepth 10000
set_option maxHeartbeats 1000000
def pas:Nat→Nat→Int
 | 0,i=>if i=0 then 1 else 0
 | n+1,i=>pas n i+(if i=0 then 0 else pas n (i-1))
def midP (n i:Nat):Nat→Int:=fun j=>if i<j then pas n j else pas (n-1) j
theorem pas_in:∀ n,n<5→∀ i,i<5→0≤pas n i∧pas n i≤6:=by decide
theorem pas_over:∀ n,n<5→∀ i,i<5→n<i→pas n i=0:=by decide
theorem pas_first:∀ n,n<5→pas n 0=1:=by decide
theorem pas_pos:∀ n,n<5→∀ i,i≤n→1≤pas n i:=by decide
theorem midP_in {n i j:Nat} (hn:n<5) (hj:j<5):0≤midP n i j∧midP n i j≤6:=by
 unfold midP;split
 ·exact pas_in n hn j hj
 ·exact pas_in (n-1) (by omega) j hj
theorem midP_start {n:Nat} (h1:1≤n) (hn:n<5):a5 (pas (n-1))=a5 (midP n n):=a5_congr fun j hj=>by
 unfold midP;split
 ·rw [pas_over n hn j hj (by omega),pas_over (n-1) (by omega) j hj (by omega)]
 ·rfl
theorem midP_end {n:Nat} (hn:n<5):a5 (midP n 0)=a5 (pas n):=a5_congr fun j hj=>by
 unfold midP;split
 ·rfl
 ·rw [show j=0 by omega,pas_first n hn,pas_first (n-1) (by omega)]
theorem midP_step {n i:Nat} (h1:1≤n) (hi:1≤i):a5 (up (midP n i) i (midP n i i+midP n i (i-1)))=a5 (midP n (i-1)):=a5_congr fun j hj=>by
 unfold up
 by_cases e:j=i
 ·subst e
  rw [if_pos rfl]
  unfold midP
  rw [if_neg (by omega),if_neg (by omega),if_pos (by omega)]
  obtain ⟨m,rfl⟩:∃ m,n=m+1:=⟨n-1,by omega⟩
  rw [Nat.add_sub_cancel]
  show _=pas m j+(if j=0 then 0 else pas m (j-1))
  rw [if_neg (by omega)]
 ·rw [if_neg e]
  unfold midP
  by_cases h:i<j
  ·rw [if_pos h,if_pos (by omega)]
  ·rw [if_neg h,if_neg (by omega)]
theorem c_means (w:World) (p:Addr) (m:Int) (o:Value) (rest:List Value) (rs:List (Int × Int × Int)) (hP:RdC w.heap.size w p (.int .i64 m::o::rest)) (hR:RdF encR 3 w.heap.size w o rs) (hn:1≤rs.length∧rs.length≤5) :
 Ret Tryz.prog 63 [.pointer (some p)].toArray w (.agg (a5 (pas (rs.length-1))).toArray):=by
 refine Ret.of mixed tyTab Tryz.func63 rfl rfl ?_
 replace hR:RdF encR 3 (fnCx mixed tyTab Tryz.f63.ntmps w).B (fnCx mixed tyTab Tryz.f63.ntmps w).w0 o rs:=hR
 replace hP:RdC (fnCx mixed tyTab Tryz.f63.ntmps w).B (fnCx mixed tyTab Tryz.f63.ntmps w).w0 p (.int .i64 m::o::rest):=hP
 refine W.sreg (WO.alloc rfl rfl rfl (fun b1 hb1=>(WO.nil (W.sreg (WO.build rfl rfl rfl rfl rfl (WO.alloc rfl rfl rfl (fun b2 hb2=>(WO.storeA rfl rfl rfl rfl Pick.head rfl rfl (WO.nil (W.seq (W.sreg (WO.p rfl rfl (WO.nil (W.block ?_))))))))))))))
 refine W.loop (fun (n:Nat)=>1≤n∧n≤rs.length)
  (fun (n:Nat)=>[(4,.int .i64 (n:Int)),(3,.pointer (some ⟨b2,0,none⟩)),(2,.pointer (some ⟨b1,0,none⟩)),(0,.pointer (some p))])
  (fun (n:Nat)=>[pt b1 (.cells #[.int .i64 0,.int .i64 0,.int .i64 0,.int .i64 0,.int .i64 0] 110 (0,0)),pt b2 (.cells (a5 (pas (n-1))).toArray 110 (0,0))])
  (fun (n:Nat)=>rs.length-n) 1
  (by omega) ⟨rfl,rfl,rfl,rfl,trivial⟩ (by repeat (first | exact Sub.nil | refine Sub.cons (by repeat first | exact .head | apply Pick.tail) ?_)) ?_
 rintro n hn1
 refine W.seq (W.sreg (WO.p rfl rfl (WO.p rfl rfl (WO.p rfl rfl (WO.field0 rfl rfl rfl (WO.field rfl rfl rfl ?_))))))
 refine' WO.load (v:=_) rfl rfl ?hc rfl ?_
 case hc=>((refine hP.cellAt ?_;rfl))
 refine WO.len rfl rfl hR.sl rfl (WO.p rfl rfl (WO.nil ?_))
 refine W.cond_bl rfl (fun c1=>?_) (fun c1=>?_)
 ·refine W.skip (W.seq (W.block (W.sreg (WO.p rfl rfl (WO.p rfl rfl (WO.nil (W.block ?_)))))))
  rw [midP_start (n:=n) (by omega) (by omega)]
  refine W.loop2 (fun (i:Nat) (z:Int)=>i≤n∧z=(i:Int))
   (fun (i:Nat) (z:Int)=>[(5,.int .i64 z),(4,.int .i64 (n:Int)),(3,.pointer (some ⟨b2,0,none⟩)),(2,.pointer (some ⟨b1,0,none⟩)),(0,.pointer (some p))])
   (fun (i:Nat) (z:Int)=>[pt b1 (.cells #[.int .i64 0,.int .i64 0,.int .i64 0,.int .i64 0,.int .i64 0] 110 (0,0)),pt b2 (.cells (a5 (midP n i)).toArray 110 (0,0))])
   (fun (i:Nat) (z:Int)=>i) n n
   (by omega) ⟨rfl,rfl,rfl,rfl,rfl,trivial⟩ (by repeat (first | exact Sub.nil | refine Sub.cons (by repeat exact .head) ?_)) ?_
  rintro i z hi1
  refine W.seq (W.sreg (WO.p rfl rfl (WO.p rfl rfl (WO.nil ?_))))
  refine W.cond_bl rfl (fun c2=>?_) (fun c2=>?_)
  ·refine W.skip (W.seq (W.block ?_))
   have hm1:=midP_in (n:=n) (i:=i) (j:=i) (by omega) (by omega)
   have hm2:=midP_in (n:=n) (i:=i) (j:=i-1) (by omega) (by omega)
   refine W.drawD 7 [.r 0 [],.r 1 [],.b 2 [],.r 3 [],.r 4 [],.r 5 [],.b 6 []] [] (A0:=[]) (Sub.refl _) (by kernel_rfl) ?_ ?_
   ·repeat constructor
   refine DT.r rfl rfl rfl (WO.p rfl rfl (WO.nil ⟨rfl,rfl⟩)) (DT.r rfl rfl rfl (WO.indexArrE (i:=i) (o':=0+i) rfl rfl rfl (by omega) (by omega) (by omega) rfl (WO.nil ⟨rfl,rfl⟩)) ?_)
   refine' DT.b rfl rfl rfl ?hq ?_
   case hq =>
    refine' WO.load (v:=_) rfl rfl ?hc rfl ?_
    case hc=>(first | (refine a5_cellS (t:=110) (fr:=(0,0)) (f:=midP n i) (i:=i) (x:=midP n i i) ?_ ?_ rfl;(repeat (first | exact Sub.nil | refine Sub.cons (by repeat first | exact .head | apply Pick.tail) ?_));omega))
    exact WO.nil ⟨rfl,rfl⟩
   refine DT.r rfl rfl rfl (WO.p rfl rfl (WO.nil ⟨rfl,rfl⟩)) (DT.r rfl rfl rfl (WO.ar rfl rfl rfl (by unfold in64;omega) rfl (WO.nil ⟨rfl,rfl⟩)) (DT.r rfl rfl rfl (WO.indexArrE (i:=i-1) (o':=0+(i-1)) rfl rfl rfl (by omega) (by omega) (by omega) rfl (WO.nil ⟨rfl,rfl⟩)) ?_))
   refine' DT.b rfl rfl rfl ?hq ?_
   case hq =>
    refine' WO.load (v:=_) rfl rfl ?hc rfl ?_
    case hc=>(first | (refine a5_cellS (t:=110) (fr:=(0,0)) (f:=midP n i) (i:=i-1) (x:=midP n i (i-1)) ?_ ?_ rfl;(repeat (first | exact Sub.nil | refine Sub.cons (by repeat first | exact .head | apply Pick.tail) ?_));omega))
    exact WO.nil ⟨rfl,rfl⟩
   refine DT.nil [_,_] rfl (WO.ar rfl rfl rfl (by unfold in64;omega) rfl (WO.indexArrE (i:=i) (o':=0+i) rfl rfl rfl (by omega) (by omega) (by omega) rfl (WO.store1 rfl rfl rfl rfl (by repeat first | exact .head | apply Pick.tail) (a5_blt (by omega)) ?_)))
   rw [a5_set (by omega),midP_step (n:=n) (i:=i) (by omega) (by omega)]
   refine WO.nil (W.region (WO.p rfl rfl (WO.ar rfl rfl rfl (by unfold in64;omega) rfl (WO.p rfl rfl (WO.nil ?_)))))
   refine' ⟨i-1,_,?hp,?hmu,⟨rfl,rfl,rfl,rfl,rfl,trivial⟩,?hS⟩
   case hS=>repeat (first | exact Sub.nil | refine Sub.cons (by repeat first | exact .head | apply Pick.tail) ?_)
   case hp=>omega
   case hmu=>omega
  ·refine W.exit (blk_same ?_)
   obtain rfl:i=0:=by omega
   rw [midP_end (n:=n) (by omega),show pas n=pas (n+1-1) from rfl]
   refine W.region (WO.p rfl rfl (WO.ar rfl rfl rfl (by unfold in64;omega) rfl (WO.p rfl rfl (WO.nil ?_))))
   refine' ⟨n+1,?hp,?hmu,⟨rfl,rfl,rfl,rfl,trivial⟩,?hS⟩
   case hS=>repeat (first | exact Sub.nil | refine Sub.cons (by repeat exact .head) ?_)
   case hp=>omega
   case hmu=>omega
 ·refine W.exit (blk_same (W.sreg (WO.loadA rfl rfl (Cells.own (Pick.tail (Pick.head))) rfl rfl (WO.storeA rfl rfl rfl rfl Pick.head rfl rfl (WO.nil (W.ret ?_))))))
  obtain rfl:n=rs.length:=by omega
  exact fin.ret (Res.one rfl (RV.cell rfl rfl rfl (Cells.own Pick.head))) rfl
def raw (m:Int) (rs:List (Int × Int × Int)) (i:Nat):Int:=if m=1 then 1 else if m=2 then pas (rs.length-1) i else exW rs i
end Go.Proofs.YtoapkhkdnbcilaaGreat.Tr
namespace Go.Proofs.YtoapkhkdnbcilaaGreat.Tr
open Go Go.TH
attribute [local irreducible] W WO pt
set_option maxRecDepth 10000
set_option maxHeartbeats 1000000
theorem gcd2_posL {a b:Int} (ha:0<a) (hb:0≤b):0<gcd2 a b:=by
 unfold gcd2
 have:0<Nat.gcd a.toNat b.toNat:=Nat.gcd_pos_of_pos_left _ (by omega)
 omega
theorem gcdF_pos:∀ (l:List Int) (d:Int),0<d→(∀ x∈l,0≤x)→0<l.foldl gcd2 d
 | [],_,h,_=>h
 | x::l,d,h,hx=>gcdF_pos l (gcd2 d x) (gcd2_posL h (hx x (by simp))) (fun y hy=>hx y (by simp [hy]))
section
variable {m:Int} {rs:List (Int × Int × Int)}
theorem exW_all (hv:VT m rs) (i:Nat):1≤exW rs i∧exW rs i≤604661760000000000:=by
 have:=exW_B hv i (q:=(pairsTo rs.length).length) (Nat.le_refl _)
 rw [List.take_length] at this
 exact this
theorem raw_in (hv:VT m rs) {i:Nat} (hi:i<rs.length):1≤raw m rs i∧raw m rs i≤604661760000000000:=by
 have hn:=hv.n
 unfold raw
 split
 ·omega
 split
 ·have h1:=pas_pos (rs.length-1) (by omega) i (by omega)
  have h2:=pas_in (rs.length-1) (by omega) i (by omega)
  omega
 ·exact exW_all hv i
def gcdR (m:Int) (rs:List (Int × Int × Int)):Int:=gcdL ((List.range rs.length).map (raw m rs))
theorem raws_nn (hv:VT m rs):∀ x∈(List.range rs.length).map (raw m rs),0≤x:=by
 intro x hx
 obtain ⟨i,hi,rfl⟩:=List.mem_map.1 hx
 have:=raw_in hv (List.mem_range.1 hi)
 omega
theorem gcdR_pos (hv:VT m rs):0<gcdR m rs:=by
 have hn:=hv.n
 have h0:=raw_in hv (i:=0) (by omega)
 have hnn:=raws_nn hv
 unfold gcdR gcdL
 obtain ⟨k,hk⟩:∃ k,rs.length=k+1:=⟨rs.length-1,by omega⟩
 rw [hk,List.range_succ_eq_map] at hnn ⊢
 simp only [List.map_cons,List.foldl]
 refine gcdF_pos _ _ (by rw [gcd2_0 (by omega)];omega) (fun x hx=>hnn x (by simp only [List.map_cons,List.mem_cons];exact .inr hx))
def wts (m:Int) (rs:List (Int × Int × Int)) (i:Nat):Int:=(raw m rs i).tdiv (gcdR m rs)
theorem wts_in (hv:VT m rs) {i:Nat} (hi:i<rs.length):0≤wts m rs i∧wts m rs i≤604661760000000000:=by
 have h1:=raw_in hv hi
 have h2:=gcdR_pos hv
 unfold wts
 have h3:=Int.tdiv_nonneg (a:=raw m rs i) (b:=gcdR m rs) (by omega) (by omega)
 have h4:=Int.tdiv_le_self (a:=raw m rs i) (gcdR m rs) (by omega)
 omega
def wsum (m:Int) (rs:List (Int × Int × Int)):Nat→Int
 | 0=>0
 | i+1=>wsum m rs i+wts m rs i
theorem wsum_in (hv:VT m rs):∀ {i:Nat},i≤rs.length→0≤wsum m rs i∧wsum m rs i≤604661760000000000*i
 | 0,_=>by simp [wsum]
 | i+1,h=>by
  have h1:=wsum_in hv (i:=i) (by omega)
  have h2:=wts_in hv (i:=i) (by omega)
  have e:wsum m rs (i+1)=wsum m rs i+wts m rs i:=rfl
  omega
def wMid (m:Int) (rs:List (Int × Int × Int)) (i:Nat):Nat→Int:=fun j=>if j<rs.length then (if j<i then wts m rs j else raw m rs j) else 0
theorem wMid_0:a5 (wTo (raw m rs) rs.length)=a5 (wMid m rs 0):=a5_congr fun j _=>by
 unfold wTo wMid
 split
 ·rw [if_neg (by omega)]
 ·rfl
theorem wMid_n:a5 (wMid m rs rs.length)=a5 (wTo (wts m rs) rs.length):=a5_congr fun j _=>by
 unfold wTo wMid
 split
 ·rfl
 ·rfl
theorem wMid_up {i:Nat} (hi:i<rs.length):up (wMid m rs i) i (wts m rs i)=wMid m rs (i+1):=by
 funext j
 unfold up wMid
 by_cases e:j=i
 ·subst e;rw [if_pos rfl,if_pos hi,if_pos (by omega)]
 ·rw [if_neg e]
  split
  ·by_cases h:j<i
   ·rw [if_pos h,if_pos (by omega)]
   ·rw [if_neg h,if_neg (by omega)]
  ·rfl
theorem wMid_at {i:Nat} (hi:i<rs.length):wMid m rs i i=raw m rs i:=by unfold wMid;rw [if_pos hi,if_neg (by omega)]
theorem wMid_at1 {i:Nat} (hi:i<rs.length):wMid m rs (i+1) i=wts m rs i:=by unfold wMid;rw [if_pos hi,if_pos (by omega)]
end
theorem wMid_list {m:Int} {rs:List (Int × Int × Int)}:(List.range rs.length).map (wMid m rs 0)=(List.range rs.length).map (raw m rs):=by
 refine List.map_congr_left fun i hi=>?_
 have:=List.mem_range.1 hi
 unfold wMid;rw [if_pos this,if_neg (by omega)]
def sc (m:Int) (o:Value) (f:Nat→Int) (s:Int):List Value:=[.int .i64 m,o,.int .i64 (f 0),.int .i64 (f 1),.int .i64 (f 2),.int .i64 (f 3),.int .i64 (f 4),.int .i64 s]
theorem sc_set {m:Int} {o:Value} {f:Nat→Int} {s:Int} {i:Nat} {x:Int} (h:i<5):(sc m o f s).set (2+i) (.int .i64 x)=sc m o (up f i x) s:=by
 match i,h with
 | 0,_=>rfl
 | 1,_=>rfl
 | 2,_=>rfl
 | 3,_=>rfl
 | 4,_=>rfl
theorem sc_a5 {m:Int} {o:Value} {f g:Nat→Int} {s:Int} (h:a5 f=a5 g):sc m o f s=sc m o g s:=by
 unfold a5 at h
 simp only [List.cons.injEq,Value.int.injEq,true_and,and_true] at h
 unfold sc
 rw [h.1,h.2.1,h.2.2.1,h.2.2.2.1,h.2.2.2.2]
theorem sc_get {m:Int} {o:Value} {f:Nat→Int} {s:Int} {i:Nat} (h:i<5):lget (sc m o f s) (2+i)=some (.int .i64 (f i)):=by
 match i,h with
 | 0,_=>rfl
 | 1,_=>rfl
 | 2,_=>rfl
 | 3,_=>rfl
 | 4,_=>rfl
theorem sc_blt {m:Int} {o:Value} {f:Nat→Int} {s:Int} {i:Nat} (h:i<5):Nat.blt (2+i) (sc m o f s).length=true:=by rw [Nat.blt_eq];show 2+i<8;omega
theorem sc_cellS {P:Program} {C:Cx P} {H:List HP} {b i:Nat} {t:TypeId} {fr:Nat × Nat} {m:Int} {o:Value} {f:Nat→Int} {s x:Int} (h1:Sub H [pt b (.cells (sc m o f s).toArray t fr)]) (h:i<5) (e:f i=x):Cell C H ⟨b,2+i,none⟩ (.int .i64 x):=by
 subst e
 cases h1 with
 | cons p _=>exact Cell.own p (sc_get h)
theorem sc_rd {P:Program} {C:Cx P} {H H' L:List HP} {b n:Nat} {t:TypeId} {fr:Nat × Nat} {m:Int} {o:Value} {f:Nat→Int} {s:Int} {w:World} (p:Pick (pt b (.cells (sc m o f s).toArray t fr)) H H') (hi:Inv C.w0 C.M (L++H) w) (hn:n≤5):RdF encI 1 w.heap.size w (.slice (some ⟨b,2,none⟩) n 5) ((List.range n).map f):=by
 refine RdF.of_pt (fun a=>⟨_,rfl⟩) p hi (by simp) (by omega) fun i x hx=>⟨_,rfl,?_⟩
 rw [List.getElem?_map] at hx
 cases h:(List.range n)[i]? with
 | none=>rw [h] at hx;cases hx
 | some j =>
  rw [h] at hx
  obtain ⟨hlt,hj⟩:=List.getElem?_eq_some_iff.1 h
  rw [List.getElem_range] at hj
  rw [List.length_range] at hlt
  subst hj
  simp at hx
  subst hx
  exact sc_get (by omega)
def manF (m:Int):Nat:=if m=0 then 61 else if m=1 then 62 else 63
theorem manF_call {m:Int}:∀ (args:Array Value) (w:World),(callFunc (manF m) args).run Tryz.prog w=.ok (.enter (manF m) args) w:=by
 unfold manF
 split
 ·exact Tryz.call61
 split
 ·exact Tryz.call62
 ·exact Tryz.call63
theorem c_man (w:World) (p:Addr) (m:Int) (o:Value) (rest:List Value) (rs:List (Int × Int × Int)) (hP:RdC w.heap.size w p (.int .i64 m::o::rest)) (hR:RdF encR 3 w.heap.size w o rs) (hv:VT m rs) :
 Ret Tryz.prog (manF m) [.pointer (some p)].toArray w (.agg (a5 (wMid m rs 0)).toArray):=by
 have hn:=hv.n
 have hm:=hv.m
 rw [← wMid_0]
 unfold manF
 split
 ·rename_i h0
  have:=c_exact w p m o rest rs hP hR hv
  rw [show a5 (wTo (exW rs) rs.length)=a5 (wTo (raw m rs) rs.length) from a5_congr fun j _=>by
   have e:raw m rs j=exW rs j:=by unfold raw;rw [if_neg (by omega),if_neg (by omega)]
   unfold wTo;rw [e]] at this
  exact this
 split
 ·rename_i h0 h1
  have:=c_plain w p m o rest rs hP hR hn.2
  rw [show a5 (wTo (fun _=>1) rs.length)=a5 (wTo (raw m rs) rs.length) from a5_congr fun j _=>by
   have e:raw m rs j=1:=by unfold raw;rw [if_pos h1]
   unfold wTo;rw [e]] at this
  exact this
 ·rename_i h0 h1
  have:=c_means w p m o rest rs hP hR ⟨by omega,hn.2⟩
  rw [show a5 (pas (rs.length-1))=a5 (wTo (raw m rs) rs.length) from a5_congr fun j hj=>by
   have e:raw m rs j=pas (rs.length-1) j:=by unfold raw;rw [if_neg h1,if_pos (by omega)]
   unfold wTo;rw [e]
   split
   ·rfl
   ·exact pas_over (rs.length-1) (by omega) j hj (by omega)] at this
  exact this
theorem man_find {m:Int} (hm:0≤m∧m≤2) {es:Array MapEntry} (h:es.toList=[⟨.int .i64 0,.func (.func 61) #[] #[],0⟩,⟨.int .i64 1,.func (.func 62) #[] #[],1⟩,⟨.int .i64 2,.func (.func 63) #[] #[],2⟩]) :
 Instr.findNow (.int .i64) (.int .i64 m) es.toList 0=some (some (m.toNat,.func (.func (manF m)) (([]:List Value).toArray) (([]:List Value).toArray))):=by
 rw [h]
 obtain rfl | rfl | rfl:m=0∨m=1∨m=2:=by omega
 ·rfl
 ·rfl
 ·rfl
theorem c_newScales (w:World) (m:Int) (o:Value) (rs:List (Int × Int × Int)) (hR:RdF encR 3 w.heap.size w o rs) :
 Ct Tryz.prog 20 [.agg #[.int .i64 m,o]].toArray w fun v w'=>∃ Hq,(∃ pv,v=.tuple #[pv,.int .i64 (chkT m rs)]∧Hq=[PtrP pv (chkT m rs) (sc m o (wTo (wts m rs) rs.length) (wsum m rs rs.length)) 112])∧Inv w [] Hq w':=by
 refine Ct.ofI mixed tyTab Tryz.func20 rfl rfl ?_
 replace hR:RdF encR 3 (fnCx mixed tyTab Tryz.f20.ntmps w).B (fnCx mixed tyTab Tryz.f20.ntmps w).w0 o rs:=hR
 have ho:=hR.sl.oc
 obtain ⟨_,oa,oc,hoe,_⟩:=hR.sl
 subst hoe
 refine W.sreg (WO.boxA rfl rfl (fun b1 hb1=>(WO.p rfl rfl (WO.p rfl rfl (WO.nil (W.seq (W.sreg (WO.loadA rfl rfl (Cells.own Pick.head) rfl rfl (WO.callR (r:=.int .i64 (chkT m rs)) rfl Tryz.call60 (fun L w hi=>c_CheckTest w m _ rs (hR.later hi)) rfl (WO.p rfl rfl (WO.nil (W.sreg (WO.p rfl rfl (WO.p rfl rfl (WO.nil ?_)))))))))))))))
 refine W.cond_bl rfl (fun c1=>?_) (fun c1=>?_)
 ·refine W.sreg (WO.p rfl rfl (WO.p rfl rfl (WO.p rfl rfl (WO.nil (W.ret (fin.ret (Res.two rfl (RV.tmp rfl) (RV.tmp rfl)) ?_))))))
  exact ⟨_,rfl,fun h hs=>Sub.sat (.cons .head .nil) (PtrP.no (by assumption) h hs)⟩
 ·refine W.skip ?_
  have hv:VT m rs:=VT.of (by omega)
  have hn:=hv.n
  have hm:=hv.m
  have hgp:=gcdR_pos hv
  refine W.sreg (WO.loadA rfl rfl (Cells.own Pick.head) rfl rfl (WO.build rfl rfl rfl rfl rfl (WO.boxA rfl rfl (fun b2 hb2=>(WO.p rfl rfl (WO.nil (W.sreg (WO.makeMap rfl (fun b3=>(WO.insertI Tryz.underlying115 Tryz.underlying3 rfl rfl rfl (by repeat exact .head) rfl (WO.insertI Tryz.underlying115 Tryz.underlying3 rfl rfl rfl (by repeat exact .head) rfl (WO.insertI Tryz.underlying115 Tryz.underlying3 rfl rfl rfl (by repeat exact .head) rfl (WO.p rfl rfl (WO.p rfl rfl (WO.nil (W.sreg ?_))))))))))))))))
  refine WO.p rfl rfl (WO.p rfl rfl (WO.field0 rfl rfl rfl (WO.load rfl rfl (Cell.own (Pick.tail (Pick.tail (Pick.head))) rfl) rfl (WO.lookupI Tryz.underlying115 Tryz.underlying3 rfl rfl (by repeat exact .head) (man_find hm rfl) rfl (WO.p rfl rfl (WO.callCR (first:=[]) (captured:=[]) rfl rfl manF_call (fun L w hi=>c_man w ⟨b2,0,none⟩ m _ _ rs (RdC.own (b:=b2) (by repeat first | exact .head | apply Pick.tail) hi) (hR.later hi) hv) rfl (WO.p rfl rfl (WO.fieldL rfl rfl rfl (WO.storeP rfl rfl rfl rfl (Pick.tail (Pick.head)) (Nat.le_of_ble_eq_true rfl) rfl (WO.nil (W.seq ?_)))))))))))
  refine W.drawD 6 [.r 0 [],.r 1 [],.r 2 [],.r 3 [],.b 4 [],.r 5 []] [] (A0:=[]) (Sub.refl _) (by kernel_rfl) ?_ ?_
  ·repeat constructor
  refine DT.r rfl rfl rfl (WO.p rfl rfl (WO.nil ⟨rfl,rfl⟩)) (DT.r rfl rfl rfl (WO.p rfl rfl (WO.nil ⟨rfl,rfl⟩)) (DT.r rfl rfl rfl (WO.fieldL rfl rfl rfl (WO.nil ⟨rfl,rfl⟩)) (DT.r rfl rfl rfl (WO.fieldL rfl rfl rfl (WO.nil ⟨rfl,rfl⟩)) (DT.b rfl rfl rfl (WO.load rfl rfl (Cell.own (Pick.tail (Pick.tail (Pick.head))) rfl) rfl (WO.nil ⟨rfl,rfl⟩)) (DT.r rfl rfl rfl (WO.len rfl rfl hR.sl rfl (WO.nil ⟨rfl,rfl⟩)) (DT.nil [_,_,_] rfl (WO.sliceArrH rfl rfl rfl (by omega) rfl ?_)))))))
  refine WO.callR (r:=.int .i64 (gcdR m rs)) rfl Tryz.call64 (fun L w hi=>by have h:=c_divisor w _ ((List.range rs.length).map (wMid m rs 0)) (sc_rd (b:=b2) (t:=112) (fr:=(0,0)) (m:=m) (o:=.slice oa rs.length oc) (f:=wMid m rs 0) (s:=0) (by repeat exact .head) hi hn.2) (by rw [wMid_list];exact raws_nn hv);rw [wMid_list] at h;exact h) rfl (WO.p rfl rfl (WO.nil (W.seq (W.sreg (WO.fieldL rfl rfl rfl (WO.load rfl rfl (Cell.own (Pick.tail (Pick.tail (Pick.head))) rfl) rfl (WO.len rfl rfl hR.sl rfl (WO.p rfl rfl (WO.nil (W.block ?_))))))))))
  refine W.loop (fun (i:Nat)=>i≤rs.length)
   (fun (i:Nat)=>[(39,.int .i64 (i:Int)),(38,.int .i64 (rs.length:Int)),(7,.int .i64 (gcdR m rs)),(5,.pointer (some ⟨b2,0,none⟩))])
   (fun (i:Nat)=>[pt b2 (.cells (sc m (.slice oa rs.length oc) (wMid m rs i) (wsum m rs i)).toArray 112 (0,0))])
   (fun (i:Nat)=>rs.length-i) 0
   (by omega) ⟨rfl,rfl,rfl,rfl,trivial⟩ (by repeat (first | exact Sub.nil | refine Sub.cons (by repeat exact .head) ?_)) ?_
  rintro i hi
  refine W.sreg (WO.p rfl rfl (WO.nil (W.seq ?_)))
  refine W.cond_bl rfl (fun c2=>?_) (fun c2=>?_)
  ·refine W.skip (W.seq (W.block (W.sreg (WO.p rfl rfl (WO.p rfl rfl (WO.nil (W.seq ?_)))))))
   have hwi:=wts_in hv (i:=i) (by omega)
   have hsi:=wsum_in hv (i:=i) (by omega)
   refine W.drawD 10 [.r 0 [],.r 1 [],.r 2 [],.r 3 [],.r 4 [],.b 5 [],.r 6 [],.r 7 [],.r 8 [],.r 9 []] [] (A0:=[]) (Sub.refl _) (by kernel_rfl) ?_ ?_
   ·repeat constructor
   refine DT.r rfl rfl rfl (WO.p rfl rfl (WO.nil ⟨rfl,rfl⟩)) (DT.r rfl rfl rfl (WO.p rfl rfl (WO.nil ⟨rfl,rfl⟩)) (DT.r rfl rfl rfl (WO.p rfl rfl (WO.nil ⟨rfl,rfl⟩)) (DT.r rfl rfl rfl (WO.fieldL rfl rfl rfl (WO.nil ⟨rfl,rfl⟩)) (DT.r rfl rfl rfl (WO.indexArrL (i:=i) (o':=2+i) rfl rfl rfl (by omega) (by omega) rfl (WO.nil ⟨rfl,rfl⟩)) ?_))))
   refine' DT.b rfl rfl rfl ?hq ?_
   case hq =>
    refine' WO.load (v:=_) rfl rfl ?hc rfl ?_
    case hc=>(first | (refine sc_cellS (t:=112) (fr:=(0,0)) (m:=m) (o:=.slice oa rs.length oc) (f:=wMid m rs i) (s:=wsum m rs i) ?_ ?_ (wMid_at (by omega));(repeat (first | exact Sub.nil | refine Sub.cons (by repeat first | exact .head | apply Pick.tail) ?_));omega))
    exact WO.nil ⟨rfl,rfl⟩
   refine DT.r rfl rfl rfl (WO.p rfl rfl (WO.nil ⟨rfl,rfl⟩)) (DT.r rfl rfl rfl (WO.quo rfl rfl (by omega) (by (first | (unfold wts at hwi;unfold in64;omega))) rfl (WO.nil ⟨rfl,rfl⟩)) (DT.r rfl rfl rfl (WO.p rfl rfl (WO.nil ⟨rfl,rfl⟩)) (DT.r rfl rfl rfl (WO.fieldL rfl rfl rfl (WO.nil ⟨rfl,rfl⟩)) (DT.nil [_] rfl (WO.indexArrL (i:=i) (o':=2+i) rfl rfl rfl (by omega) (by omega) rfl (WO.store1 rfl rfl rfl rfl (by repeat exact .head) (sc_blt (by omega)) ?_))))))
   rw [sc_set (by omega),show (raw m rs i).tdiv (gcdR m rs)=wts m rs i from rfl,wMid_up (by omega)]
   refine WO.nil ?_
   refine W.drawD 10 [.r 0 [],.r 1 [],.r 2 [],.b 3 [],.r 4 [],.r 5 [],.r 6 [],.r 7 [],.r 8 [],.b 9 []] [] (A0:=[]) (Sub.refl _) (by kernel_rfl) ?_ ?_
   ·repeat constructor
   refine DT.r rfl rfl rfl (WO.p rfl rfl (WO.nil ⟨rfl,rfl⟩)) (DT.r rfl rfl rfl (WO.p rfl rfl (WO.nil ⟨rfl,rfl⟩)) (DT.r rfl rfl rfl (WO.fieldL rfl rfl rfl (WO.nil ⟨rfl,rfl⟩)) (DT.b rfl rfl rfl (WO.load rfl rfl (Cell.own Pick.head rfl) rfl (WO.nil ⟨rfl,rfl⟩)) (DT.r rfl rfl rfl (WO.p rfl rfl (WO.nil ⟨rfl,rfl⟩)) (DT.r rfl rfl rfl (WO.p rfl rfl (WO.nil ⟨rfl,rfl⟩)) (DT.r rfl rfl rfl (WO.p rfl rfl (WO.nil ⟨rfl,rfl⟩)) (DT.r rfl rfl rfl (WO.fieldL rfl rfl rfl (WO.nil ⟨rfl,rfl⟩)) (DT.r rfl rfl rfl (WO.indexArrL (i:=i) (o':=2+i) rfl rfl rfl (by omega) (by omega) rfl (WO.nil ⟨rfl,rfl⟩)) ?_))))))))
   refine' DT.b rfl rfl rfl ?hq ?_
   case hq =>
    refine' WO.load (v:=_) rfl rfl ?hc rfl ?_
    case hc=>(first | (refine sc_cellS (t:=112) (fr:=(0,0)) (m:=m) (o:=.slice oa rs.length oc) (f:=wMid m rs (i+1)) (s:=wsum m rs i) ?_ ?_ (wMid_at1 (by omega));(repeat (first | exact Sub.nil | refine Sub.cons (by repeat first | exact .head | apply Pick.tail) ?_));omega))
    exact WO.nil ⟨rfl,rfl⟩
   refine DT.nil [_] rfl (WO.ar rfl rfl rfl (by unfold in64;omega) rfl (WO.p rfl rfl (WO.fieldL rfl rfl rfl (WO.store1 rfl rfl rfl (by rfl) Pick.head rfl (WO.nil (W.region (WO.ar rfl rfl rfl (by unfold in64;omega) rfl (WO.p rfl rfl (WO.nil ?_)))))))))
   refine' ⟨i+1,?hp,?hmu,⟨rfl,rfl,rfl,rfl,trivial⟩,?hS⟩
   case hS=>repeat (first | exact Sub.nil | refine Sub.cons (by repeat exact .head) ?_)
   case hp=>omega
   case hmu=>omega
  ·refine W.exit (blk_same ?_)
   obtain rfl:i=rs.length:=by omega
   rw [sc_a5 wMid_n]
   refine W.sreg (WO.p rfl rfl (WO.p rfl rfl (WO.p rfl rfl (WO.nil (W.ret (fin.ret (Res.two rfl (RV.tmp rfl) (RV.tmp rfl)) ?_))))))
   exact ⟨_,by rw [hv.to],fun h hs=>Sub.sat (.cons .head .nil) (PtrP.yes .head h hs)⟩
end Go.Proofs.YtoapkhkdnbcilaaGreat.Tr
namespace Go.Proofs.YtoapkhkdnbcilaaGreat.Tr
open Go Go.TH
set_option maxRecDepth 10000
theorem sq (x z:Int):4*(x*z)≤(x+z)*(x+z):=by
 have:0≤(x-z)*(x-z):=by
  rcases Int.le_total 0 (x-z) with h | h
  ·exact Int.mul_nonneg h h
  ·have:=Int.mul_nonneg (a := -(x-z)) (b := -(x-z)) (by omega) (by omega)
   rwa [Int.neg_mul_neg] at this
 grind
theorem xyz {x y z:Int} (hx:1≤x) (hy:1≤y) (hz:1≤z) (h:x+y+z≤60):y*(x*z)≤8000:=by
 have h1:=sq x z
 have h2:(x+z)*(x+z)≤(60-y)*(60-y):=Int.mul_le_mul (by omega) (by omega) (by omega) (by omega)
 have h3:y*(4*(x*z))≤y*((60-y)*(60-y)):=Int.mul_le_mul_of_nonneg_left (by omega) (by omega)
 have h4:∀ n:Nat,n<60→((n:Int)*((60-(n:Int))*(60-(n:Int))))≤32000:=by decide
 have h5:=h4 y.toNat (by omega)
 rw [show (y.toNat:Int)=y by omega] at h5
 have h6:y*(4*(x*z))=4*(y*(x*z)):=by rw [Int.mul_left_comm]
 omega
theorem V4 {a b c d:Int} (h1:1≤b-a) (h2:1≤c-b) (h3:1≤d-c) (h:d-a≤60):1*(b-a)*(c-a)*(c-b)*(d-a)*(d-b)*(d-c)≤1670880000:=by
 obtain ⟨x,hx⟩:∃ x,x=b-a:=⟨_,rfl⟩
 obtain ⟨y,hy⟩:∃ x,x=c-b:=⟨_,rfl⟩
 obtain ⟨z,hz⟩:∃ x,x=d-c:=⟨_,rfl⟩
 have e:1*(b-a)*(c-a)*(c-b)*(d-a)*(d-b)*(d-c)=(y*(x*z))*(((x+y)*(y+z))*(x+y+z)):=by
  subst hx hy hz;grind
 rw [e]
 have k1:=xyz (x:=x) (y:=y) (z:=z) (by omega) (by omega) (by omega) (by omega)
 have k2:=sq (x+y) (y+z)
 have k3:(x+y+(y+z))*(x+y+(y+z))≤118*118:=Int.mul_le_mul (by omega) (by omega) (by omega) (by omega)
 have k4:(x+y)*(y+z)≤3481:=by omega
 have n0:0≤(x+y)*(y+z):=Int.mul_nonneg (by omega) (by omega)
 have k5:((x+y)*(y+z))*(x+y+z)≤3481*60:=Int.mul_le_mul k4 (by omega) (by omega) (by omega)
 have n1:0≤((x+y)*(y+z))*(x+y+z):=Int.mul_nonneg n0 (by omega)
 exact Int.mul_le_mul k1 k5 n1 (by omega)
theorem V3 {a b c:Int} (h1:1≤b-a) (h2:1≤c-b) (h:c-a≤60):1*(b-a)*(c-a)*(c-b)≤1670880000:=by
 have k1:(b-a)*(c-a)≤60*60:=Int.mul_le_mul (by omega) (by omega) (by omega) (by omega)
 have k0:0≤(b-a)*(c-a):=Int.mul_nonneg (by omega) (by omega)
 have k2:(b-a)*(c-a)*(c-b)≤3600*60:=Int.mul_le_mul k1 (by omega) (by omega) (by omega)
 rw [Int.one_mul]
 omega
section
variable {m:Int} {rs:List (Int × Int × Int)}
theorem ex20 (h:rs.length=2):exW rs 0=1:=by unfold exW;rw [h];rfl
theorem ex21 (h:rs.length=2):exW rs 1=1:=by unfold exW;rw [h];rfl
theorem ex30 (h:rs.length=3):exW rs 0=1*(tm rs 2-tm rs 1):=by unfold exW;rw [h];rfl
theorem ex31 (h:rs.length=3):exW rs 1=1*(tm rs 2-tm rs 0):=by unfold exW;rw [h];rfl
theorem ex32 (h:rs.length=3):exW rs 2=1*(tm rs 1-tm rs 0):=by unfold exW;rw [h];rfl
theorem ex40 (h:rs.length=4):exW rs 0=1*(tm rs 2-tm rs 1)*(tm rs 3-tm rs 1)*(tm rs 3-tm rs 2):=by unfold exW;rw [h];rfl
theorem ex41 (h:rs.length=4):exW rs 1=1*(tm rs 2-tm rs 0)*(tm rs 3-tm rs 0)*(tm rs 3-tm rs 2):=by unfold exW;rw [h];rfl
theorem ex42 (h:rs.length=4):exW rs 2=1*(tm rs 1-tm rs 0)*(tm rs 3-tm rs 0)*(tm rs 3-tm rs 1):=by unfold exW;rw [h];rfl
theorem ex43 (h:rs.length=4):exW rs 3=1*(tm rs 1-tm rs 0)*(tm rs 2-tm rs 0)*(tm rs 2-tm rs 1):=by unfold exW;rw [h];rfl
theorem ex50 (h:rs.length=5):exW rs 0=1*(tm rs 2-tm rs 1)*(tm rs 3-tm rs 1)*(tm rs 3-tm rs 2)*(tm rs 4-tm rs 1)*(tm rs 4-tm rs 2)*(tm rs 4-tm rs 3):=by unfold exW;rw [h];rfl
theorem ex51 (h:rs.length=5):exW rs 1=1*(tm rs 2-tm rs 0)*(tm rs 3-tm rs 0)*(tm rs 3-tm rs 2)*(tm rs 4-tm rs 0)*(tm rs 4-tm rs 2)*(tm rs 4-tm rs 3):=by unfold exW;rw [h];rfl
theorem ex52 (h:rs.length=5):exW rs 2=1*(tm rs 1-tm rs 0)*(tm rs 3-tm rs 0)*(tm rs 3-tm rs 1)*(tm rs 4-tm rs 0)*(tm rs 4-tm rs 1)*(tm rs 4-tm rs 3):=by unfold exW;rw [h];rfl
theorem ex53 (h:rs.length=5):exW rs 3=1*(tm rs 1-tm rs 0)*(tm rs 2-tm rs 0)*(tm rs 2-tm rs 1)*(tm rs 4-tm rs 0)*(tm rs 4-tm rs 1)*(tm rs 4-tm rs 2):=by unfold exW;rw [h];rfl
theorem ex54 (h:rs.length=5):exW rs 4=1*(tm rs 1-tm rs 0)*(tm rs 2-tm rs 0)*(tm rs 2-tm rs 1)*(tm rs 3-tm rs 0)*(tm rs 3-tm rs 1)*(tm rs 3-tm rs 2):=by unfold exW;rw [h];rfl
theorem exW_lt (hv:VT m rs) {i:Nat} (hi:i<rs.length):exW rs i≤1670880000:=by
 have hn:=hv.n
 have hl:=fun j k (hjk:j<k) (hk:k<rs.length)=>hv.lt hjk hk
 obtain h | h | h | h:rs.length=2∨rs.length=3∨rs.length=4∨rs.length=5:=by omega
 ·obtain rfl | rfl:i=0∨i=1:=by omega
  ·rw [ex20 h];omega
  ·rw [ex21 h];omega
 ·obtain rfl | rfl | rfl:i=0∨i=1∨i=2:=by omega
  ·rw [ex30 h];have:=hl 1 2 (by omega) (by omega);omega
  ·rw [ex31 h];have:=hl 0 2 (by omega) (by omega);omega
  ·rw [ex32 h];have:=hl 0 1 (by omega) (by omega);omega
 ·obtain rfl | rfl | rfl | rfl:i=0∨i=1∨i=2∨i=3:=by omega
  ·rw [ex40 h];exact V3 (hl 1 2 (by omega) (by omega)).1 (hl 2 3 (by omega) (by omega)).1 (hl 1 3 (by omega) (by omega)).2
  ·rw [ex41 h];exact V3 (hl 0 2 (by omega) (by omega)).1 (hl 2 3 (by omega) (by omega)).1 (hl 0 3 (by omega) (by omega)).2
  ·rw [ex42 h];exact V3 (hl 0 1 (by omega) (by omega)).1 (hl 1 3 (by omega) (by omega)).1 (hl 0 3 (by omega) (by omega)).2
  ·rw [ex43 h];exact V3 (hl 0 1 (by omega) (by omega)).1 (hl 1 2 (by omega) (by omega)).1 (hl 0 2 (by omega) (by omega)).2
 ·obtain rfl | rfl | rfl | rfl | rfl:i=0∨i=1∨i=2∨i=3∨i=4:=by omega
  ·rw [ex50 h];exact V4 (hl 1 2 (by omega) (by omega)).1 (hl 2 3 (by omega) (by omega)).1 (hl 3 4 (by omega) (by omega)).1 (hl 1 4 (by omega) (by omega)).2
  ·rw [ex51 h];exact V4 (hl 0 2 (by omega) (by omega)).1 (hl 2 3 (by omega) (by omega)).1 (hl 3 4 (by omega) (by omega)).1 (hl 0 4 (by omega) (by omega)).2
  ·rw [ex52 h];exact V4 (hl 0 1 (by omega) (by omega)).1 (hl 1 3 (by omega) (by omega)).1 (hl 3 4 (by omega) (by omega)).1 (hl 0 4 (by omega) (by omega)).2
  ·rw [ex53 h];exact V4 (hl 0 1 (by omega) (by omega)).1 (hl 1 2 (by omega) (by omega)).1 (hl 2 4 (by omega) (by omega)).1 (hl 0 4 (by omega) (by omega)).2
  ·rw [ex54 h];exact V4 (hl 0 1 (by omega) (by omega)).1 (hl 1 2 (by omega) (by omega)).1 (hl 2 3 (by omega) (by omega)).1 (hl 0 3 (by omega) (by omega)).2
theorem raw_lt (hv:VT m rs) {i:Nat} (hi:i<rs.length):1≤raw m rs i∧raw m rs i≤1670880000:=by
 have hn:=hv.n
 refine ⟨(raw_in hv hi).1,?_⟩
 unfold raw
 split
 ·omega
 split
 ·have h2:=pas_in (rs.length-1) (by omega) i (by omega)
  omega
 ·exact exW_lt hv hi
theorem gcd2_dvdL (a b:Int) (ha:0≤a):gcd2 a b∣a:=by
 obtain ⟨n,rfl⟩:=Int.eq_ofNat_of_zero_le ha
 exact Int.natCast_dvd_natCast.2 (Nat.gcd_dvd_left n b.toNat)
theorem gcd2_dvdR (a b:Int) (hb:0≤b):gcd2 a b∣b:=by
 obtain ⟨n,rfl⟩:=Int.eq_ofNat_of_zero_le hb
 exact Int.natCast_dvd_natCast.2 (Nat.gcd_dvd_right a.toNat n)
theorem gcdF_dvd:∀ (l:List Int) (d:Int),0≤d→(∀ x∈l,0≤x)→l.foldl gcd2 d∣d∧∀ x∈l,l.foldl gcd2 d∣x
 | [],d,_,_=>⟨Int.dvd_refl d,fun x hx=>by simp at hx⟩
 | y::l,d,hd,h=>by
  have ih:=gcdF_dvd l (gcd2 d y) (gcd2_nn d y) (fun x hx=>h x (by simp [hx]))
  have h1:=gcd2_dvdL d y hd
  have h2:=gcd2_dvdR d y (h y (by simp))
  refine ⟨Int.dvd_trans ih.1 h1,fun x hx=>?_⟩
  rcases List.mem_cons.1 hx with rfl | hx
  ·exact Int.dvd_trans ih.1 h2
  ·exact ih.2 x hx
theorem gcdR_dvd (hv:VT m rs) {i:Nat} (hi:i<rs.length):gcdR m rs∣raw m rs i :=
 (gcdF_dvd _ 0 (by omega) (raws_nn hv)).2 _ (List.mem_map.2 ⟨i,List.mem_range.2 hi,rfl⟩)
theorem wts_mul (hv:VT m rs) {i:Nat} (hi:i<rs.length):wts m rs i*gcdR m rs=raw m rs i:=by
 unfold wts
 exact Int.tdiv_mul_cancel (gcdR_dvd hv hi)
theorem wts_lt (hv:VT m rs) {i:Nat} (hi:i<rs.length):1≤wts m rs i∧wts m rs i≤1670880000:=by
 have h1:=raw_lt hv hi
 have h2:=gcdR_pos hv
 have h3:=wts_mul hv hi
 have h4:=(wts_in hv hi).1
 have h5:=Int.tdiv_le_self (a:=raw m rs i) (gcdR m rs) (by omega)
 have h6:wts m rs i≤raw m rs i:=h5
 refine ⟨?_,by omega⟩
 rcases Int.lt_or_le 0 (wts m rs i) with h | h
 ·omega
 ·have e:wts m rs i=0:=by omega
  rw [e,Int.zero_mul] at h3
  omega
theorem wsum_lt (hv:VT m rs):∀ {i:Nat},i≤rs.length→(i:Int)≤wsum m rs i∧wsum m rs i≤1670880000*i
 | 0,_=>by simp [wsum]
 | i+1,h=>by
  have h1:=wsum_lt hv (i:=i) (by omega)
  have h2:=wts_lt hv (i:=i) (by omega)
  have e:wsum m rs (i+1)=wsum m rs i+wts m rs i:=rfl
  omega
end
end Go.Proofs.YtoapkhkdnbcilaaGreat.Tr
namespace Go.Proofs.YtoapkhkdnbcilaaGreat.Tr
open Go Go.TH
attribute [local irreducible] W WO pt
set_option maxRecDepth 10000
set_option maxHeartbeats 1000000
theorem range_getD {f:Nat→Int} {n i:Nat} (h:i<n):((List.range n).map f).getD i 0=f i:=by
 rw [List.getD_eq_getElem?_getD,List.getElem?_map,List.getElem?_range h];rfl
theorem range_take {f:Nat→Int} {n i:Nat} (h:i<n):((List.range n).map f).take i++[f i]=((List.range n).map f).take (i+1):=by
 rw [take_succ_getD (by simpa using h) 0,range_getD h]
theorem isSl_lit {a0:Option Addr} {n c:Nat} (h:n≤9223372036854775807) (h2:0<n→∃ b o,a0=some ⟨b,o,none⟩):IsSl (.slice a0 n c) n:=⟨h,a0,c,rfl,h2⟩
theorem ext_getD {α:Type} {l r:List α} (z:α) (hl:l.length=r.length) (h:∀ i,i<l.length→l.getD i z=r.getD i z):l=r:=by
 refine List.ext_getElem hl fun i h1 h2=>?_
 have:=h i h1
 rwa [List.getD_eq_getElem?_getD,List.getD_eq_getElem?_getD,List.getElem?_eq_getElem h1,List.getElem?_eq_getElem h2] at this
end Go.Proofs.YtoapkhkdnbcilaaGreat.Tr
namespace Go.Proofs.YtoapkhkdnbcilaaGreat.Tr
open Go Go.TH
attribute [local irreducible] W WO pt
set_option maxRecDepth 10000
set_option maxHeartbeats 1000000
def FnV (B:Nat) (wr:World) (f:Nat) (cap:List Value) (S:Int→Prop) (T:Int→Int):Prop :=
 ∀ w:World,B≤w.heap.size→(∀ k,k<B→w.heap[k]?=wr.heap[k]?)→∀ x,S x→Ret Tryz.prog f (([.int .i64 x]:List Value)++cap).toArray w (.int .i64 (T x))
theorem FnV.at_ {C:Cx Tryz.prog} {H:List HP} {L:List HP} {w:World} {f:Nat} {cap:List Value} {S:Int→Prop} {T:Int→Int} (hB:C.B=C.w0.heap.size) (h:FnV C.w0.heap.size C.w0 f cap S T) (hi:Inv C.w0 C.M (L++H) w) {x:Int} (hx:S x):Ret Tryz.prog f (([]:List Value)++[Value.int .i64 x]++cap).toArray w (.int .i64 (T x)):=by
 rw [List.nil_append]
 exact h w hi.size (by rw [← hB];exact hi.keepB) x hx
def msum (m:Int) (rs:List (Int × Int × Int)) (g:Int→Int):Nat→Int
 | 0=>0
 | i+1=>msum m rs g i+wts m rs i*g (i:Int)
theorem abs_mul {w g W G:Int} (hw:0≤w∧w≤W) (hg:ab g≤G) : -(W*G)≤w*g∧w*g≤W*G:=by
 have h0:0≤ab g:=ab_nn g
 have h1:w*ab g≤W*G:=Int.mul_le_mul hw.2 hg h0 (by omega)
 have h2:w*g≤w*ab g:=Int.mul_le_mul_of_nonneg_left (by unfold ab;omega) hw.1
 have h3:w*(-g)≤w*ab g:=Int.mul_le_mul_of_nonneg_left (by unfold ab;omega) hw.1
 rw [Int.mul_neg] at h3
 omega
section
variable {m:Int} {rs:List (Int × Int × Int)} {g:Int→Int}
theorem msum_in (hv:VT m rs) (hg:∀ i:Nat,i<rs.length→ab (g i)≤1000000000):∀ {i:Nat},i≤rs.length→ab (msum m rs g i)≤1670880000000000000*i
 | 0,_=>by simp [msum,ab]
 | i+1,h=>by
  have h1:=msum_in hv hg (i:=i) (by omega)
  have h2:=wts_lt hv (i:=i) (by omega)
  have h3:=abs_mul (W:=1670880000) ⟨by omega,h2.2⟩ (hg i (by omega))
  have e:msum m rs g (i+1)=msum m rs g i+wts m rs i*g (i:Int):=rfl
  unfold ab at *
  omega
end
theorem wTo_at {g:Nat→Int} {n i:Nat} (h:i<n):wTo g n i=g i:=by unfold wTo;rw [if_pos h]
theorem sc_cellP {C:Cx Tryz.prog} {H:List HP} {p:Addr} {i:Nat} {m:Int} {o:Value} {f:Nat→Int} {s x:Int} (hP:RdC C.B C.w0 p (sc m o f s)) (h:i<5) (e:f i=x):Cell C H ((prt p 2).add ((i:Int).toNat*1)) (.int .i64 x):=by
 subst e
 have:=hP.cellAt (H:=H) (sc_get (m:=m) (o:=o) (f:=f) (s:=s) h)
 rw [prt_eq] at this ⊢
 rwa [Int.toNat_natCast,Nat.mul_one,Addr.add_add]
theorem c_mean (w:World) (p:Addr) (m:Int) (o:Value) (rs:List (Int × Int × Int)) (f:Nat) (cap:List Value) (T:Int→Int) (hP:RdC w.heap.size w p (sc m o (wTo (wts m rs) rs.length) (wsum m rs rs.length))) (hR:RdF encR 3 w.heap.size w o rs) (hv:VT m rs)
 (hF:FnV w.heap.size w f cap (fun x=>0≤x∧x<rs.length) T) (hcall:∀ (args:Array Value) (w:World),(callFunc f args).run Tryz.prog w=.ok (.enter f args) w) (hg:∀ i:Nat,i<rs.length→ab (T i)≤1000000000) :
 Ret Tryz.prog 65 [.pointer (some p),.func (.func f) (([]:List Value).toArray) cap.toArray].toArray w (.agg (encP (red (msum m rs T rs.length) (wsum m rs rs.length))).toArray):=by
 refine Ret.of mixed tyTab Tryz.func65 rfl rfl ?_
 replace hR:RdF encR 3 (fnCx mixed tyTab Tryz.f65.ntmps w).B (fnCx mixed tyTab Tryz.f65.ntmps w).w0 o rs:=hR
 replace hP:RdC (fnCx mixed tyTab Tryz.f65.ntmps w).B (fnCx mixed tyTab Tryz.f65.ntmps w).w0 p (sc m o (wTo (wts m rs) rs.length) (wsum m rs rs.length)):=hP
 replace hF:FnV (fnCx mixed tyTab Tryz.f65.ntmps w).w0.heap.size (fnCx mixed tyTab Tryz.f65.ntmps w).w0 f cap (fun x=>0≤x∧x<rs.length) T:=hF
 have hn:=hv.n
 have hws:=wsum_lt hv (i:=rs.length) (Nat.le_refl _)
 refine W.sreg (WO.alloc rfl rfl rfl (fun b1 hb1=>(WO.nil (W.sreg (WO.p rfl rfl (WO.nil (W.seq (W.sreg (WO.p rfl rfl (WO.p rfl rfl (WO.field0 rfl rfl rfl (WO.field rfl rfl rfl ?_))))))))))))
 refine' WO.load (v:=_) rfl rfl ?hc rfl ?_
 case hc=>((refine hP.cellAt ?_;rfl))
 refine WO.len rfl rfl hR.sl rfl (WO.p rfl rfl (WO.nil (W.block ?_)))
 refine W.loop2 (fun (i:Nat) (c:Int)=>i≤rs.length∧c=msum m rs T i)
  (fun (i:Nat) (c:Int)=>[(13,.int .i64 (i:Int)),(12,.int .i64 (rs.length:Int)),(5,.int .i64 c),(4,.pointer (some ⟨b1,0,none⟩)),(0,.pointer (some p)),(1,.func (.func f) (([]:List Value).toArray) cap.toArray)])
  (fun (i:Nat) (c:Int)=>[pt b1 (.cells #[.int .i64 0,.int .i64 0] 46 (0,0))])
  (fun (i:Nat) (c:Int)=>rs.length-i) 0 0
  (by exact ⟨by omega,rfl⟩) ⟨rfl,rfl,rfl,rfl,rfl,rfl,trivial⟩ (by repeat (first | exact Sub.nil | refine Sub.cons (by repeat exact .head) ?_)) ?_
 rintro i c ⟨hi,hc⟩
 have hmi:=msum_in hv hg (i:=i) hi
 have hmi1:i<rs.length→ab (msum m rs T (i+1))≤1670880000000000000*((i+1:Nat):Int):=fun h=>msum_in hv hg (i:=i+1) (by omega)
 unfold ab at hmi hmi1
 refine W.sreg (WO.p rfl rfl (WO.nil (W.seq ?_)))
 refine W.cond_bl rfl (fun c1=>?_) (fun c1=>?_)
 ·refine W.skip (W.seq (W.block (W.sreg (WO.p rfl rfl (WO.p rfl rfl (WO.nil ?_))))))
  have hwl:=wts_lt hv (i:=i) (by omega)
  have hmul:=abs_mul (W:=1670880000) (w:=wts m rs i) ⟨by omega,hwl.2⟩ (hg i (by omega))
  have hms:msum m rs T (i+1)=msum m rs T i+wts m rs i*T (i:Int):=rfl
  have hmi2:=hmi1 (by omega)
  rw [hms] at hmi2
  clear hmi1
  refine W.drawD 11 [.r 0 [],.r 1 [],.r 2 [],.r 3 [],.r 4 [],.r 5 [],.b 6 [],.r 7 [],.r 8 [],.b 9 [],.r 10 []] [] (A0:=[]) (Sub.refl _) (by kernel_rfl) ?_ ?_
  ·repeat constructor
  refine DT.r rfl rfl rfl (WO.p rfl rfl (WO.nil ⟨rfl,rfl⟩)) (DT.r rfl rfl rfl (WO.p rfl rfl (WO.nil ⟨rfl,rfl⟩)) (DT.r rfl rfl rfl (WO.p rfl rfl (WO.nil ⟨rfl,rfl⟩)) (DT.r rfl rfl rfl (WO.p rfl rfl (WO.nil ⟨rfl,rfl⟩)) (DT.r rfl rfl rfl (WO.field rfl rfl rfl (WO.nil ⟨rfl,rfl⟩)) (DT.r rfl rfl rfl (WO.indexArr rfl rfl rfl (by omega) (by omega) rfl (WO.nil ⟨rfl,rfl⟩)) (DT.b rfl rfl rfl (WO.load (v:=_) rfl rfl (sc_cellP (i:=i) (x:=wts m rs i) hP (by omega) (wTo_at (by omega))) rfl (WO.nil ⟨rfl,rfl⟩)) (DT.r rfl rfl rfl (WO.p rfl rfl (WO.nil ⟨rfl,rfl⟩)) (DT.r rfl rfl rfl (WO.p rfl rfl (WO.nil ⟨rfl,rfl⟩)) ?_))))))))
  refine DT.b rfl rfl rfl (WO.callCR (first:=[]) (captured:=cap) rfl rfl hcall (fun L w hi=>hF.at_ (x:=(i:Int)) rfl hi ⟨by omega,by omega⟩) rfl (WO.nil ⟨rfl,rfl⟩)) (DT.r rfl rfl rfl (WO.ar rfl rfl rfl (by unfold in64;omega) rfl (WO.nil ⟨rfl,rfl⟩)) (DT.nil [_] rfl (WO.ar rfl rfl rfl (by unfold in64;omega) rfl (WO.p rfl rfl (WO.nil (W.region (WO.ar rfl rfl rfl (by unfold in64;omega) rfl (WO.p rfl rfl (WO.nil ?_)))))))))
  refine' ⟨i+1,_,?hp,?hmu,⟨rfl,rfl,rfl,rfl,rfl,rfl,trivial⟩,?hS⟩
  case hS=>repeat (first | exact Sub.nil | refine Sub.cons (by repeat exact .head) ?_)
  case hp=>exact ⟨by omega,by rw [hc];rfl⟩
  case hmu=>omega
 ·refine W.exit (blk_same ?_)
  obtain rfl:i=rs.length:=by omega
  subst hc
  refine W.sreg (WO.p rfl rfl (WO.p rfl rfl (WO.p rfl rfl (WO.field rfl rfl rfl ?_))))
  refine' WO.load (v:=_) rfl rfl ?hc rfl ?_
  case hc=>((refine hP.cellAt ?_;rfl))
  refine WO.callR rfl Tryz.call123 (fun L w hi=>c_fraction w _ _ (by unfold ab;omega) (by omega) (by unfold in64;omega)) rfl (WO.storeA rfl rfl rfl rfl Pick.head rfl rfl (WO.nil (W.ret ?_)))
  exact fin.ret (Res.one rfl (RV.cell rfl rfl rfl (Cells.own Pick.head))) rfl
end Go.Proofs.YtoapkhkdnbcilaaGreat.Tr
namespace Go.TH
theorem Cap.agree {w w':World} {p:Addr} {v:Value} (h:Cap w p v) (hB:w.heap.size≤w'.heap.size) (hk:∀ k,k<w.heap.size→w'.heap[k]?=w.heap[k]?):Cap w' p v :=
 ⟨Nat.lt_of_lt_of_le h.lt hB,by rw [cell_agree hk h.lt];exact h.at_⟩
theorem RdF.cellAt2 {α:Type} {C:Cx Go.Proofs.Tryz.prog} {H:List HP} {enc:α→List Value} {sz:Nat} {v:Value} {xs:List α} (h:RdF enc sz C.B C.w0 v xs) {i:Nat} (h1:i<xs.length) (z:α) {a b:Nat} {u:Value} (hu:lget (enc (xs.getD i z)) (a+b)=some u):Cell C H (prt (prt (elt v i sz) a) b) u:=by
 have:=h.cellAt (H:=H) h1 z hu
 rw [prt_eq] at this
 rw [prt_eq,prt_eq,Addr.add_add];exact this
end Go.TH
namespace Go.Proofs.YtoapkhkdnbcilaaGreat.Tr
open Go Go.TH
attribute [local irreducible] W WO pt
set_option maxRecDepth 10000
set_option maxHeartbeats 1000000
theorem c_lo (w:World) (q p:Addr) (m:Int) (o:Value) (rest:List Value) (rs:List (Int × Int × Int)) (x:Int) (hc:Cap w q (.pointer (some p))) (hP:RdC w.heap.size w p (.int .i64 m::o::rest)) (hR:RdF encR 3 w.heap.size w o rs) (hx:0≤x∧x<rs.length):Ret Tryz.prog 67 [.int .i64 x,.pointer (some q)].toArray w (.int .i64 (rs.getD x.toNat r0).2.1):=by
 refine Ret.of mixed tyTab Tryz.func67 rfl rfl ?_
 replace hR:RdF encR 3 (fnCx mixed tyTab Tryz.f67.ntmps w).B (fnCx mixed tyTab Tryz.f67.ntmps w).w0 o rs:=hR
 replace hc:Cap (fnCx mixed tyTab Tryz.f67.ntmps w).w0 q (.pointer (some p)):=hc
 replace hP:RdC (fnCx mixed tyTab Tryz.f67.ntmps w).B (fnCx mixed tyTab Tryz.f67.ntmps w).w0 p (.int .i64 m::o::rest):=hP
 refine W.sreg (WO.p rfl rfl (WO.nil (W.sreg ?_)))
 refine' WO.load (v:=_) rfl rfl ?hc rfl ?_
 case hc=>(refine Cap.cell (v:=.pointer (some p)) rfl hc)
 refine WO.p rfl rfl (WO.field0 rfl rfl rfl (WO.field rfl rfl rfl ?_))
 refine' WO.load (v:=_) rfl rfl ?hc rfl ?_
 case hc=>(first | (refine hP.cellAt ?_;rfl) | (refine hR.cellAt ?_ r0 ?_ <;> first | rfl | omega))
 refine WO.p rfl rfl ?_
 refine' WO.indexAddrZ (n:=_) rfl rfl rfl ?hs ?h00 ?h1 rfl ?_
 case hs=>exact hR.sl
 case h00=>omega
 case h1=>(omega)
 refine WO.field rfl rfl rfl (WO.field0 rfl rfl rfl ?_)
 refine' WO.load (v:=_) rfl rfl ?hc rfl ?_
 case hc=>(first | (refine hP.cellAt ?_;rfl) | (refine hR.cellAt ?_ r0 ?_ <;> first | rfl | omega))
 refine WO.p rfl rfl (WO.nil (W.ret ?_))
 exact fin.ret (Res.one rfl (RV.tmp rfl)) rfl
theorem c_hi (w:World) (q p:Addr) (m:Int) (o:Value) (rest:List Value) (rs:List (Int × Int × Int)) (x:Int) (hc:Cap w q (.pointer (some p))) (hP:RdC w.heap.size w p (.int .i64 m::o::rest)) (hR:RdF encR 3 w.heap.size w o rs) (hx:0≤x∧x<rs.length):Ret Tryz.prog 68 [.int .i64 x,.pointer (some q)].toArray w (.int .i64 (rs.getD x.toNat r0).2.2):=by
 refine Ret.of mixed tyTab Tryz.func68 rfl rfl ?_
 replace hR:RdF encR 3 (fnCx mixed tyTab Tryz.f68.ntmps w).B (fnCx mixed tyTab Tryz.f68.ntmps w).w0 o rs:=hR
 replace hc:Cap (fnCx mixed tyTab Tryz.f68.ntmps w).w0 q (.pointer (some p)):=hc
 replace hP:RdC (fnCx mixed tyTab Tryz.f68.ntmps w).B (fnCx mixed tyTab Tryz.f68.ntmps w).w0 p (.int .i64 m::o::rest):=hP
 refine W.sreg (WO.p rfl rfl (WO.nil (W.sreg ?_)))
 refine' WO.load (v:=_) rfl rfl ?hc rfl ?_
 case hc=>(refine Cap.cell (v:=.pointer (some p)) rfl hc)
 refine WO.p rfl rfl (WO.field0 rfl rfl rfl (WO.field rfl rfl rfl ?_))
 refine' WO.load (v:=_) rfl rfl ?hc rfl ?_
 case hc=>(first | (refine hP.cellAt ?_;rfl) | (refine RdF.cellAt2 hR ?_ r0 ?_ <;> first | rfl | omega))
 refine WO.p rfl rfl ?_
 refine' WO.indexAddrZ (n:=_) rfl rfl rfl ?hs ?h00 ?h1 rfl ?_
 case hs=>exact hR.sl
 case h00=>omega
 case h1=>(omega)
 refine WO.field rfl rfl rfl (WO.field rfl rfl rfl ?_)
 refine' WO.load (v:=_) rfl rfl ?hc rfl ?_
 case hc=>(first | (refine hP.cellAt ?_;rfl) | (refine RdF.cellAt2 hR ?_ r0 ?_ <;> first | rfl | omega))
 refine WO.p rfl rfl (WO.nil (W.ret ?_))
 exact fin.ret (Res.one rfl (RV.tmp rfl)) rfl
theorem fn_lo {w:World} {q p:Addr} {m:Int} {o:Value} {rest:List Value} {rs:List (Int × Int × Int)} (hc:Cap w q (.pointer (some p))) (hP:RdC w.heap.size w p (.int .i64 m::o::rest)) (hR:RdF encR 3 w.heap.size w o rs):FnV w.heap.size w 67 [.pointer (some q)] (fun x=>0≤x∧x<rs.length) (fun x=>(rs.getD x.toNat r0).2.1) :=
 fun w' hB hk x hx=>c_lo w' q p m o rest rs x (hc.agree hB hk) ((hP.agree hk).up hB) ((hR.agree hk).up hB) hx
theorem fn_hi {w:World} {q p:Addr} {m:Int} {o:Value} {rest:List Value} {rs:List (Int × Int × Int)} (hc:Cap w q (.pointer (some p))) (hP:RdC w.heap.size w p (.int .i64 m::o::rest)) (hR:RdF encR 3 w.heap.size w o rs):FnV w.heap.size w 68 [.pointer (some q)] (fun x=>0≤x∧x<rs.length) (fun x=>(rs.getD x.toNat r0).2.2) :=
 fun w' hB hk x hx=>c_hi w' q p m o rest rs x (hc.agree hB hk) ((hP.agree hk).up hB) ((hR.agree hk).up hB) hx
def pw (t:Int):Nat→Int
 | 0=>1
 | d+1=>pw t d*t
theorem pw_in {t:Int} (h:0≤t∧t≤60):∀ d,0≤pw t d∧pw t d≤60 ^ d
 | 0=>by simp [pw]
 | d+1=>by
  have ih:=pw_in h d
  have e:pw t (d+1)=pw t d*t:=rfl
  rw [e,Int.pow_succ]
  exact ⟨Int.mul_nonneg ih.1 h.1,Int.mul_le_mul ih.2 h.2 h.1 (by omega)⟩
theorem pw_B {t:Int} (h:0≤t∧t≤60) {d:Nat} (hd:d≤5):0≤pw t d∧pw t d≤777600000:=by
 have h1:=pw_in h d
 have h2:=(by decide:∀ d:Nat,d≤5→(60:Int) ^ d≤777600000) d hd
 omega
theorem c_power (w:World) (p:Addr) (d:Nat) (t:Int) (hc:Cap w p (.int .i64 (d:Int))) (hd:d≤5) (ht:0≤t∧t≤60):Ret Tryz.prog 21 [.int .i64 t,.pointer (some p)].toArray w (.int .i64 (pw t d)):=by
 refine Ret.of mixed tyTab Tryz.func21 rfl rfl ?_
 replace hc:Cap (fnCx mixed tyTab Tryz.f21.ntmps w).w0 p (.int .i64 (d:Int)):=hc
 refine W.sreg (WO.p rfl rfl (WO.nil (W.sreg (WO.p rfl rfl (WO.nil (W.seq (W.sreg ?_)))))))
 refine' WO.load (v:=_) rfl rfl ?hc rfl ?_
 case hc=>(refine Cap.cell (v:=.int .i64 (d:Int)) rfl hc)
 refine WO.p rfl rfl (WO.nil (W.block ?_))
 refine W.loop2 (fun (k:Nat) (c:Int)=>k≤d∧c=pw t k)
  (fun (k:Nat) (c:Int)=>[(6,.int .i64 (k:Int)),(5,.int .i64 (d:Int)),(4,.int .i64 c),(0,.int .i64 t)])
  (fun (k:Nat) (c:Int)=>[])
  (fun (k:Nat) (c:Int)=>d-k) 0 1
  (by exact ⟨by omega,rfl⟩) ⟨rfl,rfl,rfl,rfl,trivial⟩ (by repeat (first | exact Sub.nil | refine Sub.cons (by repeat first | exact .head | apply Pick.tail) ?_)) ?_
 rintro k c ⟨hk,hcc⟩
 subst hcc
 refine W.sreg (WO.p rfl rfl (WO.nil (W.seq ?_)))
 refine W.cond_bl rfl (fun c1=>?_) (fun c1=>?_)
 ·refine W.skip (W.seq (W.block ?_))
  have hp1:=pw_B ht (d:=k+1) (by omega)
  have hpe:pw t (k+1)=pw t k*t:=rfl
  refine W.region (WO.p rfl rfl (WO.p rfl rfl (WO.ar rfl rfl rfl (by unfold in64;omega) rfl (WO.p rfl rfl (WO.nil (W.region (WO.ar rfl rfl rfl (by unfold in64;omega) rfl (WO.p rfl rfl (WO.nil ?_)))))))))
  refine' ⟨k+1,_,?hp,?hmu,⟨rfl,rfl,rfl,rfl,trivial⟩,?hS⟩
  case hS=>repeat (first | exact Sub.nil | refine Sub.cons (by repeat first | exact .head | apply Pick.tail) ?_)
  case hp=>exact ⟨by omega,rfl⟩
  case hmu=>omega
 ·refine W.exit (blk_same (W.sreg (WO.p rfl rfl (WO.p rfl rfl (WO.nil (W.ret ?_))))))
  obtain rfl:k=d:=by omega
  exact fin.ret (Res.one rfl (RV.tmp rfl)) (by rfl)
theorem fn_power {w:World} {p:Addr} {d:Nat} (hc:Cap w p (.int .i64 (d:Int))) (hd:d≤5):FnV w.heap.size w 21 [.pointer (some p)] (fun t=>0≤t∧t≤60) (fun t=>pw t d) :=
 fun w' hB hk t ht=>c_power w' p d t (hc.agree hB hk) hd ht
end Go.Proofs.YtoapkhkdnbcilaaGreat.Tr
namespace Go.Proofs.YtoapkhkdnbcilaaGreat.Tr
open Go Go.TH
attribute [local irreducible] W WO pt
set_option maxRecDepth 10000
set_option maxHeartbeats 1000000
def hB (xs:List Int) (t:Int):Nat→Int
 | 0=>0
 | q+1=>hB xs t q*t+xs.getD ((xs.length:Int)-1-q).toNat 0
def tideV (xs:List Int) (t:Int):Int:=hB xs t xs.length
def Tidal (xs:List Int):Prop:=xs.length≤5∧∀ x∈xs,-20≤x∧x≤20
def tB:Nat→Int
 | 0=>0
 | q+1=>tB q*60+20
theorem mul_ab {a t A:Int} (h:ab a≤A) (ht:0≤t∧t≤60) : -(A*60)≤a*t∧a*t≤A*60:=by
 have:=abs_mul (w:=t) (g:=a) (W:=60) (G:=A) ⟨ht.1,ht.2⟩ h
 rw [Int.mul_comm t a,Int.mul_comm 60 A] at this
 exact this
theorem hB_in {xs:List Int} (h:Tidal xs) {t:Int} (ht:0≤t∧t≤60):∀ {q:Nat},q≤xs.length→ab (hB xs t q)≤tB q
 | 0,_=>by simp [hB,tB,ab]
 | q+1,hq=>by
  have ih:=hB_in h ht (q:=q) (by omega)
  have h1:=mul_ab ih ht
  have h2:=h.2 _ (getD_mem (l:=xs) (i:=((xs.length:Int)-1-q).toNat) (by omega) 0)
  have e:hB xs t (q+1)=hB xs t q*t+xs.getD ((xs.length:Int)-1-q).toNat 0:=rfl
  have e2:tB (q+1)=tB q*60+20:=rfl
  rw [e,e2]
  unfold ab
  omega
theorem tB_B:∀ q,q<6→0≤tB q∧tB q≤263593220:=by decide
theorem hB_B {xs:List Int} (h:Tidal xs) {t:Int} (ht:0≤t∧t≤60) {q:Nat} (hq:q≤xs.length) : -263593220≤hB xs t q∧hB xs t q≤263593220:=by
 have h1:=hB_in h ht hq
 have h2:=tB_B q (by have:=h.1;omega)
 unfold ab at h1
 omega
end Go.Proofs.YtoapkhkdnbcilaaGreat.Tr
namespace Go.Proofs.YtoapkhkdnbcilaaGreat.Tr
open Go Go.TH
attribute [local irreducible] W WO pt
set_option maxRecDepth 10000
set_option maxHeartbeats 1000000
theorem FnV.later {C:Cx Tryz.prog} {H:List HP} {L:List HP} {w:World} {f:Nat} {cap:List Value} {S:Int→Prop} {T:Int→Int} (hB:C.B=C.w0.heap.size) (h:FnV C.w0.heap.size C.w0 f cap S T) (hi:Inv C.w0 C.M (L++H) w):FnV w.heap.size w f cap S T:=fun w' hB' hk x hx =>
 h w' (Nat.le_trans hi.size hB') (fun k hlt=>by rw [hk k (Nat.lt_of_lt_of_le hlt hi.size)];exact hi.keepB k (by rw [hB];exact hlt)) x hx
def offT (rs:List (Int × Int × Int)) (T:Int→Int) (x:Int):Int:=if x.tmod 2=1 then -(T (tm rs x.toNat)) else T (tm rs x.toNat)
theorem c_off1 (w:World) (q1 q2 p:Addr) (m:Int) (o:Value) (rest:List Value) (rs:List (Int × Int × Int)) (f:Nat) (cap:List Value) (T:Int→Int) (x:Int) (hc1:Cap w q1 (.func (.func f) (([]:List Value).toArray) cap.toArray)) (hc2:Cap w q2 (.pointer (some p))) (hP:RdC w.heap.size w p (.int .i64 m::o::rest)) (hR:RdF encR 3 w.heap.size w o rs) (hv:VT m rs)
 (hF:FnV w.heap.size w f cap (fun t=>0≤t∧t≤60) T) (hcall:∀ (args:Array Value) (w:World),(callFunc f args).run Tryz.prog w=.ok (.enter f args) w) (hT:∀ i:Nat,i<rs.length→ab (T (tm rs i))≤1000000000) (hx:0≤x∧x<rs.length) :
 Ret Tryz.prog 66 [.int .i64 x,.pointer (some q1),.pointer (some q2)].toArray w (.int .i64 (offT rs T x)):=by
 refine Ret.of mixed tyTab Tryz.func66 rfl rfl ?_
 replace hR:RdF encR 3 (fnCx mixed tyTab Tryz.f66.ntmps w).B (fnCx mixed tyTab Tryz.f66.ntmps w).w0 o rs:=hR
 replace hc1:Cap (fnCx mixed tyTab Tryz.f66.ntmps w).w0 q1 (.func (.func f) (([]:List Value).toArray) cap.toArray):=hc1
 replace hc2:Cap (fnCx mixed tyTab Tryz.f66.ntmps w).w0 q2 (.pointer (some p)):=hc2
 replace hP:RdC (fnCx mixed tyTab Tryz.f66.ntmps w).B (fnCx mixed tyTab Tryz.f66.ntmps w).w0 p (.int .i64 m::o::rest):=hP
 replace hF:FnV (fnCx mixed tyTab Tryz.f66.ntmps w).w0.heap.size (fnCx mixed tyTab Tryz.f66.ntmps w).w0 f cap (fun t=>0≤t∧t≤60) T:=hF
 have hrun:=hv.run (i:=x.toNat) (by omega)
 have hTx:=hT x.toNat (by omega)
 unfold ab at hTx
 refine W.sreg (WO.p rfl rfl (WO.nil (W.seq ?_)))
 refine W.drawD 10 [.b 0 [],.b 1 [],.r 2 [],.r 3 [],.r 4 [],.b 5 [],.r 6 [],.r 7 [],.r 8 [],.b 9 []] [] (A0:=[]) (Sub.refl _) (by kernel_rfl) ?_ ?_
 ·repeat constructor
 refine' DT.b rfl rfl rfl ?hq ?_
 case hq =>
  refine' WO.load (v:=_) rfl rfl ?hc rfl ?_
  case hc=>(refine Cap.cell (v:=.func (.func f) (([]:List Value).toArray) cap.toArray) rfl hc1)
  exact WO.nil ⟨rfl,rfl⟩
 refine' DT.b rfl rfl rfl ?hq ?_
 case hq =>
  refine' WO.load (v:=_) rfl rfl ?hc rfl ?_
  case hc=>(refine Cap.cell (v:=.pointer (some p)) rfl hc2)
  exact WO.nil ⟨rfl,rfl⟩
 refine DT.r rfl rfl rfl (WO.p rfl rfl (WO.nil ⟨rfl,rfl⟩)) (DT.r rfl rfl rfl (WO.field0 rfl rfl rfl (WO.nil ⟨rfl,rfl⟩)) (DT.r rfl rfl rfl (WO.field rfl rfl rfl (WO.nil ⟨rfl,rfl⟩)) ?_))
 refine' DT.b rfl rfl rfl ?hq ?_
 case hq =>
  refine' WO.load (v:=_) rfl rfl ?hc rfl ?_
  case hc=>(first | (refine hP.cellAt ?_;rfl) | (refine hR.cell0 ?_ r0 ?_ <;> first | rfl | omega))
  exact WO.nil ⟨rfl,rfl⟩
 refine DT.r rfl rfl rfl (WO.p rfl rfl (WO.nil ⟨rfl,rfl⟩)) ?_
 refine' DT.r rfl rfl rfl ?hq ?_
 case hq =>
  refine' WO.indexAddrZ (n:=_) rfl rfl rfl ?hs ?h00 ?h1 rfl ?_
  case hs=>exact hR.sl
  case h00=>omega
  case h1=>(omega)
  exact WO.nil ⟨rfl,rfl⟩
 refine DT.r rfl rfl rfl (WO.field0 rfl rfl rfl (WO.nil ⟨rfl,rfl⟩)) ?_
 refine' DT.b rfl rfl rfl ?hq ?_
 case hq =>
  refine' WO.load (v:=_) rfl rfl ?hc rfl ?_
  case hc=>(first | (refine hP.cellAt ?_;rfl) | (refine hR.cell0 ?_ r0 ?_ <;> first | rfl | omega))
  exact WO.nil ⟨rfl,rfl⟩
 refine DT.nil [] rfl (WO.callCR (first:=[]) (captured:=cap) (r:=.int .i64 (T (tm rs x.toNat))) rfl rfl hcall (fun L w hi=>hF.at_ (x:=tm rs x.toNat) rfl hi ⟨by omega,by omega⟩) rfl (WO.p rfl rfl (WO.nil (W.seq (W.sreg (WO.p rfl rfl (WO.rem rfl rfl (by omega) rfl (WO.p rfl rfl (WO.nil ?_)))))))))
 refine W.cond_bl rfl (fun c1=>?_) (fun c1=>?_)
 ·refine W.sreg (WO.p rfl rfl (WO.neg rfl (by unfold in64;omega) rfl (WO.p rfl rfl (WO.nil (W.ret (fin.ret (Res.one rfl (RV.tmp rfl)) (congrArg (Value.int .i64) ?_)))))))
  unfold offT
  rw [if_pos (by assumption)]
 ·refine W.skip (W.sreg (WO.p rfl rfl (WO.p rfl rfl (WO.nil (W.ret (fin.ret (Res.one rfl (RV.tmp rfl)) (congrArg (Value.int .i64) ?_)))))))
  unfold offT
  rw [if_neg (by assumption)]
theorem fn_off1 {w:World} {q1 q2 p:Addr} {m:Int} {o:Value} {rest:List Value} {rs:List (Int × Int × Int)} {f:Nat} {cap:List Value} {T:Int→Int} (hc1:Cap w q1 (.func (.func f) (([]:List Value).toArray) cap.toArray)) (hc2:Cap w q2 (.pointer (some p))) (hP:RdC w.heap.size w p (.int .i64 m::o::rest)) (hR:RdF encR 3 w.heap.size w o rs) (hv:VT m rs)
 (hF:FnV w.heap.size w f cap (fun t=>0≤t∧t≤60) T) (hcall:∀ (args:Array Value) (w:World),(callFunc f args).run Tryz.prog w=.ok (.enter f args) w) (hT:∀ i:Nat,i<rs.length→ab (T (tm rs i))≤1000000000) :
 FnV w.heap.size w 66 [.pointer (some q1),.pointer (some q2)] (fun x=>0≤x∧x<rs.length) (offT rs T):=fun w' hB hk x hx =>
 c_off1 w' q1 q2 p m o rest rs f cap T x (hc1.agree hB hk) (hc2.agree hB hk) ((hP.agree hk).up hB) ((hR.agree hk).up hB) hv (fun w'' hB' hk'=>hF w'' (Nat.le_trans hB hB') (fun k hlt=>by rw [hk' k (Nat.lt_of_lt_of_le hlt hB),hk k hlt])) hcall hT hx
theorem offT_ab {rs:List (Int × Int × Int)} {T:Int→Int} (hT:∀ i:Nat,i<rs.length→ab (T (tm rs i))≤1000000000):∀ i:Nat,i<rs.length→ab (offT rs T i)≤1000000000:=by
 intro i hi
 have:=hT i hi
 unfold offT
 rw [Int.toNat_natCast]
 split
 ·unfold ab at *;omega
 ·exact this
theorem c_off (w:World) (p:Addr) (m:Int) (o:Value) (rs:List (Int × Int × Int)) (f:Nat) (cap:List Value) (T:Int→Int) (hP:RdC w.heap.size w p (sc m o (wTo (wts m rs) rs.length) (wsum m rs rs.length))) (hR:RdF encR 3 w.heap.size w o rs) (hv:VT m rs)
 (hF:FnV w.heap.size w f cap (fun t=>0≤t∧t≤60) T) (hcall:∀ (args:Array Value) (w:World),(callFunc f args).run Tryz.prog w=.ok (.enter f args) w) (hT:∀ i:Nat,i<rs.length→ab (T (tm rs i))≤1000000000) :
 Ret Tryz.prog 22 [.pointer (some p),.func (.func f) (([]:List Value).toArray) cap.toArray].toArray w (.agg (encP (red (msum m rs (offT rs T) rs.length) (wsum m rs rs.length))).toArray):=by
 refine Ret.of mixed tyTab Tryz.func22 rfl rfl ?_
 replace hR:RdF encR 3 (fnCx mixed tyTab Tryz.f22.ntmps w).B (fnCx mixed tyTab Tryz.f22.ntmps w).w0 o rs:=hR
 replace hP:RdC (fnCx mixed tyTab Tryz.f22.ntmps w).B (fnCx mixed tyTab Tryz.f22.ntmps w).w0 p (sc m o (wTo (wts m rs) rs.length) (wsum m rs rs.length)):=hP
 replace hF:FnV (fnCx mixed tyTab Tryz.f22.ntmps w).w0.heap.size (fnCx mixed tyTab Tryz.f22.ntmps w).w0 f cap (fun t=>0≤t∧t≤60) T:=hF
 refine W.sreg (WO.box1 rfl (by rfl) rfl (fun b1 hb1=>(WO.box1 rfl (by rfl) rfl (fun b2 hb2=>(WO.alloc rfl rfl rfl (fun b3 hb3=>(WO.nil (W.sreg (WO.load rfl rfl (Cell.own (Pick.tail (Pick.tail (Pick.head))) rfl) rfl (WO.p rfl rfl (WO.callR rfl Tryz.call65 (fun L w hi=>c_mean w p m o rs _ [.pointer (some ⟨b2,0,none⟩),.pointer (some ⟨b1,0,none⟩)] (offT rs T) (hP.later hi) (hR.later hi) hv (fn_off1 (Cap.of (by repeat first | exact .head | apply Pick.tail) rfl hi) (Cap.of (by repeat first | exact .head | apply Pick.tail) rfl hi) (hP.later hi) (hR.later hi) hv (hF.later rfl hi) hcall hT) Tryz.call66 (offT_ab hT)) rfl ?_)))))))))))
 refine WO.storeA rfl rfl rfl rfl Pick.head rfl rfl (WO.nil (W.ret ?_))
 exact fin.ret (Res.one rfl (RV.cell rfl rfl rfl (Cells.own Pick.head))) rfl
def loT (rs:List (Int × Int × Int)) (x:Int):Int:=(rs.getD x.toNat r0).2.1
def hiT (rs:List (Int × Int × Int)) (x:Int):Int:=(rs.getD x.toNat r0).2.2
theorem loT_ab {m:Int} {rs:List (Int × Int × Int)} (hv:VT m rs):∀ i:Nat,i<rs.length→ab (loT rs i)≤1000000000:=fun i hi=>by
 have:=hv.run hi
 unfold loT ab
 rw [Int.toNat_natCast];omega
theorem hiT_ab {m:Int} {rs:List (Int × Int × Int)} (hv:VT m rs):∀ i:Nat,i<rs.length→ab (hiT rs i)≤1000000000:=fun i hi=>by
 have:=hv.run hi
 unfold hiT ab
 rw [Int.toNat_natCast];omega
def meanQ (m:Int) (rs:List (Int × Int × Int)) (g:Int→Int):Int × Int:=red (msum m rs g rs.length) (wsum m rs rs.length)
theorem c_span (w:World) (p:Addr) (m:Int) (o:Value) (rs:List (Int × Int × Int)) (hP:RdC w.heap.size w p (sc m o (wTo (wts m rs) rs.length) (wsum m rs rs.length))) (hR:RdF encR 3 w.heap.size w o rs) (hv:VT m rs) :
 Ret Tryz.prog 25 [.pointer (some p)].toArray w (.agg (encP (meanQ m rs (loT rs))++encP (meanQ m rs (hiT rs))).toArray):=by
 refine Ret.of mixed tyTab Tryz.func25 rfl rfl ?_
 replace hR:RdF encR 3 (fnCx mixed tyTab Tryz.f25.ntmps w).B (fnCx mixed tyTab Tryz.f25.ntmps w).w0 o rs:=hR
 replace hP:RdC (fnCx mixed tyTab Tryz.f25.ntmps w).B (fnCx mixed tyTab Tryz.f25.ntmps w).w0 p (sc m o (wTo (wts m rs) rs.length) (wsum m rs rs.length)):=hP
 refine W.sreg (WO.box1 rfl (by rfl) rfl (fun b1 hb1=>(WO.alloc rfl rfl rfl (fun b2 hb2=>(WO.nil (W.sreg (WO.load rfl rfl (Cell.own (Pick.tail (Pick.head)) rfl) rfl (WO.p rfl rfl (WO.p rfl rfl (WO.nil (W.sreg (WO.p rfl rfl (WO.p rfl rfl (WO.callCR (first:=[.pointer (some p)]) (captured:=[]) rfl rfl Tryz.call65 (fun L w hi=>c_mean w p m o rs _ [.pointer (some ⟨b1,0,none⟩)] (loT rs) (hP.later hi) (hR.later hi) hv (fn_lo (Cap.of (by repeat first | exact .head | apply Pick.tail) rfl hi) (hP.later hi) (hR.later hi)) Tryz.call67 (loT_ab hv)) rfl (WO.p rfl rfl (WO.p rfl rfl ?_))))))))))))))))
 refine WO.callCR (first:=[.pointer (some p)]) (captured:=[]) rfl rfl Tryz.call65 (fun L w hi=>c_mean w p m o rs _ [.pointer (some ⟨b1,0,none⟩)] (hiT rs) (hP.later hi) (hR.later hi) hv (fn_hi (Cap.of (by repeat first | exact .head | apply Pick.tail) rfl hi) (hP.later hi) (hR.later hi)) Tryz.call68 (hiT_ab hv)) rfl (WO.build rfl rfl rfl rfl rfl (WO.storeA rfl rfl rfl rfl Pick.head rfl rfl (WO.nil (W.ret ?_))))
 exact fin.ret (Res.one rfl (RV.cell rfl rfl rfl (Cells.own Pick.head))) rfl
end Go.Proofs.YtoapkhkdnbcilaaGreat.Tr
namespace Go.Proofs.YtoapkhkdnbcilaaGreat.Tr
open Go Go.TH
set_option maxRecDepth 10000
theorem offT_0 (rs:List (Int × Int × Int)) (T:Int→Int):offT rs T ((0:Nat):Int)=T (tm rs 0):=rfl
theorem offT_1 (rs:List (Int × Int × Int)) (T:Int→Int):offT rs T ((1:Nat):Int) = -(T (tm rs 1)):=rfl
theorem offT_2 (rs:List (Int × Int × Int)) (T:Int→Int):offT rs T ((2:Nat):Int)=T (tm rs 2):=rfl
theorem offT_3 (rs:List (Int × Int × Int)) (T:Int→Int):offT rs T ((3:Nat):Int) = -(T (tm rs 3)):=rfl
theorem offT_4 (rs:List (Int × Int × Int)) (T:Int→Int):offT rs T ((4:Nat):Int)=T (tm rs 4):=rfl
section
variable (m:Int) (rs:List (Int × Int × Int)) (T:Int→Int)
theorem off_2:msum m rs (offT rs T) 2=wts m rs 0*T (tm rs 0)-wts m rs 1*T (tm rs 1):=by
 show ((0+wts m rs 0*offT rs T ((0:Nat):Int))+wts m rs 1*offT rs T ((1:Nat):Int))=_
 rw [offT_0,offT_1]
 simp only [Int.mul_neg]
 omega
theorem off_3:msum m rs (offT rs T) 3=wts m rs 0*T (tm rs 0)-wts m rs 1*T (tm rs 1)+wts m rs 2*T (tm rs 2):=by
 show (((0+wts m rs 0*offT rs T ((0:Nat):Int))+wts m rs 1*offT rs T ((1:Nat):Int))+wts m rs 2*offT rs T ((2:Nat):Int))=_
 rw [offT_0,offT_1,offT_2]
 simp only [Int.mul_neg]
 omega
theorem off_4:msum m rs (offT rs T) 4=wts m rs 0*T (tm rs 0)-wts m rs 1*T (tm rs 1)+wts m rs 2*T (tm rs 2)-wts m rs 3*T (tm rs 3):=by
 show ((((0+wts m rs 0*offT rs T ((0:Nat):Int))+wts m rs 1*offT rs T ((1:Nat):Int))+wts m rs 2*offT rs T ((2:Nat):Int))+wts m rs 3*offT rs T ((3:Nat):Int))=_
 rw [offT_0,offT_1,offT_2,offT_3]
 simp only [Int.mul_neg]
 omega
theorem off_5:msum m rs (offT rs T) 5=wts m rs 0*T (tm rs 0)-wts m rs 1*T (tm rs 1)+wts m rs 2*T (tm rs 2)-wts m rs 3*T (tm rs 3)+wts m rs 4*T (tm rs 4):=by
 show (((((0+wts m rs 0*offT rs T ((0:Nat):Int))+wts m rs 1*offT rs T ((1:Nat):Int))+wts m rs 2*offT rs T ((2:Nat):Int))+wts m rs 3*offT rs T ((3:Nat):Int))+wts m rs 4*offT rs T ((4:Nat):Int))=_
 rw [offT_0,offT_1,offT_2,offT_3,offT_4]
 simp only [Int.mul_neg]
 omega
end
theorem all2 (w0 w1 a b:Int):w0*((a-b))=0+(1)*(w0*(1*a)-w1*(1*b))-(b)*(w0*(1)-w1*(1)):=by grind
theorem all3 (w0 w1 w2 a b c:Int):w0*((a-b)*(a-c))=0+(1)*(w0*(1*a*a)-w1*(1*b*b)+w2*(1*c*c))-(b+c)*(w0*(1*a)-w1*(1*b)+w2*(1*c))+(b*c)*(w0*(1)-w1*(1)+w2*(1)):=by grind
theorem all4 (w0 w1 w2 w3 a b c d:Int):w0*((a-b)*(a-c)*(a-d))=0+(1)*(w0*(1*a*a*a)-w1*(1*b*b*b)+w2*(1*c*c*c)-w3*(1*d*d*d))-(b+c+d)*(w0*(1*a*a)-w1*(1*b*b)+w2*(1*c*c)-w3*(1*d*d))+(b*c+b*d+c*d)*(w0*(1*a)-w1*(1*b)+w2*(1*c)-w3*(1*d))-(b*c*d)*(w0*(1)-w1*(1)+w2*(1)-w3*(1)):=by grind
theorem all5 (w0 w1 w2 w3 w4 a b c d e:Int):w0*((a-b)*(a-c)*(a-d)*(a-e))=0+(1)*(w0*(1*a*a*a*a)-w1*(1*b*b*b*b)+w2*(1*c*c*c*c)-w3*(1*d*d*d*d)+w4*(1*e*e*e*e))-(b+c+d+e)*(w0*(1*a*a*a)-w1*(1*b*b*b)+w2*(1*c*c*c)-w3*(1*d*d*d)+w4*(1*e*e*e))+(b*c+b*d+b*e+c*d+c*e+d*e)*(w0*(1*a*a)-w1*(1*b*b)+w2*(1*c*c)-w3*(1*d*d)+w4*(1*e*e))-(b*c*d+b*c*e+b*d*e+c*d*e)*(w0*(1*a)-w1*(1*b)+w2*(1*c)-w3*(1*d)+w4*(1*e))+(b*c*d*e)*(w0*(1)-w1*(1)+w2*(1)-w3*(1)+w4*(1)):=by grind
section
variable {m:Int} {rs:List (Int × Int × Int)}
theorem ne_mul {a b:Int} (ha:a≠0) (hb:b≠0):a*b≠0:=Int.mul_ne_zero ha hb
theorem off_some (hv:VT m rs):∃ d,d<rs.length∧msum m rs (offT rs (fun t=>pw t d)) rs.length≠0:=by
 have hn:=hv.n
 have hl:=fun k (h0:0<k) (hk:k<rs.length)=>(hv.lt (j:=0) h0 hk).1
 have hw:=(wts_lt hv (i:=0) (by omega)).1
 refine Decidable.byContradiction fun hc=>?_
 have h0:∀ d,d<rs.length→msum m rs (offT rs (fun t=>pw t d)) rs.length=0:=fun d hd=>Decidable.byContradiction fun h=>hc ⟨d,hd,h⟩
 clear hc
 obtain h | h | h | h:rs.length=2∨rs.length=3∨rs.length=4∨rs.length=5:=by omega
 ·rw [h] at h0 hl
  have s0:=h0 0 (by omega)
  have s1:=h0 1 (by omega)
  rw [off_2] at s0
  rw [off_2] at s1
  simp only [pw] at s0 s1
  have l1:=hl 1 (by omega) (by omega)
  have e:=all2 (wts m rs 0) (wts m rs 1) (tm rs 0) (tm rs 1)
  rw [s1,s0] at e
  simp only [Int.mul_zero,Int.add_zero,Int.sub_zero] at e
  exact ne_mul (show wts m rs 0≠0 by omega) (show tm rs 0-tm rs 1≠0 by omega) e
 ·rw [h] at h0 hl
  have s0:=h0 0 (by omega)
  have s1:=h0 1 (by omega)
  have s2:=h0 2 (by omega)
  rw [off_3] at s0
  rw [off_3] at s1
  rw [off_3] at s2
  simp only [pw] at s0 s1 s2
  have l1:=hl 1 (by omega) (by omega)
  have l2:=hl 2 (by omega) (by omega)
  have e:=all3 (wts m rs 0) (wts m rs 1) (wts m rs 2) (tm rs 0) (tm rs 1) (tm rs 2)
  rw [s2,s1,s0] at e
  simp only [Int.mul_zero,Int.add_zero,Int.sub_zero] at e
  exact ne_mul (show wts m rs 0≠0 by omega) (ne_mul (show tm rs 0-tm rs 1≠0 by omega) (show tm rs 0-tm rs 2≠0 by omega)) e
 ·rw [h] at h0 hl
  have s0:=h0 0 (by omega)
  have s1:=h0 1 (by omega)
  have s2:=h0 2 (by omega)
  have s3:=h0 3 (by omega)
  rw [off_4] at s0
  rw [off_4] at s1
  rw [off_4] at s2
  rw [off_4] at s3
  simp only [pw] at s0 s1 s2 s3
  have l1:=hl 1 (by omega) (by omega)
  have l2:=hl 2 (by omega) (by omega)
  have l3:=hl 3 (by omega) (by omega)
  have e:=all4 (wts m rs 0) (wts m rs 1) (wts m rs 2) (wts m rs 3) (tm rs 0) (tm rs 1) (tm rs 2) (tm rs 3)
  rw [s3,s2,s1,s0] at e
  simp only [Int.mul_zero,Int.add_zero,Int.sub_zero] at e
  exact ne_mul (show wts m rs 0≠0 by omega) (ne_mul (ne_mul (show tm rs 0-tm rs 1≠0 by omega) (show tm rs 0-tm rs 2≠0 by omega)) (show tm rs 0-tm rs 3≠0 by omega)) e
 ·rw [h] at h0 hl
  have s0:=h0 0 (by omega)
  have s1:=h0 1 (by omega)
  have s2:=h0 2 (by omega)
  have s3:=h0 3 (by omega)
  have s4:=h0 4 (by omega)
  rw [off_5] at s0
  rw [off_5] at s1
  rw [off_5] at s2
  rw [off_5] at s3
  rw [off_5] at s4
  simp only [pw] at s0 s1 s2 s3 s4
  have l1:=hl 1 (by omega) (by omega)
  have l2:=hl 2 (by omega) (by omega)
  have l3:=hl 3 (by omega) (by omega)
  have l4:=hl 4 (by omega) (by omega)
  have e:=all5 (wts m rs 0) (wts m rs 1) (wts m rs 2) (wts m rs 3) (wts m rs 4) (tm rs 0) (tm rs 1) (tm rs 2) (tm rs 3) (tm rs 4)
  rw [s4,s3,s2,s1,s0] at e
  simp only [Int.mul_zero,Int.add_zero,Int.sub_zero] at e
  exact ne_mul (show wts m rs 0≠0 by omega) (ne_mul (ne_mul (ne_mul (show tm rs 0-tm rs 1≠0 by omega) (show tm rs 0-tm rs 2≠0 by omega)) (show tm rs 0-tm rs 3≠0 by omega)) (show tm rs 0-tm rs 4≠0 by omega)) e
end
end Go.Proofs.YtoapkhkdnbcilaaGreat.Tr
namespace Go.Proofs.YtoapkhkdnbcilaaGreat.Tr
open Go Go.TH
attribute [local irreducible] W WO pt
set_option maxRecDepth 10000
set_option maxHeartbeats 1000000
def spanV (m:Int) (rs:List (Int × Int × Int)) (g:Int→Int):Int × Int:=if chkT m rs=0 then meanQ m rs g else (0,0)
def spanR (m:Int) (rs:List (Int × Int × Int)):Value:=.tuple #[.agg (encP (spanV m rs (loT rs))++encP (spanV m rs (hiT rs))).toArray,.int .i64 (chkT m rs)]
theorem spanR_0 {m:Int} {rs:List (Int × Int × Int)} (h:chkT m rs=0):.tuple #[.agg (encP (meanQ m rs (loT rs))++encP (meanQ m rs (hiT rs))).toArray,.int .i64 0]=spanR m rs:=by
 unfold spanR spanV;rw [if_pos h,if_pos h,h]
theorem spanR_1 {m:Int} {rs:List (Int × Int × Int)} (h:chkT m rs≠0):.tuple #[.agg (encP (0,0)++encP (0,0)).toArray,.int .i64 (chkT m rs)]=spanR m rs:=by
 unfold spanR spanV;rw [if_neg h,if_neg h]
abbrev scP (pv:Value) (m:Int) (o:Value) (rs:List (Int × Int × Int)):HP:=PtrP pv (chkT m rs) (sc m o (wTo (wts m rs) rs.length) (wsum m rs rs.length)) 112
theorem c_Span (w:World) (m:Int) (o:Value) (rs:List (Int × Int × Int)) (hR:RdF encR 3 w.heap.size w o rs):Ret Tryz.prog 9 [.agg #[.int .i64 m,o]].toArray w (spanR m rs):=by
 refine Ret.of mixed tyTab Tryz.func9 rfl rfl ?_
 replace hR:RdF encR 3 (fnCx mixed tyTab Tryz.f9.ntmps w).B (fnCx mixed tyTab Tryz.f9.ntmps w).w0 o rs:=hR
 refine W.sreg (WO.boxA rfl rfl (fun b1 hb1=>(WO.alloc rfl rfl rfl (fun b2 hb2=>(WO.p rfl rfl (WO.nil (W.sreg (WO.loadA rfl rfl (Cells.own (Pick.tail (Pick.head))) rfl rfl (WO.call (Post:=fun v Hq=>∃ pv,v=.tuple #[pv,.int .i64 (chkT m rs)]∧Hq=[scP pv m o rs]) rfl Tryz.call20 (fun L w hi=>c_newScales w m o rs (hR.later hi)) rfl ?_)))))))))
 rintro _ _ ⟨pv,rfl,rfl⟩
 refine WO.p rfl rfl (WO.p rfl rfl (WO.p rfl rfl (WO.p rfl rfl (WO.p rfl rfl (WO.nil (W.seq (W.sreg (WO.p rfl rfl (WO.p rfl rfl (WO.nil ?_))))))))))
 refine W.cond_bl rfl (fun c1=>?_) (fun c1=>?_)
 ·refine W.sreg (WO.build rfl rfl rfl rfl rfl (WO.p rfl rfl (WO.storeA rfl rfl rfl rfl (Pick.tail (Pick.head)) rfl rfl (WO.p rfl rfl (WO.nil (W.ret (fin.ret (Res.two rfl (RV.cell rfl rfl rfl (Cells.own Pick.head)) (RV.tmp rfl)) ?_)))))))
  exact spanR_1 (by assumption)
 ·refine W.skip ?_
  have hv:VT m rs:=VT.of (by omega)
  refine W.chgE (PtrP.open (by repeat exact .head) hv.to) ?_
  rintro pb rfl
  refine W.sreg (WO.p rfl rfl (WO.callR rfl Tryz.call25 (fun L w hi=>c_span w _ m o rs (RdC.own (b:=pb) (by repeat exact .head) hi) (hR.later hi) hv) rfl (WO.storeA rfl rfl rfl rfl (Pick.tail (Pick.head)) rfl rfl (WO.p rfl rfl (WO.nil (W.ret (fin.ret (Res.two rfl (RV.cell rfl rfl rfl (Cells.own Pick.head)) (RV.tmp rfl)) ?_)))))))
  exact spanR_0 hv.to
def inTo (rs:List (Int × Int × Int)) (xs:List Int) (n:Nat):Prop:=∀ i,i<n→(rs.getD i r0).2.1≤xs.getD i 0∧xs.getD i 0≤(rs.getD i r0).2.2
instance (rs:List (Int × Int × Int)) (xs:List Int) (n:Nat):Decidable (inTo rs xs n):=by unfold inTo;infer_instance
section
variable {m:Int} {rs:List (Int × Int × Int)} {xs:List Int}
end
end Go.Proofs.YtoapkhkdnbcilaaGreat.Tr
namespace Go.Proofs.YtoapkhkdnbcilaaGreat.Tr
open Go Go.TH
attribute [local irreducible] W WO pt
set_option maxRecDepth 10000
set_option maxHeartbeats 1000000
def allIn (xs:List Int):Prop:=∀ x∈xs,-20≤x∧x≤20
instance (xs:List Int):Decidable (allIn xs):=by unfold allIn;infer_instance
section
variable {m:Int} {rs:List (Int × Int × Int)} {xs:List Int}
theorem tide_ab (hv:VT m rs) (hx:Tidal xs):∀ i:Nat,i<rs.length→ab (tideV xs (tm rs i))≤1000000000:=fun i hi=>by
 have h1:=hv.run hi
 have h2:=hB_B hx (t:=tm rs i) ⟨h1.1,h1.2.1⟩ (Nat.le_refl _)
 unfold tideV ab;omega
theorem pw_ab (hv:VT m rs) {d:Nat} (hd:d≤5):∀ i:Nat,i<rs.length→ab (pw (tm rs i) d)≤1000000000:=fun i hi=>by
 have h1:=hv.run hi
 have h2:=pw_B (t:=tm rs i) ⟨h1.1,h1.2.1⟩ hd
 unfold ab;omega
end
def fst5 (p:Nat→Bool):Nat:=if p 0=true then 0 else if p 1=true then 1 else if p 2=true then 2 else if p 3=true then 3 else if p 4=true then 4 else 5
theorem fst5_eq {p:Nat→Bool} {d:Nat} (hd:d<5) (h:p d=true) (hb:∀ k,k<d→p k=false):fst5 p=d:=by
 unfold fst5
 match d,hd with
 | 0,_=>rw [if_pos h]
 | 1,_=>rw [if_neg (by rw [hb 0 (by omega)];simp),if_pos h]
 | 2,_=>rw [if_neg (by rw [hb 0 (by omega)];simp),if_neg (by rw [hb 1 (by omega)];simp),if_pos h]
 | 3,_=>rw [if_neg (by rw [hb 0 (by omega)];simp),if_neg (by rw [hb 1 (by omega)];simp),if_neg (by rw [hb 2 (by omega)];simp),if_pos h]
 | 4,_=>rw [if_neg (by rw [hb 0 (by omega)];simp),if_neg (by rw [hb 1 (by omega)];simp),if_neg (by rw [hb 2 (by omega)];simp),if_neg (by rw [hb 3 (by omega)];simp),if_pos h]
def offP (m:Int) (rs:List (Int × Int × Int)) (d:Nat):Bool:=decide ((meanQ m rs (offT rs (fun t=>pw t d))).1≠0)
def canV (m:Int) (rs:List (Int × Int × Int)):Int:=if chkT m rs=0 then (fst5 (offP m rs):Int)-1 else 0
theorem red_num {n d:Int} (hd:0<d):(red n d).1=0↔n=0:=by
 have hg:=gcd2_pos (ab_nn n) hd
 have hdv:gcd2 (ab n) d∣n:=by
  have h1:=gcd2_dvdL (ab n) d (ab_nn n)
  unfold ab at h1 ⊢
  rcases Int.le_total 0 n with h | h
  ·rwa [show max n (-n)=n by omega] at h1 ⊢
  ·rw [show max n (-n) = -n by omega] at h1 ⊢
   exact Int.dvd_neg.1 h1
 constructor
 ·intro h
  have h2:=Int.tdiv_mul_cancel hdv
  have h3:n.tdiv (gcd2 (ab n) d)=0:=h
  rw [h3,Int.zero_mul] at h2
  exact h2.symm
 ·intro h;subst h;unfold red;simp
theorem offP_some {m:Int} {rs:List (Int × Int × Int)} (hv:VT m rs):∃ d,d<rs.length∧offP m rs d=true:=by
 obtain ⟨d,hd,h⟩:=off_some hv
 have hw:=wsum_lt hv (i:=rs.length) (Nat.le_refl _)
 have hn:=hv.n
 refine ⟨d,hd,?_⟩
 unfold offP meanQ
 rw [decide_eq_true_eq]
 exact fun e=>h ((red_num (by omega)).1 e)
theorem canR_1 {m:Int} {rs:List (Int × Int × Int)} (h:chkT m rs≠0):Value.tuple #[.int .i64 0,.int .i64 (chkT m rs)]=.tuple #[.int .i64 (canV m rs),.int .i64 (chkT m rs)]:=by unfold canV;rw [if_neg h]
theorem canR_0 {m:Int} {rs:List (Int × Int × Int)} (hv:VT m rs) {d:Nat} {z:Int} (hd:d<5) (h:offP m rs d=true) (hb:∀ k,k<d→offP m rs k=false) (hz:z=(d:Int)-1):Value.tuple #[.int .i64 z,.int .i64 0]=.tuple #[.int .i64 (canV m rs),.int .i64 (chkT m rs)]:=by
 unfold canV;rw [if_pos hv.to,fst5_eq hd h hb,hz,hv.to]
theorem c_Cancels (w:World) (m:Int) (o:Value) (rs:List (Int × Int × Int)) (hR:RdF encR 3 w.heap.size w o rs):Ret Tryz.prog 6 [.agg #[.int .i64 m,o]].toArray w (.tuple #[.int .i64 (canV m rs),.int .i64 (chkT m rs)]):=by
 refine Ret.of mixed tyTab Tryz.func6 rfl rfl ?_
 replace hR:RdF encR 3 (fnCx mixed tyTab Tryz.f6.ntmps w).B (fnCx mixed tyTab Tryz.f6.ntmps w).w0 o rs:=hR
 have ho:=hR.sl.oc
 refine W.sreg (WO.boxA rfl rfl (fun b1 hb1=>(WO.p rfl rfl (WO.p rfl rfl (WO.nil (W.scope (W.sreg (WO.loadA rfl rfl (Cells.own Pick.head) rfl rfl (WO.call (Post:=fun v Hq=>∃ pv,v=.tuple #[pv,.int .i64 (chkT m rs)]∧Hq=[scP pv m o rs]) rfl Tryz.call20 (fun L w hi=>c_newScales w m o rs (hR.later hi)) rfl ?_)))))))))
 rintro _ _ ⟨pv,rfl,rfl⟩
 refine WO.p rfl rfl (WO.p rfl rfl (WO.p rfl rfl (WO.p rfl rfl (WO.p rfl rfl (WO.nil (W.seq (W.sreg (WO.p rfl rfl (WO.p rfl rfl (WO.nil ?_))))))))))
 refine W.cond_bl rfl (fun c1=>?_) (fun c1=>?_)
 ·refine W.sreg (WO.p rfl rfl (WO.p rfl rfl (WO.p rfl rfl (WO.nil (W.ret (fin.ret (Res.two rfl (RV.tmp rfl) (RV.tmp rfl)) ?_))))))
  exact canR_1 (by assumption)
 ·refine W.skip ?_
  have hv:VT m rs:=VT.of (by omega)
  have hn:=hv.n
  obtain ⟨dx,hdx,hdp⟩:=offP_some hv
  refine W.chgE (PtrP.open (by repeat exact .head) hv.to) ?_
  rintro pb rfl
  refine W.sreg (WO.p rfl rfl (WO.nil (W.seq (W.label (W.seq (W.sreg (WO.fieldL rfl rfl rfl (WO.load rfl rfl (Cell.own (Pick.tail (Pick.head)) rfl) rfl (WO.len rfl rfl hR.sl rfl (WO.p rfl rfl (WO.nil (W.block ?_))))))))))))
  refine W.loop2 (fun (d:Nat) (z:Int)=>d≤rs.length∧z=(d:Int)-1∧∀ k,k<d→offP m rs k=false)
   (fun (d:Nat) (z:Int)=>[(20,.int .i64 (d:Int)),(19,.int .i64 (rs.length:Int)),(6,.int .i64 z),(4,.pointer (some ⟨pb,0,none⟩))])
   (fun (d:Nat) (z:Int)=>[pt pb (.cells (sc m o (wTo (wts m rs) rs.length) (wsum m rs rs.length)).toArray 112 (0,0))])
   (fun (d:Nat) (z:Int)=>rs.length-d) 0 (-1)
   (by exact ⟨by omega,by omega,fun k hk=>by omega⟩) ⟨rfl,rfl,rfl,rfl,trivial⟩ (by repeat (first | exact Sub.nil | refine Sub.cons (by repeat exact .head) ?_)) ?_
  rintro d z ⟨hd,hz,hal⟩
  refine W.sreg (WO.p rfl rfl (WO.nil (W.seq ?_)))
  refine W.cond_bl rfl (fun c2=>?_) (fun c2=>?_)
  ·refine W.skip (W.seq (W.block (W.sreg (WO.p rfl rfl (WO.alloc rfl rfl rfl (fun b2 hb2=>(WO.store1 rfl rfl rfl (by rfl) Pick.head rfl (WO.nil (W.sreg (WO.p rfl rfl (WO.p rfl rfl (WO.nil (W.seq ?_)))))))))))))
   obtain ⟨qn,qd,hq⟩:∃ a b,meanQ m rs (offT rs (fun t=>pw t d))=(a,b):=⟨_,_,rfl⟩
   have hqp:offP m rs d=decide (qn≠0):=by unfold offP;rw [hq]
   refine W.sreg (WO.p rfl rfl (WO.p rfl rfl (WO.callR (r:=.agg #[.int .i64 qn,.int .i64 qd]) rfl Tryz.call22 (fun L w hi=>by have h:=c_off w _ m o rs _ [.pointer (some ⟨b2,0,none⟩)] (fun t=>pw t d) (RdC.own (b:=pb) (by repeat first | exact .head | apply Pick.tail) hi) (hR.later hi) hv (fn_power (Cap.of (by repeat exact .head) rfl hi) (by omega)) Tryz.call21 (pw_ab hv (by omega));unfold meanQ at hq;rw [hq] at h;exact h) rfl (WO.field1 rfl rfl rfl rfl rfl (WO.p rfl rfl (WO.nil ?_))))))
   refine W.cond_bl rfl (fun c3=>?_) (fun c3=>?_)
   ·refine W.exit (blk_other rfl (blk_same (W.sreg (WO.p rfl rfl (WO.p rfl rfl (WO.p rfl rfl (WO.nil (W.ret (fin.ret (Res.two rfl (RV.tmp rfl) (RV.tmp rfl)) ?_)))))))))
    exact canR_0 hv (by omega) (by rw [hqp];simpa using ‹_›) hal hz
   ·refine W.skip (W.region (WO.load rfl rfl (Cell.own Pick.head rfl) rfl (WO.p rfl rfl (WO.nil (W.region (WO.ar rfl rfl rfl (by unfold in64;omega) rfl (WO.p rfl rfl (WO.nil ?_))))))))
    refine' ⟨d+1,_,?hp,?hmu,⟨rfl,rfl,rfl,rfl,trivial⟩,?hS⟩
    case hS=>repeat (first | exact Sub.nil | refine Sub.cons (by repeat first | exact .head | apply Pick.tail) ?_)
    case hp=>exact ⟨by omega,by omega,fun k hk=>by (rcases Nat.lt_or_ge k d with h | h;exact hal k h;obtain rfl:k=d:=(by omega);rw [hqp,show qn=0 from Decidable.not_not.1 (by assumption)];rfl)⟩
    case hmu=>omega
  ·refine W.exit (blk_same (W.sreg (WO.p rfl rfl (WO.p rfl rfl (WO.p rfl rfl (WO.nil (W.ret (fin.ret (Res.two rfl (RV.tmp rfl) (RV.tmp rfl)) ?_))))))))
   (exfalso;rw [hal dx (by omega)] at hdp;cases hdp)
end Go.Proofs.YtoapkhkdnbcilaaGreat.Tr
namespace Go.Proofs.YtoapkhkdnbcilaaGreat.Tr
open Go Go.TH
attribute [local irreducible] W WO pt
set_option maxRecDepth 10000
set_option maxHeartbeats 1000000
def evP (t:Int):List Int→Int
 | []=>0
 | a::r=>a+evP t r*t
theorem drop_getD {xs:List Int} {k:Nat} (h:k<xs.length):xs.drop k=xs.getD k 0::xs.drop (k+1):=by
 rw [List.drop_eq_getElem_cons h];simp [h]
theorem hB_ev (xs:List Int) (t:Int):∀ q,q≤xs.length→hB xs t q=evP t (xs.drop (xs.length-q))
 | 0,_=>by rw [Nat.sub_zero,List.drop_length];rfl
 | q+1,h=>by
  have ih:=hB_ev xs t q (by omega)
  rw [drop_getD (k:=xs.length-(q+1)) (by omega)]
  show hB xs t q*t+xs.getD ((xs.length:Int)-1-q).toNat 0=xs.getD (xs.length-(q+1)) 0+evP t (xs.drop (xs.length-(q+1)+1))*t
  rw [ih,show xs.length-(q+1)+1=xs.length-q by omega,show ((xs.length:Int)-1-q).toNat=xs.length-(q+1) by omega]
  omega
theorem tideV_ev (xs:List Int) (t:Int):tideV xs t=evP t xs:=by
 unfold tideV;rw [hB_ev xs t _ (Nat.le_refl _),Nat.sub_self];rfl
def fS (xs:List Int) (t:Int):Nat→Int
 | 0=>0
 | k+1=>fS xs t k+xs.getD k 0*pw t k
theorem fS_ev (xs:List Int) (t:Int):∀ k,k≤xs.length→fS xs t k+pw t k*evP t (xs.drop k)=evP t xs
 | 0,_=>by show 0+1*evP t xs=_;omega
 | k+1,h=>by
  have ih:=fS_ev xs t k (by omega)
  rw [drop_getD (k:=k) (by omega)] at ih
  have e1:fS xs t (k+1)=fS xs t k+xs.getD k 0*pw t k:=rfl
  have e2:pw t (k+1)=pw t k*t:=rfl
  have e3:evP t (xs.getD k 0::xs.drop (k+1))=xs.getD k 0+evP t (xs.drop (k+1))*t:=rfl
  rw [e3] at ih
  rw [e1,e2]
  grind
theorem fS_all (xs:List Int) (t:Int):fS xs t xs.length=tideV xs t:=by
 have:=fS_ev xs t xs.length (Nat.le_refl _)
 rw [List.drop_length] at this
 rw [tideV_ev]
 have e:evP t ([]:List Int)=0:=rfl
 rw [e,Int.mul_zero] at this
 omega
theorem pw4 {t:Int} (h:0≤t∧t≤60) {d:Nat} (hd:d≤4):0≤pw t d∧pw t d≤12960000:=by
 have h1:=pw_in h d
 have h2:=(by decide:∀ d:Nat,d≤4→(60:Int) ^ d≤12960000) d hd
 omega
theorem mul20 {a p:Int} (ha : -20≤a∧a≤20) (hp:0≤p∧p≤12960000) : -259200000≤a*p∧a*p≤259200000:=by
 have:=abs_mul (w:=p) (g:=a) (W:=12960000) (G:=20) hp (by unfold ab;omega)
 rw [Int.mul_comm p a] at this
 omega
theorem fS_in {xs:List Int} (hx:Tidal xs) {t:Int} (ht:0≤t∧t≤60):∀ {k:Nat},k≤xs.length → -(259200000*k)≤fS xs t k∧fS xs t k≤259200000*k
 | 0,_=>by simp [fS]
 | k+1,h=>by
  have ih:=fS_in hx ht (k:=k) (by omega)
  have h1:=mul20 (hx.2 _ (getD_mem (l:=xs) (i:=k) (by omega) 0)) (pw4 ht (d:=k) (by have:=hx.1;omega))
  have e1:fS xs t (k+1)=fS xs t k+xs.getD k 0*pw t k:=rfl
  rw [e1];omega
theorem ref_Tide (w:World) (v:Value) (xs:List Int) (t:Int) (hX:RdF encI 1 w.heap.size w v xs) (hx:Tidal xs) (ht:0≤t∧t≤60):Ret Tryz.prog 23 [v,.int .i64 t].toArray w (.int .i64 (tideV xs t)):=by
 refine Ret.of mixed tyTab Tryz.func23 rfl rfl ?_
 replace hX:RdF encI 1 (fnCx mixed tyTab Tryz.f23.ntmps w).B (fnCx mixed tyTab Tryz.f23.ntmps w).w0 v xs:=hX
 have hl:=hx.1
 refine W.sreg (WO.p rfl rfl (WO.nil (W.sreg (WO.p rfl rfl (WO.p rfl rfl (WO.nil (W.seq (W.sreg (WO.p rfl rfl (WO.nil (W.block ?_)))))))))))
 refine W.loop3 (fun (k:Nat) (s:Int) (p:Int)=>k≤xs.length∧s=fS xs t k∧p=pw t k)
  (fun (k:Nat) (s:Int) (p:Int)=>[(7,.int .i64 (k:Int)),(6,.int .i64 p),(5,.int .i64 s),(0,v),(1,.int .i64 t)])
  (fun (k:Nat) (s:Int) (p:Int)=>[])
  (fun (k:Nat) (s:Int) (p:Int)=>xs.length-k) 0 0 1
  (by exact ⟨by omega,rfl,rfl⟩) ⟨rfl,rfl,rfl,rfl,rfl,trivial⟩ (by repeat (first | exact Sub.nil | refine Sub.cons (by repeat first | exact .head | apply Pick.tail) ?_)) ?_
 rintro k s p ⟨hk,hs,hp⟩
 have h1:=fS_in hx ht (k:=k) hk
 have h2:k<xs.length → -259200000≤xs.getD k 0*pw t k∧xs.getD k 0*pw t k≤259200000:=fun h=>mul20 (hx.2 _ (getD_mem h 0)) (pw4 ht (by omega))
 have h3:=pw_B ht (d:=k) (by omega)
 have h4:k<xs.length→0≤pw t k*t∧pw t k*t≤777600000:=fun h=>pw_B ht (d:=k+1) (by omega)
 subst hs
 subst hp
 refine W.seq (W.sreg (WO.p rfl rfl (WO.p rfl rfl (WO.len rfl rfl hX.sl rfl (WO.p rfl rfl (WO.nil ?_))))))
 refine W.cond_bl rfl (fun c1=>?_) (fun c1=>?_)
 ·refine W.skip (W.seq (W.block (W.sreg (WO.p rfl rfl (WO.p rfl rfl (WO.p rfl rfl (WO.indexAddr rfl rfl rfl hX.sl (by omega) rfl ?_)))))))
  refine' WO.load (v:=_) rfl rfl ?hc rfl ?_
  case hc=>(first | (refine hX.cell0 ?_ 0 ?_ <;> first | rfl | omega))
  refine WO.p rfl rfl (WO.ar rfl rfl rfl (by unfold in64;omega) rfl (WO.ar rfl rfl rfl (by unfold in64;omega) rfl (WO.p rfl rfl (WO.nil (W.region (WO.p rfl rfl (WO.p rfl rfl (WO.ar rfl rfl rfl (by unfold in64;omega) rfl (WO.p rfl rfl (WO.nil (W.region (WO.p rfl rfl (WO.ar rfl rfl rfl (by unfold in64;omega) rfl (WO.p rfl rfl (WO.nil ?_)))))))))))))))
  refine' ⟨k+1,_,_,?hp,?hmu,⟨rfl,rfl,rfl,rfl,rfl,trivial⟩,?hS⟩
  case hS=>repeat (first | exact Sub.nil | refine Sub.cons (by repeat first | exact .head | apply Pick.tail) ?_)
  case hp=>exact ⟨by omega,rfl,rfl⟩
  case hmu=>omega
 ·refine W.exit (blk_same (W.sreg (WO.p rfl rfl (WO.p rfl rfl (WO.nil (W.ret ?_))))))
  obtain rfl:k=xs.length:=by omega
  exact fin.ret (Res.one rfl (RV.tmp rfl)) (congrArg (Value.int .i64) (fS_all xs t))
def turnG (xs:List Int) (i:Nat):Int:=if i%2=1 then -(xs.getD i 0) else xs.getD i 0
def turnL (xs:List Int):List Int:=(List.range xs.length).map (turnG xs)
theorem turnL_len (xs:List Int):(turnL xs).length=xs.length:=by unfold turnL;simp
theorem ref_Turned (w:World) (v:Value) (xs:List Int) (hX:RdF encI 1 w.heap.size w v xs) (hl:xs.length≤1000) (hx:∀ x∈xs,ab x≤1000000000):Ct Tryz.prog 24 [v].toArray w fun r w'=>∃ Hq,(Hq=[OwE encI 2 1 r (turnL xs)])∧Inv w [] Hq w':=by
 refine Ct.of mixed tyTab Tryz.func24 rfl rfl ?_
 replace hX:RdF encI 1 (fnCx mixed tyTab Tryz.f24.ntmps w).B (fnCx mixed tyTab Tryz.f24.ntmps w).w0 v xs:=hX
 refine W.sreg (WO.p rfl rfl (WO.nil (W.sreg (WO.p rfl rfl (WO.nil (W.seq (W.sreg (WO.p rfl rfl (WO.nil (W.block (W.chg (owNil (enc:=encI) (e:=2) (sz:=1)) ?_)))))))))))
 refine W.loop2 (fun (i:Nat) (r:Value)=>i≤xs.length)
  (fun (i:Nat) (r:Value)=>[(4,.int .i64 (i:Int)),(3,r),(0,v)])
  (fun (i:Nat) (r:Value)=>[OwE encI 2 1 r ((turnL xs).take i)])
  (fun (i:Nat) (r:Value)=>xs.length-i) 0 (.slice none 0 0)
  (by omega) ⟨rfl,rfl,rfl,trivial⟩ (by repeat (first | exact Sub.nil | refine Sub.cons (by repeat exact .head) ?_)) ?_
 rintro i r hi
 refine W.seq (W.sreg (WO.p rfl rfl (WO.p rfl rfl (WO.len rfl rfl hX.sl rfl (WO.p rfl rfl (WO.nil ?_))))))
 refine W.cond_bl rfl (fun c1=>?_) (fun c1=>?_)
 ·refine W.skip (W.seq (W.block ?_))
  have hxi:=hx _ (getD_mem (l:=xs) (i:=i) (by omega) 0)
  unfold ab at hxi
  have hmod:((i:Int).tmod 2)=((i%2:Nat):Int):=by rw [Int.tmod_eq_emod_of_nonneg (by omega)];omega
  refine W.sreg (WO.p rfl rfl (WO.rem rfl rfl (by omega) rfl (WO.p rfl rfl (WO.nil ?_))))
  refine W.cond_bl rfl (fun c2=>?_) (fun c2=>?_)
  ·refine W.region (WO.p rfl rfl (WO.p rfl rfl (WO.p rfl rfl (WO.indexAddr rfl rfl rfl hX.sl (by omega) rfl ?_))))
   refine' WO.load (v:=_) rfl rfl ?hc rfl ?_
   case hc=>(first | (refine hX.cell0 ?_ 0 ?_ <;> first | rfl | omega))
   refine WO.neg rfl (by unfold in64;omega) rfl (WO.buildSl rfl rfl rfl rfl rfl rfl rfl rfl rfl (fun v1=>?_))
   refine' WO.appendE (enc:=encI) (m:=1) (ys:=[turnG xs i]) encI_ok rfl rfl rfl rfl rfl (by repeat first | exact .head | apply Pick.tail) (isSl_lit (by omega) (fun _=>⟨_,_,rfl⟩)) (by omega) rfl (by rw [show ([turnG xs i].flatMap encI)=[.int .i64 (turnG xs i)] from rfl];unfold turnG;(rw [if_pos (by omega)];exact OwC.cells .head)) (by rw [List.length_take,turnL_len];omega) (by rw [List.length_take,turnL_len];omega) rfl (fun g c=>?_)
   rw [show (turnL xs).take i++[turnG xs i]=(turnL xs).take (i+1) from range_take (by omega)]
   refine WO.p rfl rfl (WO.nil (W.region (WO.p rfl rfl (WO.ar rfl rfl rfl (by unfold in64;omega) rfl (WO.p rfl rfl (WO.nil ?_))))))
   refine' ⟨i+1,_,?hp,?hmu,⟨rfl,rfl,rfl,trivial⟩,?hS⟩
   case hS=>repeat (first | exact Sub.nil | refine Sub.cons (by repeat exact .head) ?_)
   case hp=>omega
   case hmu=>omega
  ·refine W.region (WO.p rfl rfl (WO.p rfl rfl (WO.p rfl rfl (WO.indexAddr rfl rfl rfl hX.sl (by omega) rfl ?_))))
   refine' WO.load (v:=_) rfl rfl ?hc rfl ?_
   case hc=>(first | (refine hX.cell0 ?_ 0 ?_ <;> first | rfl | omega))
   refine WO.buildSl rfl rfl rfl rfl rfl rfl rfl rfl rfl (fun v2=>?_)
   refine' WO.appendE (enc:=encI) (m:=1) (ys:=[turnG xs i]) encI_ok rfl rfl rfl rfl rfl (by repeat first | exact .head | apply Pick.tail) (isSl_lit (by omega) (fun _=>⟨_,_,rfl⟩)) (by omega) rfl (by rw [show ([turnG xs i].flatMap encI)=[.int .i64 (turnG xs i)] from rfl];unfold turnG;(rw [if_neg (by omega)];exact OwC.cells .head)) (by rw [List.length_take,turnL_len];omega) (by rw [List.length_take,turnL_len];omega) rfl (fun g c=>?_)
   rw [show (turnL xs).take i++[turnG xs i]=(turnL xs).take (i+1) from range_take (by omega)]
   refine WO.p rfl rfl (WO.nil (W.region (WO.p rfl rfl (WO.ar rfl rfl rfl (by unfold in64;omega) rfl (WO.p rfl rfl (WO.nil ?_))))))
   refine' ⟨i+1,_,?hp,?hmu,⟨rfl,rfl,rfl,trivial⟩,?hS⟩
   case hS=>repeat (first | exact Sub.nil | refine Sub.cons (by repeat exact .head) ?_)
   case hp=>omega
   case hmu=>omega
 ·refine W.exit (blk_same (W.sreg (WO.p rfl rfl (WO.p rfl rfl (WO.nil (W.ret ?_))))))
  obtain rfl:i=xs.length:=by omega
  rw [show (turnL xs).take xs.length=turnL xs by rw [← turnL_len xs,List.take_length]]
  exact fin.ret (Res.one rfl (RV.tmp rfl)) rfl
theorem owE_cellS {C:Cx Tryz.prog} {H:List HP} {e:Nat} {v:Value} {xs:List Int} {i:Nat} {x:Int} (s:Sub H [OwE encI e 1 v xs]) (hi:i<xs.length) (hx:xs.getD i 0=x):Cell C H (elt v i 1) (.int .i64 x):=by
 cases s with
 | cons p _=>exact OwE.cell0 encI_ok p hi 0 (by rw [hx];rfl)
end Go.Proofs.YtoapkhkdnbcilaaGreat.Tr
namespace Go.Proofs.YtoapkhkdnbcilaaGreat.Tr
open Go Go.TH
attribute [local irreducible] W WO pt
set_option maxRecDepth 10000
set_option maxHeartbeats 1000000
def runL (rs:List (Int × Int × Int)) (g:Int→Int):List Int:=(List.range rs.length).map fun (i:Nat)=>g (i:Int)
theorem runL_len (rs:List (Int × Int × Int)) (g:Int→Int):(runL rs g).length=rs.length:=by unfold runL;simp
theorem runL_at {rs:List (Int × Int × Int)} {g:Int→Int} {i:Nat} (h:i<rs.length):(runL rs g).getD i 0=g i:=range_getD (f:=fun (i:Nat)=>g (i:Int)) h
theorem runL_take {rs:List (Int × Int × Int)} {g:Int→Int} {i:Nat} (h:i<rs.length):(runL rs g).take i++[g i]=(runL rs g).take (i+1):=range_take (f:=fun (i:Nat)=>g (i:Int)) h
theorem runL_all (rs:List (Int × Int × Int)) (g:Int→Int):(runL rs g).take rs.length=runL rs g:=by rw [← runL_len rs g,List.take_length]
theorem runL_mem {rs:List (Int × Int × Int)} {g:Int→Int} {x:Int} (h:x∈runL rs g):∃ i:Nat,i<rs.length∧x=g i:=by
 unfold runL at h
 obtain ⟨i,hi,rfl⟩:=List.mem_map.1 h
 exact ⟨i,List.mem_range.1 hi,rfl⟩
def tmT (rs:List (Int × Int × Int)) (T:Int→Int) (x:Int):Int:=T (tm rs x.toNat)
end Go.Proofs.YtoapkhkdnbcilaaGreat.Tr
namespace Go.Proofs.YtoapkhkdnbcilaaGreat.Tr
open Go Go.TH
attribute [local irreducible] W WO pt
set_option maxRecDepth 10000
set_option maxHeartbeats 1000000
end Go.Proofs.YtoapkhkdnbcilaaGreat.Tr
namespace Go.Proofs.YtoapkhkdnbcilaaGreat.Tr
open Go Go.TH
attribute [local irreducible] W WO pt
set_option maxRecDepth 10000
set_option maxHeartbeats 1000000
theorem eq36 (a b c d:Int):EqT Tryz.prog .eql 46 (.agg #[.int .i64 a,.int .i64 b]) (.agg #[.int .i64 c,.int .i64 d]) (.bool (bl ((a,b)=(c,d)))):=by
 intro x y w
 simp [go_sem,Tryz.eqGuardType46,Tryz.underlying46]
 by_cases h1:a=c <;> by_cases h2:b=d <;> simp [h1,h2,bl_eq]
def SpB (n d:Int):Prop:=(1≤d∧d≤10000000000)∧0≤n∧n≤20000*d
def isS (n d:Int):Prop:=SpB n d∧red n d=(n,d)
theorem red_mul {n d:Int} (hd:0<d):0<gcd2 (ab n) d∧(red n d).1*gcd2 (ab n) d=n∧(red n d).2*gcd2 (ab n) d=d:=by
 have hg:=gcd2_pos (ab_nn n) hd
 have hdv:gcd2 (ab n) d∣n:=by
  have h1:=gcd2_dvdL (ab n) d (ab_nn n)
  unfold ab at h1 ⊢
  rcases Int.le_total 0 n with h | h
  ·rwa [show max n (-n)=n by omega] at h1 ⊢
  ·rw [show max n (-n) = -n by omega] at h1 ⊢
   exact Int.dvd_neg.1 h1
 exact ⟨hg,Int.tdiv_mul_cancel hdv,Int.tdiv_mul_cancel (gcd2_dvdR (ab n) d (by omega))⟩
theorem red_den {n d:Int} (hd:0<d):1≤(red n d).2∧(red n d).2≤d:=by
 obtain ⟨h1,_,h3⟩:=red_mul (n:=n) hd
 have h4:0<(red n d).2:=by
  rcases Int.lt_or_le 0 (red n d).2 with h | h
  ·exact h
  ·have:=Int.mul_le_mul_of_nonneg_right h (show 0≤gcd2 (ab n) d by omega)
   rw [h3,Int.zero_mul] at this;omega
 have h5:=Int.mul_le_mul_of_nonneg_left (show 1≤gcd2 (ab n) d by omega) (show 0≤(red n d).2 by omega)
 rw [h3,Int.mul_one] at h5
 exact ⟨by omega,h5⟩
theorem red_SpB {n d:Int} (h:(1≤d∧d≤10000000000)∧0≤n∧n≤20000*d):SpB (red n d).1 (red n d).2:=by
 obtain ⟨⟨d1,d2⟩,n1,n2⟩:=h
 obtain ⟨g1,g2,g3⟩:=red_mul (n:=n) (d:=d) (by omega)
 have hd:=red_den (n:=n) (d:=d) (by omega)
 refine ⟨⟨hd.1,by omega⟩,?_,?_⟩
 ·refine Int.le_of_mul_le_mul_right (a:=gcd2 (ab n) d) ?_ g1
  rw [g2,Int.zero_mul];exact n1
 ·refine Int.le_of_mul_le_mul_right (a:=gcd2 (ab n) d) ?_ g1
  rw [g2,Int.mul_assoc,g3];exact n2
theorem msum_span {m:Int} {rs:List (Int × Int × Int)} {g:Int→Int} (hv:VT m rs) (hg:∀ i:Nat,i<rs.length→0≤g i∧g i≤20000):∀ {i:Nat},i≤rs.length→0≤msum m rs g i∧msum m rs g i≤20000*wsum m rs i
 | 0,_=>by simp [msum,wsum]
 | i+1,h=>by
  have ih:=msum_span hv hg (i:=i) (by omega)
  have h1:=hg i (by omega)
  have h2:=wts_lt hv (i:=i) (by omega)
  have e1:msum m rs g (i+1)=msum m rs g i+wts m rs i*g (i:Int):=rfl
  have e2:wsum m rs (i+1)=wsum m rs i+wts m rs i:=rfl
  have h3:0≤wts m rs i*g (i:Int):=Int.mul_nonneg (by omega) h1.1
  have h4:wts m rs i*g (i:Int)≤wts m rs i*20000:=Int.mul_le_mul_of_nonneg_left h1.2 (by omega)
  rw [e1,e2]
  omega
theorem mean_SpB {m:Int} {rs:List (Int × Int × Int)} {g:Int→Int} (hv:VT m rs) (hg:∀ i:Nat,i<rs.length→0≤g i∧g i≤20000):SpB (meanQ m rs g).1 (meanQ m rs g).2:=by
 have hn:=hv.n
 have h1:=msum_span hv hg (i:=rs.length) (Nat.le_refl _)
 have h2:=wsum_lt hv (i:=rs.length) (Nat.le_refl _)
 exact red_SpB ⟨⟨by omega,by omega⟩,h1.1,h1.2⟩
theorem loT_in {m:Int} {rs:List (Int × Int × Int)} (hv:VT m rs):∀ i:Nat,i<rs.length→0≤loT rs i∧loT rs i≤20000:=fun i hi=>by
 have:=hv.run hi
 unfold loT;rw [Int.toNat_natCast];omega
theorem hiT_in {m:Int} {rs:List (Int × Int × Int)} (hv:VT m rs):∀ i:Nat,i<rs.length→0≤hiT rs i∧hiT rs i≤20000:=fun i hi=>by
 have:=hv.run hi
 unfold hiT;rw [Int.toNat_natCast];omega
theorem red_one {n d:Int} (h:SpB n d):red n d=(n,d)↔gcd2 n d=1:=by
 obtain ⟨⟨d1,d2⟩,n1,n2⟩:=h
 have ea:ab n=n:=by unfold ab;omega
 obtain ⟨g1,g2,g3⟩:=red_mul (n:=n) (d:=d) (by omega)
 rw [ea] at g1 g2 g3
 constructor
 ·intro e
  rw [e] at g3
  dsimp only at g3
  have:d*(gcd2 n d-1)=0:=by rw [Int.mul_sub,g3];omega
  rcases Int.mul_eq_zero.1 this with h | h <;> omega
 ·intro e
  rw [e,Int.mul_one] at g2 g3
  exact Prod.ext g2 g3
open Classical in
noncomputable def isSB (n d:Int):Bool:=decide (isS n d)
theorem isSB_t {n d:Int}:isSB n d=true↔isS n d:=by unfold isSB;simp
theorem ref_IsSpeed (w:World) (n d:Int):Ret Tryz.prog 10 [.agg #[.int .i64 n,.int .i64 d]].toArray w (.bool (isSB n d)):=by
 refine Ret.of mixed tyTab Tryz.func10 rfl rfl ?_
 obtain ⟨qn,qd,hq⟩:∃ a b,red n d=(a,b):=⟨_,_,rfl⟩
 refine W.sreg (WO.boxA rfl rfl (fun b1 hb1=>(WO.p rfl rfl (WO.nil (W.seq ?_)))))
 refine W.drawD 23 [.r 0 [],.b 1 [],.r 2 [],.r 3 [],.r 4 [],.b 5 [],.r 6 [],.r 7 [],.r 8 [],.r 9 [],.b 10 [],.r 11 [],.b 12 [],.r 13 [],.b 14 [],.r 15 [],.r 16 [],.r 17 [],.b 18 [],.r 19 [],.b 20 [],.b 21 [],.b 22 []] [] (A0:=[]) (Sub.refl _) (by kernel_rfl) ?_ ?_
 ·repeat constructor
 refine DT.r rfl rfl rfl (WO.fieldL rfl rfl rfl (WO.nil ⟨rfl,rfl⟩)) (DT.b rfl rfl rfl (WO.load rfl rfl (Cell.own Pick.head rfl) rfl (WO.nil ⟨rfl,rfl⟩)) (DT.r rfl rfl rfl (WO.p rfl rfl (WO.nil ⟨rfl,rfl⟩)) ?_))
 refine DT.rB rfl rfl rfl (WO.p rfl rfl (WO.nil ⟨rfl,rfl⟩)) (fun c1=>?_) (fun c1=>?_)
 ·refine DT.r rfl rfl rfl (WO.go' rfl (WO.fieldL rfl rfl rfl (WO.nil ⟨rfl,rfl⟩))) (DT.b rfl rfl rfl (WO.go' rfl (WO.load rfl rfl (Cell.own Pick.head rfl) rfl (WO.nil ⟨rfl,rfl⟩))) (DT.r rfl rfl rfl (WO.pg rfl rfl rfl (WO.nil ⟨rfl,rfl⟩)) (DT.r rfl rfl rfl (WO.p rfl rfl (WO.nil ⟨rfl,rfl⟩)) ?_)))
  refine DT.rB rfl rfl rfl (WO.p rfl rfl (WO.nil ⟨rfl,rfl⟩)) (fun c2=>?_) (fun c2=>?_)
  ·refine DT.r rfl rfl rfl (WO.go' rfl (WO.field0 rfl rfl rfl (WO.nil ⟨rfl,rfl⟩))) (DT.b rfl rfl rfl (WO.go' rfl (WO.load rfl rfl (Cell.own Pick.head rfl) rfl (WO.nil ⟨rfl,rfl⟩))) (DT.r rfl rfl rfl (WO.go' rfl (WO.fieldL rfl rfl rfl (WO.nil ⟨rfl,rfl⟩))) (DT.b rfl rfl rfl (WO.go' rfl (WO.load rfl rfl (Cell.own Pick.head rfl) rfl (WO.nil ⟨rfl,rfl⟩))) (DT.r rfl rfl rfl (WO.go' rfl (WO.ar rfl rfl rfl (by unfold in64;omega) rfl (WO.nil ⟨rfl,rfl⟩))) (DT.b rfl rfl rfl (WO.go' rfl (WO.callR rfl Tryz.call26 (fun L w hi=>ref_between w n 0 (20000*d)) rfl (WO.nil ⟨rfl,rfl⟩))) (DT.r rfl rfl rfl (WO.p rfl rfl (WO.nil ⟨rfl,rfl⟩)) ?_))))))
   refine DT.rB rfl rfl rfl (WO.p rfl rfl (WO.nil ⟨rfl,rfl⟩)) (fun c3=>?_) (fun c3=>?_)
   ·refine DT.r rfl rfl rfl (WO.go' rfl (WO.field0 rfl rfl rfl (WO.nil ⟨rfl,rfl⟩))) (DT.b rfl rfl rfl (WO.go' rfl (WO.load rfl rfl (Cell.own Pick.head rfl) rfl (WO.nil ⟨rfl,rfl⟩))) (DT.r rfl rfl rfl (WO.go' rfl (WO.fieldL rfl rfl rfl (WO.nil ⟨rfl,rfl⟩))) (DT.b rfl rfl rfl (WO.go' rfl (WO.load rfl rfl (Cell.own Pick.head rfl) rfl (WO.nil ⟨rfl,rfl⟩))) (DT.b rfl rfl rfl (WO.go' rfl (WO.callR (r:=.agg #[.int .i64 qn,.int .i64 qd]) rfl Tryz.call27 (fun L w hi=>by have h:=ref_Fraction w n d (by unfold ab;omega) (by omega) (by unfold in64;omega);rw [hq] at h;exact h) rfl (WO.nil ⟨rfl,rfl⟩))) ?_))))
    refine DT.b rfl rfl rfl (WO.go' rfl (WO.loadA rfl rfl (Cells.own Pick.head) rfl rfl (WO.nil ⟨rfl,rfl⟩))) (DT.nil [_] rfl (WO.go' rfl (WO.eqT rfl rfl (eq36 _ _ _ _) rfl (WO.p rfl rfl (WO.p rfl rfl (WO.nil (W.ret (fin.ret (Res.one rfl (RV.tmp rfl)) (congrArg Value.bool ?_)))))))))
    (cases hb:isSB n d;exact bl_f.2 (fun e=>by have:=isSB_t.2 ⟨⟨by omega,by omega,by omega⟩,hq.trans e⟩;rw [hb] at this;cases this);exact bl_t.2 (hq.symm.trans (isSB_t.1 hb).2))
   ·refine DT.r rfl rfl rfl (WO.no rfl rfl (WO.nil ⟨rfl,rfl⟩)) (DT.b rfl rfl rfl (WO.no rfl rfl (WO.nil ⟨rfl,rfl⟩)) (DT.r rfl rfl rfl (WO.no rfl rfl (WO.nil ⟨rfl,rfl⟩)) (DT.b rfl rfl rfl (WO.no rfl rfl (WO.nil ⟨rfl,rfl⟩)) (DT.b rfl rfl rfl (WO.no rfl rfl (WO.nil ⟨rfl,rfl⟩)) (DT.b rfl rfl rfl (WO.no rfl rfl (WO.nil ⟨rfl,rfl⟩)) (DT.nil [_] rfl (WO.no rfl rfl (WO.p rfl rfl (WO.p rfl rfl (WO.nil (W.ret (fin.ret (Res.one rfl (RV.tmp rfl)) (congrArg Value.bool ?_)))))))))))))
    exact (Bool.eq_false_iff.2 (fun h=>by obtain ⟨⟨h1,h2,h3⟩,h4⟩:=isSB_t.1 h;omega)).symm
  ·refine DT.r rfl rfl rfl (WO.no rfl rfl (WO.nil ⟨rfl,rfl⟩)) (DT.b rfl rfl rfl (WO.no rfl rfl (WO.nil ⟨rfl,rfl⟩)) (DT.r rfl rfl rfl (WO.no rfl rfl (WO.nil ⟨rfl,rfl⟩)) (DT.b rfl rfl rfl (WO.no rfl rfl (WO.nil ⟨rfl,rfl⟩)) (DT.r rfl rfl rfl (WO.no rfl rfl (WO.nil ⟨rfl,rfl⟩)) (DT.b rfl rfl rfl (WO.no rfl rfl (WO.nil ⟨rfl,rfl⟩)) (DT.r rfl rfl rfl (WO.p rfl rfl (WO.nil ⟨rfl,rfl⟩)) (DT.r rfl rfl rfl (WO.p rfl rfl (WO.nil ⟨rfl,rfl⟩)) (DT.r rfl rfl rfl (WO.no rfl rfl (WO.nil ⟨rfl,rfl⟩)) (DT.b rfl rfl rfl (WO.no rfl rfl (WO.nil ⟨rfl,rfl⟩)) (DT.r rfl rfl rfl (WO.no rfl rfl (WO.nil ⟨rfl,rfl⟩)) (DT.b rfl rfl rfl (WO.no rfl rfl (WO.nil ⟨rfl,rfl⟩)) ?_)))))))))))
   refine DT.b rfl rfl rfl (WO.no rfl rfl (WO.nil ⟨rfl,rfl⟩)) (DT.b rfl rfl rfl (WO.no rfl rfl (WO.nil ⟨rfl,rfl⟩)) (DT.nil [_] rfl (WO.no rfl rfl (WO.p rfl rfl (WO.p rfl rfl (WO.nil (W.ret (fin.ret (Res.one rfl (RV.tmp rfl)) (congrArg Value.bool ?_)))))))))
   exact (Bool.eq_false_iff.2 (fun h=>by obtain ⟨⟨h1,h2,h3⟩,h4⟩:=isSB_t.1 h;omega)).symm
 ·refine DT.r rfl rfl rfl (WO.no rfl rfl (WO.nil ⟨rfl,rfl⟩)) (DT.b rfl rfl rfl (WO.no rfl rfl (WO.nil ⟨rfl,rfl⟩)) (DT.r rfl rfl rfl (WO.no rfl rfl (WO.nil ⟨rfl,rfl⟩)) (DT.r rfl rfl rfl (WO.p rfl rfl (WO.nil ⟨rfl,rfl⟩)) (DT.r rfl rfl rfl (WO.p rfl rfl (WO.nil ⟨rfl,rfl⟩)) (DT.r rfl rfl rfl (WO.no rfl rfl (WO.nil ⟨rfl,rfl⟩)) (DT.b rfl rfl rfl (WO.no rfl rfl (WO.nil ⟨rfl,rfl⟩)) (DT.r rfl rfl rfl (WO.no rfl rfl (WO.nil ⟨rfl,rfl⟩)) (DT.b rfl rfl rfl (WO.no rfl rfl (WO.nil ⟨rfl,rfl⟩)) (DT.r rfl rfl rfl (WO.no rfl rfl (WO.nil ⟨rfl,rfl⟩)) (DT.b rfl rfl rfl (WO.no rfl rfl (WO.nil ⟨rfl,rfl⟩)) (DT.r rfl rfl rfl (WO.p rfl rfl (WO.nil ⟨rfl,rfl⟩)) ?_)))))))))))
  refine DT.r rfl rfl rfl (WO.p rfl rfl (WO.nil ⟨rfl,rfl⟩)) (DT.r rfl rfl rfl (WO.no rfl rfl (WO.nil ⟨rfl,rfl⟩)) (DT.b rfl rfl rfl (WO.no rfl rfl (WO.nil ⟨rfl,rfl⟩)) (DT.r rfl rfl rfl (WO.no rfl rfl (WO.nil ⟨rfl,rfl⟩)) (DT.b rfl rfl rfl (WO.no rfl rfl (WO.nil ⟨rfl,rfl⟩)) (DT.b rfl rfl rfl (WO.no rfl rfl (WO.nil ⟨rfl,rfl⟩)) (DT.b rfl rfl rfl (WO.no rfl rfl (WO.nil ⟨rfl,rfl⟩)) (DT.nil [_] rfl (WO.no rfl rfl (WO.p rfl rfl (WO.p rfl rfl (WO.nil (W.ret (fin.ret (Res.one rfl (RV.tmp rfl)) (congrArg Value.bool ?_))))))))))))))
  exact (Bool.eq_false_iff.2 (fun h=>by obtain ⟨⟨h1,h2,h3⟩,h4⟩:=isSB_t.1 h;omega)).symm
theorem red_isS {n d:Int} (h:SpB n d):isS (red n d).1 (red n d).2:=by
 have hb:=red_SpB h
 refine ⟨hb,(red_one hb).2 ?_⟩
 obtain ⟨g1,g2,g3⟩:=red_mul (n:=n) (d:=d) (by have:=h.1.1;omega)
 have h1:=hb.2.1
 have h2:=hb.1.1
 have h3:=h.2.1
 have h4:=h.1.1
 have ea:ab n=n:=by unfold ab;omega
 rw [ea] at g1 g2 g3
 have hx:gcd2 n d=(Int.gcd n d:Int):=by
  unfold gcd2 Int.gcd
  have h1:n.toNat=n.natAbs:=by omega
  have h2:d.toNat=d.natAbs:=by omega
  rw [h1,h2]
 have hy:gcd2 (red n d).1 (red n d).2=(Int.gcd (red n d).1 (red n d).2:Int):=by
  unfold gcd2 Int.gcd
  have h1:(red n d).1.toNat=(red n d).1.natAbs:=by omega
  have h2:(red n d).2.toNat=(red n d).2.natAbs:=by omega
  rw [h1,h2]
 have hm:(Int.gcd ((red n d).1*gcd2 n d) ((red n d).2*gcd2 n d):Int)=Int.gcd (red n d).1 (red n d).2*gcd2 n d:=by
  rw [Int.gcd_mul_right];push_cast;rw [show ((gcd2 n d).natAbs:Int)=gcd2 n d by omega]
 rw [g2,g3,← hx,← hy] at hm
 have h9:(gcd2 (red n d).1 (red n d).2-1)*gcd2 n d=0:=by rw [Int.sub_mul];omega
 rcases Int.mul_eq_zero.1 h9 with h | h <;> omega
section
variable {m:Int} {rs:List (Int × Int × Int)}
theorem msum_mono (hv:VT m rs) {g g':Int→Int} (h:∀ i:Nat,i<rs.length→g i≤g' i):∀ {i:Nat},i≤rs.length→msum m rs g i≤msum m rs g' i
 | 0,_=>Int.le_refl _
 | i+1,hi=>by
  have ih:=msum_mono hv h (i:=i) (by omega)
  have h1:=h i (by omega)
  have h2:=wts_lt hv (i:=i) (by omega)
  have h3:wts m rs i*g (i:Int)≤wts m rs i*g' (i:Int):=Int.mul_le_mul_of_nonneg_left h1 (by omega)
  show msum m rs g i+wts m rs i*g (i:Int)≤msum m rs g' i+wts m rs i*g' (i:Int)
  omega
theorem sum_SpB (hv:VT m rs) {g:Int→Int} (hg:∀ i:Nat,i<rs.length→0≤g i∧g i≤20000):SpB (msum m rs g rs.length) (wsum m rs rs.length):=by
 have hn:=hv.n
 have h1:=msum_span hv hg (i:=rs.length) (Nat.le_refl _)
 have h2:=wsum_lt hv (i:=rs.length) (Nat.le_refl _)
 exact ⟨⟨by omega,by omega⟩,h1.1,h1.2⟩
theorem mean_isS (hv:VT m rs) {g:Int→Int} (hg:∀ i:Nat,i<rs.length→0≤g i∧g i≤20000):isS (meanQ m rs g).1 (meanQ m rs g).2:=red_isS (sum_SpB hv hg)
end
end Go.Proofs.YtoapkhkdnbcilaaGreat.Tr
