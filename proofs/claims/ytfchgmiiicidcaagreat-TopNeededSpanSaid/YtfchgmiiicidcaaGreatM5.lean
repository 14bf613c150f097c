/-
  What is proved here: pulls that fall are found to fall (chart.Meet's test); the advance at which a true propeller pulls what a ship needs. Conditions: none; each contract states its own.
-/
import Derived.Test.YtfchgmiiicidcaaGreatM4
import Derived.Test.YtfchgmiiicidcaaGreatM3
import Derived.Test.YtfchgmiiicidcaaGreatM2
import Derived.Laws.Cover1
set_option linter.unusedVariables false
set_option linter.unusedSimpArgs false
namespace Go.Proofs.YtfchgmiiicidcaaGreat
open Go Go.TH
attribute [local irreducible] W WO pt
set_option maxRecDepth 10000
set_option maxHeartbeats 2000000
theorem c_isNaN64 (w:World) (x:Int):Ret Tryz.prog 205 [.int .i64 x].toArray w (.bool false):=by
 refine Ret.of mixed tyTab Tryz.func205 rfl rfl (W.sreg (WO.p rfl rfl (WO.nil (W.sreg (WO.p rfl rfl (WO.p rfl rfl (WO.p rfl rfl (WO.p rfl rfl (WO.nil (W.ret ?_))))))))))
 exact fin.ret (Res.one rfl (RV.tmp rfl)) (congrArg Value.bool (bl_f.2 (by omega)))
theorem c_Less64 (w:World) (x y:Int):Ret Tryz.prog 122 [.int .i64 x,.int .i64 y].toArray w (.bool (bl (x<y))):=by
 refine Ret.of mixed tyTab Tryz.func122 rfl rfl (W.sreg (WO.p rfl rfl (WO.nil (W.sreg (WO.p rfl rfl (WO.callR rfl Tryz.call205 (fun L w hi=>c_isNaN64 w _) rfl (WO.p rfl rfl (WO.no rfl rfl (WO.no rfl rfl (WO.no rfl rfl (WO.p rfl rfl (WO.p rfl rfl (WO.pg rfl rfl rfl (WO.pg rfl rfl rfl (WO.pg rfl rfl rfl (WO.p rfl rfl (WO.p rfl rfl (WO.nil (W.ret (fin.ret (Res.one rfl (RV.tmp rfl)) (congrArg Value.bool ?_)))))))))))))))))))))
 rfl
def RevI (xs zs:List Int) (i:Nat):Prop:=zs.length=xs.length∧∀ k,k<xs.length→zs.getD k 0=if k<i∨xs.length-1-i<k then xs.getD (xs.length-1-k) 0 else xs.getD k 0
theorem set_get2 {zs:List Int} {i j k:Nat} {a b:Int} (hi:i<zs.length) (hj:j<zs.length):((zs.set i a).set j b).getD k 0=if k=j then b else if k=i then a else zs.getD k 0:=by
 rw [List.getD_eq_getElem?_getD,List.getElem?_set,List.getElem?_set,List.getD_eq_getElem?_getD]
 by_cases h1:j=k
 ·subst h1;simp [hj]
 ·by_cases h2:i=k
  ·subst h2;rw [if_neg h1,if_pos rfl,if_pos hi,if_neg (fun h=>h1 h.symm),if_pos rfl];rfl
  ·rw [if_neg h1,if_neg h2,if_neg (fun h=>h1 h.symm),if_neg (fun h=>h2 h.symm)]
theorem RevI.next {xs zs:List Int} {i j:Nat} (h:RevI xs zs i) (hj:j=xs.length-1-i) (hij:i<j):RevI xs ((zs.set i (zs.getD j 0)).set j (zs.getD i 0)) (i+1):=by
 refine ⟨by simp only [List.length_set];exact h.1,fun k hk=>?_⟩
 have h1:=h.1
 rw [set_get2 (by omega) (by omega)]
 have hi:=h.2 i (by omega)
 have hjj:=h.2 j (by omega)
 rw [if_neg (by omega)] at hi hjj
 rcases Nat.lt_trichotomy k j with g | g | g
 ·rw [if_neg (by omega)]
  rcases Nat.lt_trichotomy k i with q | q | q
  ·rw [if_neg (by omega),h.2 k hk,if_pos (by omega),if_pos (by omega)]
  ·rw [if_pos q,hjj,if_pos (by omega),hj,q]
  ·rw [if_neg (by omega),h.2 k hk,if_neg (by omega),if_neg (by omega)]
 ·rw [if_pos g,hi,if_pos (by omega),show xs.length-1-k=i by omega]
 ·rw [if_neg (by omega),if_neg (by omega),h.2 k hk,if_pos (by omega),if_pos (by omega)]
theorem RevI.all {xs zs:List Int} {i:Nat} (h:RevI xs zs i) (hi:xs.length-1-i≤i):∀ k,k<xs.length→zs.getD k 0=xs.getD (xs.length-1-k) 0:=fun k hk=>by
 rw [h.2 k hk]
 by_cases g:k<i∨xs.length-1-i<k
 ·rw [if_pos g]
 ·rw [if_neg g,show xs.length-1-k=k by omega]
theorem Icell {C:Cx Tryz.prog} {H:List HP} {v:Value} {l:List Int} {i j:Nat} (s:Sub H [OwE encI 2 1 v l]) (hi:i<l.length) (hj:j=i):Cell C H (elt v j 1) (.int .i64 (l.getD i 0)):=by
 subst hj
 cases s with
 | cons p _=>exact OwE.cell0 encI_ok p hi 0 rfl
theorem c_Reverse (B:Nat) (w:World) (v:Value) (xs:List Int) (hB:B≤w.heap.size) (hn:1≤xs.length) (hl:xs.length≤1000) :
 CtH Tryz.prog 63 [v] w [OwE encI 2 1 v xs] B (fun r Hq=>∃ ys:List Int,(ys.length=xs.length∧∀ k,k<xs.length→ys.getD k 0=xs.getD (xs.length-1-k) 0)∧Hq=[OwE encI 2 1 v ys]):=by
 refine CtH.ofI (X:=List Int) (p:=fun ys r=>ys.length=xs.length∧∀ k,k<xs.length→ys.getD k 0=xs.getD (xs.length-1-k) 0) (Hx:=fun ys=>[OwE encI 2 1 v ys]) mixed tyTab hB Tryz.func63 rfl rfl (fun M hM=>(W.fact (OwE.sl (enc:=encI) (e:=2) (sz:=1) (v:=v) (xs:=xs) Pick.head) (fun hbs=>(W.sreg (WO.p rfl rfl (WO.len rfl rfl hbs rfl (WO.ar rfl rfl rfl (by unfold in64;omega) rfl (WO.p rfl rfl (WO.p rfl rfl (WO.nil (W.block ?_)))))))))))
 refine W.loop3 (fun (i:Nat) (j:Int) (zs:List Int)=>i≤xs.length∧j=(xs.length:Int)-1-i∧RevI xs zs i)
  (fun (i:Nat) (j:Int) (zs:List Int)=>[(2,.int .i64 (i:Int)),(3,.int .i64 j),(0,v)])
  (fun (i:Nat) (j:Int) (zs:List Int)=>[OwE encI 2 1 v zs])
  (fun (i:Nat) (j:Int) (zs:List Int)=>xs.length-i) 0 _ xs
  (by exact ⟨by omega,by omega,rfl,fun k hk=>by rw [if_neg (by omega)]⟩) ⟨rfl,rfl,rfl,trivial⟩ (by repeat (first | exact Sub.nil | refine Sub.cons (by repeat exact .head) ?_)) ?_
 rintro i j zs ⟨hi0,hj,hR⟩
 refine W.seq (W.sreg (WO.p rfl rfl (WO.p rfl rfl (WO.p rfl rfl (WO.nil ?_)))))
 refine W.cond_bl rfl (fun c1=>?_) (fun c1=>?_)
 ·refine W.skip (W.seq (W.block ?_))
  have hzl:=hR.1
  obtain ⟨b,rfl⟩:∃ b:Nat,j=(b:Int):=⟨j.toNat,by omega⟩
  refine W.drawD 14 [.r 0 [],.r 1 [],.r 2 [],.r 3 [],.r 4 [],.r 5 [],.r 6 [],.f 7 [],.r 8 [],.r 9 [],.r 10 [],.f 11 [],.r 12 [],.s 13 []] [] (A0:=[_]) (H0:=[]) (.cons .head .nil) (by kernel_rfl) ?_ ?_
  ·exact (ALok.r (ALok.r (ALok.r (ALok.r (ALok.r (ALok.r (ALok.r (ALok.f (ALok.r (ALok.r (ALok.r (ALok.f (ALok.r (ALok.s ALok.nil))))))))))))))
  refine DT.r rfl rfl rfl (WO.p rfl rfl (WO.nil ⟨rfl,rfl⟩)) (DT.r rfl rfl rfl (WO.p rfl rfl (WO.nil ⟨rfl,rfl⟩)) (DT.r rfl rfl rfl (WO.p rfl rfl (WO.nil ⟨rfl,rfl⟩)) (DT.r rfl rfl rfl (WO.p rfl rfl (WO.nil ⟨rfl,rfl⟩)) (DT.r rfl rfl rfl (WO.p rfl rfl (WO.nil ⟨rfl,rfl⟩)) (DT.r rfl rfl rfl (WO.p rfl rfl (WO.nil ⟨rfl,rfl⟩)) (DT.r rfl rfl rfl (WO.indexAddr rfl rfl rfl hbs (by omega) rfl (WO.nil ⟨rfl,rfl⟩)) ?_))))))
  refine' DT.f [_] rfl rfl rfl rfl ?hq ?_
  case hq =>
   refine' WO.load (v:=_) rfl rfl ?hc rfl ?_
   case hc=>(first | (refine Icell (l:=zs) (i:=b) ?_ (by omega) rfl;exact (by repeat (first | exact Sub.nil | refine Sub.cons (by repeat exact .head) ?_))))
   exact WO.nil ⟨rfl,rfl⟩
  refine DT.r rfl rfl rfl (WO.p rfl rfl (WO.nil ⟨rfl,rfl⟩)) (DT.r rfl rfl rfl (WO.p rfl rfl (WO.nil ⟨rfl,rfl⟩)) (DT.r rfl rfl rfl (WO.indexAddr rfl rfl rfl hbs (by omega) rfl (WO.nil ⟨rfl,rfl⟩)) ?_))
  refine' DT.f [_] rfl rfl rfl rfl ?hq ?_
  case hq =>
   refine' WO.load (v:=_) rfl rfl ?hc rfl ?_
   case hc=>(first | (refine Icell (l:=zs) (i:=i) ?_ (by omega) rfl;exact (by repeat (first | exact Sub.nil | refine Sub.cons (by repeat exact .head) ?_))))
   exact WO.nil ⟨rfl,rfl⟩
  refine DT.r rfl rfl rfl (WO.indexAddr rfl rfl rfl hbs (by omega) rfl (WO.nil ⟨rfl,rfl⟩)) (DT.s [_] rfl rfl rfl (WO.storeE (enc:=encI) encI_ok rfl rfl rfl rfl (by repeat exact .head) (by omega) ?_))
  refine WO.nil ⟨[_],rfl,rfl,(Keep.r (Keep.f (Keep.r (Keep.r (Keep.r (Keep.f (Keep.r (Keep.r (Keep.r (Keep.r (Keep.r (Keep.r (Keep.r Keep.nil))))))))))))),?_⟩
  refine DT.nil [_] rfl (WO.indexAddr rfl rfl rfl hbs (by omega) rfl (WO.storeE (enc:=encI) encI_ok rfl rfl rfl rfl (by repeat exact .head) (by (simp only [List.length_set];omega)) (WO.nil (W.region (WO.p rfl rfl (WO.ar rfl rfl rfl (by unfold in64;omega) rfl (WO.p rfl rfl (WO.ar rfl rfl rfl (by unfold in64;omega) rfl (WO.p rfl rfl (WO.p rfl rfl (WO.nil ?_)))))))))))
  refine' ⟨i+1,_,_,?hp,?hmu,⟨rfl,rfl,rfl,trivial⟩,?hS⟩
  case hS=>repeat (first | exact Sub.nil | refine Sub.cons (by repeat exact .head) ?_)
  case hp=>exact ⟨by omega,by omega,hR.next (by omega) (by omega)⟩
  case hmu=>omega
 ·refine W.exit (blk_same ?_)
  exact fin.normal (Res.none rfl) ⟨zs,⟨hR.1,hR.all (by omega)⟩,fun h hs=>Sub.sat (by repeat (first | exact Sub.nil | refine Sub.cons (by repeat exact .head) ?_)) hs⟩
theorem c_IsSorted (w:World) (v:Value) (l:List Int) (hn:l.length≤1000) (hs:∀ k,k+1<l.length→l.getD k 0≤l.getD (k+1) 0) (hR:RdF encI 1 w.heap.size w v l):Ret Tryz.prog 64 [v].toArray w (.bool true):=by
 refine Ret.of mixed tyTab Tryz.func64 rfl rfl ?_
 replace hR:RdF encI 1 (fnCx mixed tyTab Tryz.f64.ntmps w).B (fnCx mixed tyTab Tryz.f64.ntmps w).w0 v l:=hR
 refine W.sreg (WO.p rfl rfl (WO.nil (W.seq (W.sreg (WO.p rfl rfl (WO.len rfl rfl hR.sl rfl (WO.ar rfl rfl rfl (by unfold in64;omega) rfl (WO.p rfl rfl (WO.nil (W.block ?_))))))))))
 refine W.loop (fun (j:Int)=>j≤(l.length:Int)-1 ∧ -1≤j)
  (fun (j:Int)=>[(3,.int .i64 j),(0,v)])
  (fun (j:Int)=>[])
  (fun (j:Int)=>(j+1).toNat) _
  (by omega) ⟨rfl,rfl,trivial⟩ (by repeat (first | exact Sub.nil | refine Sub.cons (by repeat first | exact .head | apply Pick.tail) ?_)) ?_
 rintro j ⟨hj0,hj1⟩
 refine W.seq (W.sreg (WO.p rfl rfl (WO.p rfl rfl (WO.nil ?_))))
 refine W.cond_bl rfl (fun c1=>?_) (fun c1=>?_)
 ·refine W.skip (W.seq (W.block (W.seq ?_)))
  obtain ⟨b,rfl⟩:∃ b:Nat,j=(b:Int):=⟨j.toNat,by omega⟩
  have hsb:=hs (b-1) (by omega)
  rw [show b-1+1=b by omega,show b-1=((b:Int)-1).toNat by omega] at hsb
  refine W.drawD 9 [.r 0 [],.r 1 [],.r 2 [],.b 3 [],.r 4 [],.r 5 [],.r 6 [],.r 7 [],.b 8 []] [] (A0:=[]) (Sub.refl _) (by kernel_rfl) ?_ ?_
  ·repeat constructor
  refine DT.r rfl rfl rfl (WO.p rfl rfl (WO.nil ⟨rfl,rfl⟩)) (DT.r rfl rfl rfl (WO.p rfl rfl (WO.nil ⟨rfl,rfl⟩)) (DT.r rfl rfl rfl (WO.indexAddr rfl rfl rfl hR.sl (by omega) rfl (WO.nil ⟨rfl,rfl⟩)) ?_))
  refine' DT.b rfl rfl rfl ?hq ?_
  case hq =>
   refine' WO.load (v:=_) rfl rfl ?hc rfl ?_
   case hc=>(first | (refine hR.cell0 (i:=b) ?_ 0 ?_ <;> first | rfl | omega))
   exact WO.nil ⟨rfl,rfl⟩
  refine DT.r rfl rfl rfl (WO.p rfl rfl (WO.nil ⟨rfl,rfl⟩)) (DT.r rfl rfl rfl (WO.p rfl rfl (WO.nil ⟨rfl,rfl⟩)) (DT.r rfl rfl rfl (WO.ar rfl rfl rfl (by unfold in64;omega) rfl (WO.nil ⟨rfl,rfl⟩)) ?_))
  refine' DT.r rfl rfl rfl ?hq ?_
  case hq =>
   refine' WO.indexAddrZ (n:=_) rfl rfl rfl ?hs ?h00 ?h1 rfl ?_
   case hs=>exact hR.sl
   case h00=>omega
   case h1=>(omega)
   exact WO.nil ⟨rfl,rfl⟩
  refine' DT.b rfl rfl rfl ?hq ?_
  case hq =>
   refine' WO.load (v:=_) rfl rfl ?hc rfl ?_
   case hc=>(first | (refine hR.cell0 (i:=((b:Int)-1).toNat) ?_ 0 ?_ <;> first | rfl | omega))
   exact WO.nil ⟨rfl,rfl⟩
  refine DT.nil [] rfl (WO.callR (r:=.bool false) rfl Tryz.call122 (fun L w hi=>by have h:=c_Less64 w (l.getD b 0) (l.getD ((b:Int)-1).toNat 0);rw [bl_f.2 (by omega)] at h;exact h) rfl (WO.nil (W.cond_f rfl (W.skip (W.region (WO.p rfl rfl (WO.ar rfl rfl rfl (by unfold in64;omega) rfl (WO.p rfl rfl (WO.nil ?_)))))))))
  refine' ⟨(b:Int)-1,?hp,?hmu,⟨rfl,rfl,trivial⟩,?hS⟩
  case hS=>repeat (first | exact Sub.nil | refine Sub.cons (by repeat first | exact .head | apply Pick.tail) ?_)
  case hp=>omega
  case hmu=>omega
 ·refine W.exit (blk_same (W.sreg (WO.p rfl rfl (WO.nil (W.ret ?_)))))
  exact fin.ret (Res.one rfl (RV.tmp rfl)) rfl
theorem c_rises (w:World) (v:Value) (l:List Int) (hn:1≤l.length∧l.length≤1000) (hs:∀ k,k+1<l.length→l.getD (k+1) 0≤l.getD k 0) (hR:RdF encI 1 w.heap.size w v l):Ret Tryz.prog 62 [v].toArray w (.bool false):=by
 refine Ret.of mixed tyTab Tryz.func62 rfl rfl ?_
 replace hR:RdF encI 1 (fnCx mixed tyTab Tryz.f62.ntmps w).B (fnCx mixed tyTab Tryz.f62.ntmps w).w0 v l:=hR
 refine W.sreg (WO.p rfl rfl (WO.nil (W.sreg (WO.p rfl rfl (WO.len rfl rfl hR.sl rfl (WO.makeI rfl rfl rfl rfl (by omega) (by omega) rfl (fun lb=>(WO.p rfl rfl (WO.nil (W.sreg (WO.p rfl rfl (WO.p rfl rfl (WO.copyE (xs:=List.replicate l.length (0:Int)) (ys:=l) encI_ok rfl rfl rfl (by repeat exact .head) (by simp;exact hR.sl) (by simp;omega) (by simp) (hR.flat encI_ok) rfl (WO.nil (W.sreg (WO.p rfl rfl (WO.callH1 (A:=OwE encI 2 1 (.slice (some ⟨lb,0,none⟩) l.length l.length) l) rfl Tryz.call63 (by repeat exact .head) (fun L w' hi hB2=>c_Reverse _ w' _ l hB2 (by omega) (by omega)) rfl ?_)))))))))))))))))
 rintro _ _ ⟨ys,⟨hy1,hy2⟩,rfl⟩
 refine WO.nil (W.sreg (WO.p rfl rfl (WO.callR rfl Tryz.call64 (fun L w hi=>c_IsSorted w _ ys (by omega) (fun k hk=>by rw [hy2 k (by omega),hy2 (k+1) (by omega)];have:=hs (l.length-1-(k+1)) (by omega);rw [show l.length-1-(k+1)+1=l.length-1-k by omega] at this;exact this) (RdF.of_ow (e:=2) encI_ok (by repeat exact .head) hi)) rfl (WO.p rfl rfl (WO.p rfl rfl (WO.nil (W.ret ?_)))))))
 exact fin.ret (Res.one rfl (RV.tmp rfl)) rfl
theorem c_IndexT (w:World) (u:Value) (tv:List Value) (T:List (List Int)) (hr:∀ i,i<T.length→1≤(T.getD i []).length∧(T.getD i []).length≤1000) (hs:∀ i,i<T.length→∀ k,k+1<(T.getD i []).length→(T.getD i []).getD (k+1) 0≤(T.getD i []).getD k 0) (hT:RdR encI 1 w.heap.size w u tv T):Ret Tryz.prog 123 [u,.func (.func 62) #[] #[]].toArray w (.int .i64 (-1)):=by
 refine Ret.of mixed tyTab Tryz.func123 rfl rfl ?_
 replace hT:RdR encI 1 (fnCx mixed tyTab Tryz.f123.ntmps w).B (fnCx mixed tyTab Tryz.f123.ntmps w).w0 u tv T:=hT
 have hle:=hT.sl.le
 refine W.sreg (WO.p rfl rfl (WO.nil (W.seq (W.sreg (WO.p rfl rfl (WO.len rfl rfl hT.sl rfl (WO.p rfl rfl (WO.nil (W.block ?_)))))))))
 refine W.loop (fun (i:Nat)=>i≤T.length)
  (fun (i:Nat)=>[(8,.int .i64 (i:Int)),(7,.int .i64 (T.length:Int)),(0,u),(1,.func (.func 62) #[] #[])])
  (fun (i:Nat)=>[])
  (fun (i:Nat)=>T.length-i) 0
  (by omega) ⟨rfl,rfl,rfl,rfl,trivial⟩ (by repeat (first | exact Sub.nil | refine Sub.cons (by repeat first | exact .head | apply Pick.tail) ?_)) ?_
 rintro i hi0
 refine W.sreg (WO.p rfl rfl (WO.nil (W.seq ?_)))
 refine W.cond_bl rfl (fun c1=>?_) (fun c1=>?_)
 ·refine W.skip (W.seq (W.block (W.sreg (WO.p rfl rfl (WO.p rfl rfl (WO.nil (W.sreg (WO.p rfl rfl (WO.p rfl rfl (WO.p rfl rfl (WO.indexAddr rfl rfl rfl hT.sl (by omega) rfl ?_)))))))))))
  refine' WO.load (v:=_) rfl rfl ?hc rfl ?_
  case hc=>((refine hT.cellV ?_;omega))
  refine WO.callCR (r:=.bool false) (first:=[]) (captured:=[]) rfl rfl Tryz.call62 (fun L w hi'=>c_rises w _ (T.getD i []) (hr i (by omega)) (hs i (by omega)) ((hT.later hi').row i (by omega))) rfl (WO.nil (W.cond_f rfl (W.skip (W.region (WO.ar rfl rfl rfl (by unfold in64;omega) rfl (WO.p rfl rfl (WO.nil ?_)))))))
  refine' ⟨i+1,?hp,?hmu,⟨rfl,rfl,rfl,rfl,trivial⟩,?hS⟩
  case hS=>repeat (first | exact Sub.nil | refine Sub.cons (by repeat first | exact .head | apply Pick.tail) ?_)
  case hp=>omega
  case hmu=>omega
 ·refine W.exit (blk_same (W.sreg (WO.p rfl rfl (WO.nil (W.ret ?_)))))
  exact fin.ret (Res.one rfl (RV.tmp rfl)) rfl
theorem c_ContT (w:World) (u:Value) (tv:List Value) (T:List (List Int)) (hr:∀ i,i<T.length→1≤(T.getD i []).length∧(T.getD i []).length≤1000) (hs:∀ i,i<T.length→∀ k,k+1<(T.getD i []).length→(T.getD i []).getD (k+1) 0≤(T.getD i []).getD k 0) (hT:RdR encI 1 w.heap.size w u tv T):Ret Tryz.prog 65 [u,.func (.func 62) #[] #[]].toArray w (.bool false):=by
 refine Ret.of mixed tyTab Tryz.func65 rfl rfl ?_
 replace hT:RdR encI 1 (fnCx mixed tyTab Tryz.f65.ntmps w).B (fnCx mixed tyTab Tryz.f65.ntmps w).w0 u tv T:=hT
 refine W.sreg (WO.p rfl rfl (WO.nil (W.sreg (WO.p rfl rfl (WO.p rfl rfl (WO.callR rfl Tryz.call123 (fun L w hi=>c_IndexT w u tv T hr hs (hT.later hi)) rfl (WO.p rfl rfl (WO.p rfl rfl (WO.nil (W.ret ?_))))))))))
 exact fin.ret (Res.one rfl (RV.tmp rfl)) (congrArg Value.bool (bl_f.2 (by omega)))
structure FlT (P A:List Int) (R:Ch.Rws) (T:List (List Int)):Prop where
 tr:Ch.OkTr R T
 fl:∀ i,i<P.length→∀ k,k+1<A.length→Ch.tAt T i (k+1)≤Ch.tAt T i k
theorem FlT.row {P A:List Int} {R:Ch.Rws} {T:List (List Int)} (h:FlT P A R T) (hc:Ch.OkC P A R) {i:Nat} (hi:i<T.length):(T.getD i []).length=A.length:=by
 have h1:=h.tr.n
 rw [h.tr.m i (by omega),hc.row (by omega)]
theorem c_Meet (w:World) (vp va o u:Value) (rv tv:List Value) (P A:List Int) (R:Ch.Rws) (T:List (List Int)) (x base slope:Int) (hc:Ch.OkC P A R) (ht:FlT P A R T) (hx:Ch.On P x) (hn:OkN base slope) (hP:RdF encI 1 w.heap.size w vp P) (hA:RdF encI 1 w.heap.size w va A) (hR:RdR encP 2 w.heap.size w o rv R) (hT:RdR encI 1 w.heap.size w u tv T):RetE Tryz.prog 21 [.agg #[vp,va,o],u,.int .i64 x,.agg #[.int .i64 base,.int .i64 slope]].toArray w (fun r=>∃ (b:Bool) (z:Int × Int),r=.tuple #[Ch.raV z,.int .i64 (if b then 0 else 5)]∧MeR A (abv P A (Ch.tAt T) x base slope) A.length b z):=by
 refine RetE.of mixed tyTab Tryz.func21 rfl rfl ?_
 replace hR:RdR encP 2 (fnCx mixed tyTab Tryz.f21.ntmps w).B (fnCx mixed tyTab Tryz.f21.ntmps w).w0 o rv R:=hR
 replace hT:RdR encI 1 (fnCx mixed tyTab Tryz.f21.ntmps w).B (fnCx mixed tyTab Tryz.f21.ntmps w).w0 u tv T:=hT
 replace hP:RdF encI 1 (fnCx mixed tyTab Tryz.f21.ntmps w).B (fnCx mixed tyTab Tryz.f21.ntmps w).w0 vp P:=hP
 replace hA:RdF encI 1 (fnCx mixed tyTab Tryz.f21.ntmps w).B (fnCx mixed tyTab Tryz.f21.ntmps w).w0 va A:=hA
 have hop:=hP.sl.oc
 have hoa:=hA.sl.oc
 have hoo:=hR.sl.oc
 have hnp:=hc.np
 have hna:=hc.na
 have hnr:=hc.nr
 have hnt:=ht.tr.n
 refine W.sreg (WO.boxA rfl rfl (fun b1 hb1=>(WO.boxA rfl rfl (fun b2 hb2=>(WO.alloc rfl rfl rfl (fun b3 hb3=>(WO.p rfl rfl (WO.nil (W.seq (W.sreg (WO.loadA rfl rfl (Cells.own (Pick.tail (Pick.tail (Pick.head)))) rfl rfl (WO.p rfl rfl (WO.callR rfl Tryz.call26 (fun L w hi=>Ch.c_CheckTrue w vp va o u rv tv P A R T hc ht.tr (hP.later hi) (hA.later hi) (hR.later hi) (hT.later hi)) rfl (WO.p rfl rfl (WO.nil (W.sreg (WO.p rfl rfl (WO.p rfl rfl (WO.nil ?_)))))))))))))))))))
 refine W.cond_bl rfl (fun c1=>?_) (fun c1=>?_)
 ·exfalso;omega
 ·refine W.skip (W.sreg (WO.loadA rfl rfl (Cells.own (Pick.tail (Pick.tail (Pick.head)))) rfl rfl (WO.build rfl rfl rfl rfl rfl (WO.alloc rfl rfl rfl (fun b4 hb4=>(WO.storeA rfl rfl rfl rfl Pick.head rfl (Ch.oc3 hop hoa hoo) (WO.nil (W.seq (W.sreg (WO.loadA rfl rfl (Cells.own Pick.head) rfl rfl (WO.p rfl rfl (WO.loadA rfl rfl (Cells.own (Pick.tail (Pick.tail (Pick.head)))) rfl rfl (WO.callR rfl Tryz.call59 (fun L w hi=>c_checkNeed w vp va o P A R x base slope hc hx hn hoo (hP.later hi) (hA.later hi)) rfl (WO.p rfl rfl (WO.nil (W.sreg (WO.p rfl rfl (WO.p rfl rfl (WO.nil ?_)))))))))))))))))))
  refine W.cond_bl rfl (fun c2=>?_) (fun c2=>?_)
  ·exfalso;omega
  ·refine W.skip (W.sreg (WO.p rfl rfl (WO.nil (W.seq (W.sreg (WO.p rfl rfl (WO.p rfl rfl (WO.callR rfl Tryz.call65 (fun L w hi=>c_ContT w u tv T (fun i h1=>by rw [ht.row hc h1];omega) (fun i h1 k h2=>ht.fl i (by omega) k (by rw [ht.row hc h1] at h2;exact h2)) (hT.later hi)) rfl (WO.nil (W.cond_f rfl (W.skip (W.sreg (WO.loadA rfl rfl (Cells.own Pick.head) rfl rfl (WO.p rfl rfl (WO.p rfl rfl (WO.loadA rfl rfl (Cells.own (Pick.tail (Pick.tail (Pick.head)))) rfl rfl ?_))))))))))))))))
   refine WO.callE rfl Tryz.call60 (fun L w hi=>c_meet w vp va o u tv P A R T x base slope hc hx hn hoo (by omega) (fun i h1=>ht.row hc h1) (fun i k h1 h2=>Ch.OkTr.bd hc ht.tr h1 h2) (hP.later hi) (hA.later hi) (hT.later hi)) rfl ?_
   rintro _ ⟨bv,⟨z1,z2⟩,rfl,hz⟩
   refine WO.p rfl rfl (WO.p rfl rfl (WO.p rfl rfl (WO.alloc rfl rfl rfl (fun b5 hb5=>(WO.storeA rfl rfl rfl rfl Pick.head rfl rfl (WO.p rfl rfl (WO.nil (W.seq (W.sreg (WO.p rfl rfl (WO.p rfl rfl (WO.nil ?_))))))))))))
   refine W.cond rfl (fun c3=>?_) (fun c3=>?_)
   ·refine W.sreg (WO.build rfl rfl rfl rfl rfl (WO.storeA rfl rfl rfl rfl (Pick.tail (Pick.tail (Pick.head))) rfl rfl (WO.p rfl rfl (WO.nil (W.ret (fin.ret (Res.two rfl (RV.cell rfl rfl rfl (Cells.own (by repeat exact .head))) (RV.tmp rfl)) ?_))))))
    (obtain rfl:bv=false:=(by cases bv <;> simp_all);exact ⟨false,(0,0),rfl,by cases hz with | high h=>exact .high h | low h g=>exact .low h g⟩)
   ·refine W.skip (W.sreg (WO.loadA rfl rfl (Cells.own Pick.head) rfl rfl (WO.storeA rfl rfl rfl rfl (Pick.tail (Pick.tail (Pick.head))) rfl rfl (WO.p rfl rfl (WO.nil (W.ret (fin.ret (Res.two rfl (RV.cell rfl rfl rfl (Cells.own (by repeat exact .head))) (RV.tmp rfl)) ?_)))))))
    (obtain rfl:bv=true:=(by cases bv <;> simp_all);exact ⟨true,(_,_),rfl,hz⟩)
end Go.Proofs.YtfchgmiiicidcaaGreat
namespace Go.Proofs.YtfchgmiiicidcaaGreat
open Go Go.TH
attribute [local irreducible] W WO pt
set_option maxRecDepth 10000
set_option maxHeartbeats 2000000
def encU4 (n:Int):List Value:=[.int .u32 n]
def RowI (R:Ch.Rws) (i:Nat) (row:List Int) (k:Nat):Prop:=row.length=k∧∀ j,j<k→((R.getD i []).getD j (0,0)).1≤row.getD j 0∧row.getD j 0≤((R.getD i []).getD j (0,0)).2
theorem app_get {α:Type} {l:List α} {x d:α} {j:Nat} (h:j<l.length+1):(l++[x]).getD j d=if j<l.length then l.getD j d else x:=by
 by_cases g:j<l.length
 ·rw [if_pos g,List.getD_eq_getElem?_getD,List.getElem?_append_left g,← List.getD_eq_getElem?_getD]
 ·rw [if_neg g,List.getD_eq_getElem?_getD,List.getElem?_append_right (by omega),show j-l.length=0 by omega];rfl
theorem RowI.next {R:Ch.Rws} {i k:Nat} {row:List Int} {x:Int} (h:RowI R i row k) (h1:((R.getD i []).getD k (0,0)).1≤x∧x≤((R.getD i []).getD k (0,0)).2):RowI R i (row++[x]) (k+1):=by
 obtain ⟨rfl,g⟩:=h
 refine ⟨by simp,fun j hj=>?_⟩
 rw [app_get hj]
 by_cases q:j<row.length
 ·rw [if_pos q];exact g j q
 ·obtain rfl:j=row.length:=by omega
  rw [if_neg q];exact h1
def TabI (R:Ch.Rws) (T:List (List Int)) (n:Nat):Prop:=T.length=n∧∀ i,i<n→RowI R i (T.getD i []) (R.getD i []).length
theorem TabI.next {R:Ch.Rws} {T:List (List Int)} {n:Nat} {row:List Int} (h:TabI R T n) (h1:RowI R n row (R.getD n []).length):TabI R (T++[row]) (n+1):=by
 obtain ⟨rfl,g⟩:=h
 refine ⟨by simp,fun j hj=>?_⟩
 rw [app_get hj]
 by_cases q:j<T.length
 ·rw [if_pos q];exact g j q
 ·obtain rfl:j=T.length:=by omega
  rw [if_neg q];exact h1
theorem TabI.tr {R:Ch.Rws} {T:List (List Int)} (h:TabI R T R.length):Ch.OkTr R T:=⟨h.1,fun i hi=>(h.2 i hi).1,fun i hi k hk=>(h.2 i hi).2 k hk⟩
abbrev TZ:=Value × List Value × List (List Int)
def tzP (n:Nat) (Z:TZ):List HP:=[OwC 22 1 Z.1 n Z.2.1,RowsE encI 2 1 Z.2.1 Z.2.2]
theorem c_True (w:World) (vp va o u:Value) (rv:List Value) (P A:List Int) (R:Ch.Rws) (bs:List Int) (hc:Ch.OkC P A R) (hbl:bs.length≤100) (hbs:∀ x∈bs,0≤x∧x≤4294967295) (hP:RdF encI 1 w.heap.size w vp P) (hA:RdF encI 1 w.heap.size w va A) (hR:RdR encP 2 w.heap.size w o rv R) (hB:RdF encU4 1 w.heap.size w u bs):Ct Tryz.prog 66 [.agg #[vp,va,o],u].toArray w fun r w'=>∃ Hq,(∃ Z:TZ,(r=Z.1∧Ch.OkTr R Z.2.2)∧Hq=tzP R.length Z)∧Inv w [] Hq w':=by
 refine Ct.ofI (X:=TZ) (p:=fun Z r=>r=Z.1∧Ch.OkTr R Z.2.2) (Hx:=tzP R.length) mixed tyTab Tryz.func66 rfl rfl ?_
 replace hR:RdR encP 2 (fnCx mixed tyTab Tryz.f66.ntmps w).B (fnCx mixed tyTab Tryz.f66.ntmps w).w0 o rv R:=hR
 replace hB:RdF encU4 1 (fnCx mixed tyTab Tryz.f66.ntmps w).B (fnCx mixed tyTab Tryz.f66.ntmps w).w0 u bs:=hB
 replace hP:RdF encI 1 (fnCx mixed tyTab Tryz.f66.ntmps w).B (fnCx mixed tyTab Tryz.f66.ntmps w).w0 vp P:=hP
 replace hA:RdF encI 1 (fnCx mixed tyTab Tryz.f66.ntmps w).B (fnCx mixed tyTab Tryz.f66.ntmps w).w0 va A:=hA
 have hop:=hP.sl.oc
 have hoa:=hA.sl.oc
 have hoo:=hR.sl.oc
 have hnp:=hc.np
 have hna:=hc.na
 have hnr:=hc.nr
 refine W.sreg (WO.boxA rfl rfl (fun b1 hb1=>(WO.p rfl rfl (WO.nil (W.sreg (WO.p rfl rfl (WO.nil (W.sreg (WO.p rfl rfl (WO.nil (W.seq (W.sreg (WO.p rfl rfl (WO.nil (W.block (W.chg (owcNil (e:=22) (sz:=1)) (W.chg (rowsNil (enc:=encI) (e:=2) (sz:=1)) ?_)))))))))))))))))
 refine W.loop5 (fun (i:Nat) (a:Nat) (tv:Value) (rvT:List Value) (T:List (List Int))=>i≤R.length∧a≤10*i∧TabI R T i)
  (fun (i:Nat) (a:Nat) (tv:Value) (rvT:List Value) (T:List (List Int))=>[(7,.int .i64 (i:Int)),(6,.int .i64 (a:Int)),(5,tv),(2,.pointer (some ⟨b1,0,none⟩)),(1,u)])
  (fun (i:Nat) (a:Nat) (tv:Value) (rvT:List Value) (T:List (List Int))=>[pt b1 (.cells #[vp,va,o] 25 (0,0)),OwC 22 1 tv i rvT,RowsE encI 2 1 rvT T])
  (fun (i:Nat) (a:Nat) (tv:Value) (rvT:List Value) (T:List (List Int))=>R.length-i) 0 0 (.slice none 0 0) [] []
  (by exact ⟨by omega,by omega,rfl,fun j hj=>by omega⟩) ⟨rfl,rfl,rfl,rfl,rfl,trivial⟩ (by repeat (first | exact Sub.nil | refine Sub.cons (by repeat first | exact .head | apply Pick.tail) ?_)) ?_
 rintro i a tv rvT T ⟨hi0,ha0,hT⟩
 refine W.seq (W.sreg (WO.p rfl rfl (WO.fieldL rfl rfl rfl (WO.load rfl rfl (Cell.own Pick.head rfl) rfl (WO.len rfl rfl hR.sl rfl (WO.p rfl rfl (WO.nil ?_)))))))
 refine W.cond_bl rfl (fun c1=>?_) (fun c1=>?_)
 ·refine W.skip (W.seq (W.block (W.sreg (WO.p rfl rfl (WO.nil (W.seq ?_))))))
  have hrw:=hc.row (show i<R.length by omega)
  refine W.sreg (WO.p rfl rfl (WO.nil (W.block (W.chg (owNil (enc:=encI) (e:=2) (sz:=1)) ?_))))
  refine W.loop4 (fun (k:Nat) (a:Nat) (ru:Value) (row:List Int)=>k≤(R.getD i []).length∧a≤10*i+k∧RowI R i row k)
   (fun (k:Nat) (a:Nat) (ru:Value) (row:List Int)=>[(9,.int .i64 (k:Int)),(8,ru),(7,.int .i64 (i:Int)),(6,.int .i64 (a:Int)),(5,tv),(2,.pointer (some ⟨b1,0,none⟩)),(1,u)])
   (fun (k:Nat) (a:Nat) (ru:Value) (row:List Int)=>[pt b1 (.cells #[vp,va,o] 25 (0,0)),OwC 22 1 tv i rvT,RowsE encI 2 1 rvT T,OwE encI 2 1 ru row])
   (fun (k:Nat) (a:Nat) (ru:Value) (row:List Int)=>(R.getD i []).length-k) 0 a (.slice none 0 0) []
   (by exact ⟨by omega,by omega,rfl,fun j hj=>by omega⟩) ⟨rfl,rfl,rfl,rfl,rfl,rfl,rfl,trivial⟩ (by repeat (first | exact Sub.nil | refine Sub.cons (by repeat first | exact .head | apply Pick.tail) ?_)) ?_
  rintro k a ru row ⟨hk0,hka,hrow⟩
  refine W.seq (W.sreg (WO.p rfl rfl (WO.fieldL rfl rfl rfl (WO.load rfl rfl (Cell.own Pick.head rfl) rfl (WO.p rfl rfl (WO.indexAddr rfl rfl rfl hR.sl (by omega) rfl ?_))))))
  refine' WO.load (v:=_) rfl rfl ?hc rfl ?_
  case hc=>((refine hR.cellV ?_;omega))
  refine' WO.len (n:=_) rfl rfl ?hs rfl ?_
  case hs=>((refine (hR.row i ?_).sl;omega))
  refine WO.p rfl rfl (WO.nil ?_)
  refine W.cond_bl rfl (fun c2=>?_) (fun c2=>?_)
  ·refine W.skip (W.seq (W.block ?_))
   have hat:=hc.at_ (show i<R.length by omega) (show k<(R.getD i []).length by omega)
   have hrw:=hc.row (show i<R.length by omega)
   refine W.sreg (WO.fieldL rfl rfl rfl (WO.load rfl rfl (Cell.own Pick.head rfl) rfl (WO.p rfl rfl (WO.indexAddr rfl rfl rfl hR.sl (by omega) rfl ?_))))
   refine' WO.load (v:=_) rfl rfl ?hc rfl ?_
   case hc=>((refine hR.cellV ?_;omega))
   refine WO.p rfl rfl ?_
   refine' WO.indexAddr (n:=_) (i:=_) rfl rfl rfl ?hs ?h1 rfl ?_
   case hs=>((refine (hR.row i ?_).sl;omega))
   case h1=>(omega)
   refine WO.loadA rfl rfl ((RdF.cells (hR.row i (by omega)) (i:=k) (by omega) (0,0):Cells _ _ (elt (rv.getD i undef) k 2) [.int .i64 ((R.getD i []).getD k (0,0)).1,.int .i64 ((R.getD i []).getD k (0,0)).2])) rfl rfl (WO.alloc rfl rfl rfl (fun b2 hb2=>(WO.storeA rfl rfl rfl rfl Pick.head rfl rfl (WO.nil (W.sreg (WO.field0 rfl rfl rfl (WO.load rfl rfl (Cell.own Pick.head rfl) rfl (WO.p rfl rfl (WO.nil (W.seq (W.sreg (WO.p rfl rfl (WO.len rfl rfl hB.sl rfl (WO.p rfl rfl (WO.nil ?_)))))))))))))))
   refine W.cond_bl rfl (fun c3=>?_) (fun c3=>?_)
   ·have hm:=Ch.tmod_lt (a:=(a:Int)) (b:=(bs.length:Int)) (by omega) (by omega)
    have hbv:=hbs _ (getD_mem (show ((a:Int).tmod (bs.length:Int)).toNat<bs.length by omega) 0)
    have hm2:=Ch.tmod_lt (a:=bs.getD ((a:Int).tmod (bs.length:Int)).toNat 0) (b:=((R.getD i []).getD k (0,0)).2-((R.getD i []).getD k (0,0)).1+1) hbv.1 (by omega)
    refine W.drawD 16 [.r 0 [],.r 1 [],.r 2 [],.r 3 [],.r 4 [],.r 5 [],.r 6 [],.b 7 [],.r 8 [],.r 9 [],.b 10 [],.r 11 [],.b 12 [],.r 13 [],.r 14 [],.r 15 []] [] (A0:=[]) (Sub.refl _) (by kernel_rfl) ?_ ?_
    ·repeat constructor
    refine DT.r rfl rfl rfl (WO.p rfl rfl (WO.nil ⟨rfl,rfl⟩)) (DT.r rfl rfl rfl (WO.p rfl rfl (WO.nil ⟨rfl,rfl⟩)) (DT.r rfl rfl rfl (WO.p rfl rfl (WO.nil ⟨rfl,rfl⟩)) (DT.r rfl rfl rfl (WO.p rfl rfl (WO.nil ⟨rfl,rfl⟩)) (DT.r rfl rfl rfl (WO.len rfl rfl hB.sl rfl (WO.nil ⟨rfl,rfl⟩)) (DT.r rfl rfl rfl (WO.rem rfl rfl (by omega) rfl (WO.nil ⟨rfl,rfl⟩)) ?_)))))
    refine' DT.r rfl rfl rfl ?hq ?_
    case hq =>
     refine' WO.indexAddrZ (n:=_) rfl rfl rfl ?hs ?h00 ?h1 rfl ?_
     case hs=>exact hB.sl
     case h00=>omega
     case h1=>(omega)
     exact WO.nil ⟨rfl,rfl⟩
    refine' DT.b rfl rfl rfl ?hq ?_
    case hq =>
     refine' WO.load (v:=_) rfl rfl ?hc rfl ?_
     case hc=>(first | (refine hB.cell0 (i:=((a:Int).tmod (bs.length:Int)).toNat) ?_ 0 ?_ <;> first | rfl | omega))
     exact WO.nil ⟨rfl,rfl⟩
    refine DT.r rfl rfl rfl (WO.conv64 rfl rfl rfl (by unfold in64;omega) rfl (WO.nil ⟨rfl,rfl⟩)) (DT.r rfl rfl rfl (WO.fieldL rfl rfl rfl (WO.nil ⟨rfl,rfl⟩)) (DT.b rfl rfl rfl (WO.load rfl rfl (Cell.own Pick.head rfl) rfl (WO.nil ⟨rfl,rfl⟩)) (DT.r rfl rfl rfl (WO.field0 rfl rfl rfl (WO.nil ⟨rfl,rfl⟩)) (DT.b rfl rfl rfl (WO.load rfl rfl (Cell.own Pick.head rfl) rfl (WO.nil ⟨rfl,rfl⟩)) (DT.r rfl rfl rfl (WO.ar rfl rfl rfl (by unfold in64;omega) rfl (WO.nil ⟨rfl,rfl⟩)) (DT.r rfl rfl rfl (WO.ar rfl rfl rfl (by unfold in64;omega) rfl (WO.nil ⟨rfl,rfl⟩)) (DT.r rfl rfl rfl (WO.rem rfl rfl (by omega) rfl (WO.nil ⟨rfl,rfl⟩)) ?_)))))))
    refine DT.nil [_,_,_,_,_] rfl (WO.ar rfl rfl rfl (by unfold in64;omega) rfl (WO.p rfl rfl (WO.nil ?_)))
    have hrl:=hrow.1
    have hrw:=hc.row (show i<R.length by omega)
    refine W.sreg (WO.p rfl rfl (WO.p rfl rfl (WO.buildSl rfl rfl rfl rfl rfl rfl rfl rfl rfl (fun v3=>?_))))
    refine' WO.appendE (enc:=encI) (m:=1) (xs:=row) (ys:=[_]) encI_ok rfl rfl rfl rfl rfl (by repeat first | exact .head | apply Pick.tail) (isSl_lit (by omega) (fun _=>⟨_,_,rfl⟩)) (by omega) rfl (OwC.cells .head) (by omega) (by omega) rfl (fun g c=>?_)
    refine WO.p rfl rfl (WO.nil (W.region (WO.p rfl rfl (WO.ar rfl rfl rfl (by unfold in64;omega) rfl (WO.p rfl rfl (WO.nil (W.region (WO.p rfl rfl (WO.ar rfl rfl rfl (by unfold in64;omega) rfl (WO.p rfl rfl (WO.nil ?_)))))))))))
    refine' ⟨k+1,a+1,_,_,?hp,?hmu,⟨rfl,rfl,rfl,rfl,rfl,rfl,rfl,trivial⟩,?hS⟩
    case hS=>repeat (first | exact Sub.nil | refine Sub.cons (by repeat first | exact .head | apply Pick.tail) ?_)
    case hp=>exact ⟨by omega,by omega,hrow.next (by omega)⟩
    case hmu=>omega
   ·refine W.skip ?_
    have hrl:=hrow.1
    have hrw:=hc.row (show i<R.length by omega)
    refine W.sreg (WO.p rfl rfl (WO.p rfl rfl (WO.buildSl rfl rfl rfl rfl rfl rfl rfl rfl rfl (fun v4=>?_))))
    refine' WO.appendE (enc:=encI) (m:=1) (xs:=row) (ys:=[_]) encI_ok rfl rfl rfl rfl rfl (by repeat first | exact .head | apply Pick.tail) (isSl_lit (by omega) (fun _=>⟨_,_,rfl⟩)) (by omega) rfl (OwC.cells .head) (by omega) (by omega) rfl (fun g c=>?_)
    refine WO.p rfl rfl (WO.nil (W.region (WO.p rfl rfl (WO.ar rfl rfl rfl (by unfold in64;omega) rfl (WO.p rfl rfl (WO.nil (W.region (WO.p rfl rfl (WO.ar rfl rfl rfl (by unfold in64;omega) rfl (WO.p rfl rfl (WO.nil ?_)))))))))))
    refine' ⟨k+1,a+1,_,_,?hp,?hmu,⟨rfl,rfl,rfl,rfl,rfl,rfl,rfl,trivial⟩,?hS⟩
    case hS=>repeat (first | exact Sub.nil | refine Sub.cons (by repeat first | exact .head | apply Pick.tail) ?_)
    case hp=>exact ⟨by omega,by omega,hrow.next (by omega)⟩
    case hmu=>omega
  ·refine W.exit (blk_same ?_)
   obtain rfl:k=(R.getD i []).length:=by omega
   refine W.fact (OwE.form (enc:=encI) (e:=2) (sz:=1) (v:=ru) (xs:=row) (by repeat first | exact .head | apply Pick.tail)) ?_
   rintro ⟨ta,tc,rfl⟩
   refine W.region (WO.p rfl rfl (WO.p rfl rfl (WO.buildSl rfl rfl rfl rfl rfl rfl rfl rfl rfl (fun v5=>?_))))
   refine' WO.append (m:=1) (news:=[.slice ta row.length tc]) rfl rfl rfl rfl rfl (by repeat first | exact .head | apply Pick.tail) (isSl_lit (by omega) (fun _=>⟨_,_,rfl⟩)) (by omega) (OwC.cells (by repeat exact .head)) rfl (by simp [Value.oneCell']) (by omega) (by omega) rfl (fun g' c'=>?_)
   refine WO.chg (H':=OwC 22 1 (.slice (some ⟨g',0,none⟩) (i+1) c') (i+1) (rvT++[.slice ta row.length tc])::RowsE encI 2 1 rvT T::OwE encI 2 1 (.slice ta row.length tc) row::pt b1 (.cells #[vp,va,o] 25 (0,0))::[]) (fun h hs=>Sub.sat (by repeat (first | exact Sub.nil | refine Sub.cons (by repeat first | exact .head | apply Pick.tail) ?_)) hs) ?_
   refine WO.chg (rowsSnoc (enc:=encI) (e:=2) (sz:=1) (rv:=rvT) (xss:=T) (xs:=row) (r:=.slice ta row.length tc) (.tail .head) (.tail .head)) (WO.p rfl rfl (WO.nil (W.region (WO.p rfl rfl (WO.ar rfl rfl rfl (by unfold in64;omega) rfl (WO.p rfl rfl (WO.nil ?_)))))))
   refine' ⟨i+1,_,_,_,_,?hp,?hmu,⟨rfl,rfl,rfl,rfl,rfl,trivial⟩,?hS⟩
   case hS=>repeat (first | exact Sub.nil | refine Sub.cons (by repeat first | exact .head | apply Pick.tail) ?_)
   case hp=>exact ⟨by omega,by omega,hT.next hrow⟩
   case hmu=>omega
 ·refine W.exit (blk_same ?_)
  obtain rfl:i=R.length:=by omega
  refine W.sreg (WO.p rfl rfl (WO.p rfl rfl (WO.nil (W.ret ?_))))
  exact fin.ret (Res.one rfl (RV.tmp rfl)) ⟨(tv,rvT,T),⟨rfl,hT.tr⟩,fun h hs=>Sub.sat (by repeat (first | exact Sub.nil | refine Sub.cons (by repeat first | exact .head | apply Pick.tail) ?_)) hs⟩
end Go.Proofs.YtfchgmiiicidcaaGreat
namespace Go.Proofs.YtfchgmiiicidcaaGreat
open Go Go.TH Go.ChangeShapes Go.WideShapes Go.ChangeAt Go.RowKit
set_option maxRecDepth 100000
section
variable {H:Type} {enc:TypeId × Value→H} {w:World}
theorem cells33:Tryz.prog.cellsOf 33=4:=by kernel_rfl
theorem cells52:Tryz.prog.cellsOf 52=1:=by kernel_rfl
theorem open_sl {α:Type} {en:α→List Value} {sz T e:Nat} {Q:α→Prop} {base:Nat} {v:Value} {d:DataW H} {ps:List MemPlace} (hT:Tryz.prog.underlying T=some (.slice e)) (hc:Tryz.prog.cellsOf e=sz) (hz:0<sz) (hd:∀ n c y,c.length=sz→DataW.trod enc Tryz.prog w 0 (fun _=>true) true n e c=some y→∃ z,c=en z∧Q z) (hv:Value.okWide Tryz.prog w .any base T v) (h:DataW.Trod enc Tryz.prog w 0 (fun _=>true) true T v d ps):∃ xs,RdF en sz w.heap.size w v xs∧∀ x∈xs,Q x:=by
  obtain ⟨a0,len,cap,rfl⟩:=okWide_slice hT hv
  obtain ⟨fuel,hf⟩:=h
  obtain ⟨o,xs,ho,hr,hq⟩:=open_rd (en:=en) (Q:=Q) hT hc hz hd hf
  simp [Value.cells] at ho
  subst ho
  exact ⟨xs,hr,hq⟩
theorem rd_span {n:Nat} {c:List Value} {y:DataW H × List MemPlace} (hl:c.length=4) (h:DataW.trod enc Tryz.prog w 0 (fun _=>true) true n 33 c=some y):∃ z:Sp.Rn,c=Sp.encRn z∧True:=by
  obtain ⟨y0,y1,y2,m,_,_,h0,h1,h2⟩:=Go.Deep.trod_struct3 Tryz.underlying33 h
  match c,hl with
  | [a,b,d,e],_ =>
    simp [cells2,cells30] at h0 h1 h2
    obtain ⟨u,hu,_⟩:=rd_int h0
    obtain ⟨v,hv,_⟩:=rd_int h1
    obtain ⟨⟨x,z⟩,hx,_⟩:=rd_rng rfl h2
    simp [encI] at hu hv
    simp [encP] at hx
    obtain ⟨hx,hz⟩:=hx
    subst hu;subst hv;subst hx;subst hz
    exact ⟨⟨u,v,x,z⟩,rfl,trivial⟩
theorem open_runs {base:Nat} {v:Value} {d:DataW H} {ps:List MemPlace} (hv:Value.okWide Tryz.prog w .any base 34 v) (h:DataW.Trod enc Tryz.prog w 0 (fun _=>true) true 34 v d ps):∃ xs:List Sp.Rn,RdF Sp.encRn 4 w.heap.size w v xs:=by
  obtain ⟨xs,h,_⟩:=open_sl (Q:=fun _:Sp.Rn=>True) Tryz.underlying34 cells33 (by omega) (fun n c y hl hy=>rd_span hl hy) hv h
  exact ⟨xs,h⟩
theorem rd_u32 {n:Nat} {c:List Value} {y:DataW H × List MemPlace} (h:DataW.trod enc Tryz.prog w 0 (fun _=>true) true n 52 c=some y):∃ z:Int,c=encU4 z∧0≤z∧z≤4294967295:=by
  obtain ⟨z,rfl,_,hw⟩:=DataW.trod_int Tryz.underlying52 h
  simp [Lit.wf,IntKind.min,IntKind.max,IntKind.signed,IntKind.bits] at hw
  exact ⟨z,rfl,by omega,by omega⟩
theorem open_truly {base:Nat} {v:Value} {d:DataW H} {ps:List MemPlace} (hv:Value.okWide Tryz.prog w .any base 54 v) (h:DataW.Trod enc Tryz.prog w 0 (fun _=>true) true 54 v d ps):∃ xs:List Int,RdF encU4 1 w.heap.size w v xs∧∀ x∈xs,0≤x∧x≤4294967295 :=
  open_sl (Q:=fun x:Int=>0≤x∧x≤4294967295) Tryz.underlying54 cells52 (by omega) (fun n c y hl hy=>rd_u32 hy) hv h
theorem open_u16 {base:Nat} {v:Value} {d:DataW H} {ps:List MemPlace} (hv:Value.okWide Tryz.prog w .any base 55 v) (h:DataW.Trod enc Tryz.prog w 0 (fun _=>true) true 55 v d ps):∃ z:Int,v=.int .u16 z∧0≤z∧z≤65535:=by
  obtain ⟨z,rfl,h1,h2⟩:=open_kind Tryz.underlying55 hv h
  simp [IntKind.min,IntKind.max,IntKind.signed,IntKind.bits] at h1 h2
  exact ⟨z,rfl,by omega,by omega⟩
end
end Go.Proofs.YtfchgmiiicidcaaGreat
namespace Go.Proofs.YtfchgmiiicidcaaGreat
open Go Go.TH
attribute [local irreducible] W WO pt
set_option maxRecDepth 10000
set_option maxHeartbeats 2000000
theorem tab_get {T:List (List Int)} {i k a b:Nat} {x:Int} (hi:i<T.length) (hk:k<(T.getD i []).length):((T.set i ((T.getD i []).set k x)).getD a []).getD b 0=if a=i∧b=k then x else (T.getD a []).getD b 0:=by
 rw [List.getD_eq_getElem?_getD (l:=T.set _ _),List.getElem?_set]
 by_cases h1:i=a
 ·subst h1
  rw [if_pos rfl,if_pos hi]
  show ((T.getD i []).set k x).getD b 0=_
  rw [List.getD_eq_getElem?_getD,List.getElem?_set]
  by_cases h2:k=b
  ·subst h2;rw [if_pos rfl,if_pos hk,if_pos ⟨rfl,rfl⟩];rfl
  ·rw [if_neg h2,if_neg (fun h=>h2 h.2.symm),← List.getD_eq_getElem?_getD]
 ·rw [if_neg h1,if_neg (fun h=>h1 h.1.symm),← List.getD_eq_getElem?_getD]
theorem tab_row {T:List (List Int)} {i k a:Nat} {x:Int}:((T.set i ((T.getD i []).set k x)).getD a []).length=(T.getD a []).length:=by
 rw [List.getD_eq_getElem?_getD (l:=T.set _ _),List.getElem?_set]
 by_cases h1:i=a
 ·subst h1
  rw [if_pos rfl]
  by_cases h2:i<T.length
  ·rw [if_pos h2];simp
  ·rw [if_neg h2,List.getD_eq_getElem?_getD,List.getElem?_eq_none (by omega)]
 ·rw [if_neg h1,← List.getD_eq_getElem?_getD]
def FalI (A:List Int) (T:List (List Int)) (i k:Nat):Prop:=(∀ a,a<i→∀ b,b+1<A.length→Ch.tAt T a (b+1)≤Ch.tAt T a b)∧∀ b,b+1<k→Ch.tAt T i (b+1)≤Ch.tAt T i b
section
variable {P A:List Int} {R:Ch.Rws} {T:List (List Int)}
def falV (R:Ch.Rws) (T:List (List Int)) (i k:Nat):Int:=max (Ch.loAt R i k) (min (Ch.tAt T i k) (Ch.tAt T i (k-1)))
theorem fal_tr (hc:Ch.OkC P A R) (ht:Ch.OkTr R T) {i k:Nat} (hi:i<R.length) (hk:k<(R.getD i []).length):Ch.OkTr R (T.set i ((T.getD i []).set k (falV R T i k))):=by
 have hn:=ht.n
 have hm:=ht.m i hi
 refine ⟨by rw [List.length_set];exact hn,fun a ha=>by rw [tab_row];exact ht.m a ha,fun a ha b hb=>?_⟩
 rw [tab_get (by omega) (by omega)]
 have h1:=ht.v a ha b hb
 by_cases g:a=i∧b=k
 ·obtain ⟨rfl,rfl⟩:=g
  rw [if_pos ⟨rfl,rfl⟩]
  have h2:=hc.at_ hi hk
  unfold falV Ch.loAt Ch.tAt
  omega
 ·rw [if_neg g];exact h1
theorem fal_next (hc:Ch.OkC P A R) (ht:Ch.OkTr R T) {i k:Nat} (hi:i<R.length) (hk:k<(R.getD i []).length) (h0:0<k) (h:FalI A T i k):FalI A (T.set i ((T.getD i []).set k (falV R T i k))) i (k+1):=by
 have hn:=ht.n
 have hm:=ht.m i hi
 constructor
 ·intro a ha b hb
  unfold Ch.tAt
  rw [tab_get (by omega) (by omega),tab_get (by omega) (by omega),if_neg (by omega),if_neg (by omega)]
  exact h.1 a ha b hb
 ·intro b hb
  unfold Ch.tAt
  rw [tab_get (by omega) (by omega),tab_get (by omega) (by omega),if_neg (show ¬ (i=i∧b=k) by omega)]
  by_cases g:b+1=k
  ·rw [if_pos ⟨rfl,g⟩]
   have h1:=hc.fall hi (k:=b) (by omega)
   have h2:=(ht.v i hi b (by omega)).1
   unfold falV Ch.loAt Ch.tAt
   rw [← g]
   simp only [Nat.add_sub_cancel]
   omega
  ·rw [if_neg (by omega)]
   exact h.2 b (by omega)
theorem FalI.row (hl:∀ i,i<T.length→(T.getD i []).length=A.length) {i k:Nat} (h:FalI A T i k) (hk:A.length≤k):FalI A T (i+1) 1:=by
 refine ⟨fun a ha b hb=>?_,fun b hb=>by omega⟩
 rcases Nat.lt_or_ge a i with g | g
 ·exact h.1 a g b hb
 ·obtain rfl:a=i:=by omega
  exact h.2 b (by omega)
end
theorem c_Falling (w:World) (vp va o u:Value) (rv:List Value) (P A:List Int) (R:Ch.Rws) (bs:List Int) (hc:Ch.OkC P A R) (hbl:bs.length≤100) (hbs:∀ x∈bs,0≤x∧x≤4294967295) (hP:RdF encI 1 w.heap.size w vp P) (hA:RdF encI 1 w.heap.size w va A) (hR:RdR encP 2 w.heap.size w o rv R) (hB:RdF encU4 1 w.heap.size w u bs):Ct Tryz.prog 22 [.agg #[vp,va,o],u].toArray w fun r w'=>∃ Hq,(∃ Z:TZ,(r=Z.1∧FlT P A R Z.2.2)∧Hq=tzP R.length Z)∧Inv w [] Hq w':=by
 refine Ct.ofI (X:=TZ) (p:=fun Z r=>r=Z.1∧FlT P A R Z.2.2) (Hx:=tzP R.length) mixed tyTab Tryz.func22 rfl rfl ?_
 replace hR:RdR encP 2 (fnCx mixed tyTab Tryz.f22.ntmps w).B (fnCx mixed tyTab Tryz.f22.ntmps w).w0 o rv R:=hR
 replace hB:RdF encU4 1 (fnCx mixed tyTab Tryz.f22.ntmps w).B (fnCx mixed tyTab Tryz.f22.ntmps w).w0 u bs:=hB
 replace hP:RdF encI 1 (fnCx mixed tyTab Tryz.f22.ntmps w).B (fnCx mixed tyTab Tryz.f22.ntmps w).w0 vp P:=hP
 replace hA:RdF encI 1 (fnCx mixed tyTab Tryz.f22.ntmps w).B (fnCx mixed tyTab Tryz.f22.ntmps w).w0 va A:=hA
 have hop:=hP.sl.oc
 have hoa:=hA.sl.oc
 have hoo:=hR.sl.oc
 have hnp:=hc.np
 have hna:=hc.na
 have hnr:=hc.nr
 refine W.sreg (WO.boxA rfl rfl (fun b1 hb1=>(WO.p rfl rfl (WO.nil (W.sreg (WO.loadA rfl rfl (Cells.own Pick.head) rfl rfl (WO.p rfl rfl (WO.call (Post:=fun r Hq=>∃ Z:TZ,(r=Z.1∧Ch.OkTr R Z.2.2)∧Hq=tzP R.length Z) rfl Tryz.call66 (fun L w hi=>c_True w vp va o u rv P A R bs hc hbl hbs (hP.later hi) (hA.later hi) (hR.later hi) (hB.later hi)) rfl ?_))))))))
 rintro tv _ ⟨⟨_,rvT,T0⟩,⟨rfl,htr0⟩,rfl⟩
 unfold tzP
 dsimp only at htr0 ⊢
 refine WO.p rfl rfl (WO.nil (W.seq (W.fact (OwC.sl (e:=22) (sz:=1) (n:=R.length) (v:=tv) (cs:=rvT) (by repeat exact .head)) (fun hts=>(W.fact (RowsE.rowsLen (enc:=encI) (e:=2) (sz:=1) (rv:=rvT) (xss:=T0) (by repeat first | exact .head | apply Pick.tail)) (fun hrl0=>?_))))))
 have hrl:rvT.length=R.length:=by rw [hrl0];exact htr0.n
 refine W.sreg (WO.p rfl rfl (WO.nil (W.block ?_)))
 refine W.loop2 (fun (i:Nat) (T:List (List Int))=>i≤R.length∧Ch.OkTr R T∧FalI A T i 1)
  (fun (i:Nat) (T:List (List Int))=>[(6,.int .i64 (i:Int)),(5,tv),(2,.pointer (some ⟨b1,0,none⟩))])
  (fun (i:Nat) (T:List (List Int))=>[pt b1 (.cells #[vp,va,o] 25 (0,0)),OwC 22 1 tv R.length rvT,RowsE encI 2 1 rvT T])
  (fun (i:Nat) (T:List (List Int))=>R.length-i) 0 T0
  (by exact ⟨by omega,htr0,fun a ha=>by omega,fun b hb=>by omega⟩) ⟨rfl,rfl,rfl,trivial⟩ (by repeat (first | exact Sub.nil | refine Sub.cons (by repeat first | exact .head | apply Pick.tail) ?_)) ?_
 rintro i T ⟨hi0,htr,hfa⟩
 refine W.seq (W.sreg (WO.p rfl rfl (WO.p rfl rfl (WO.len rfl rfl hts rfl (WO.p rfl rfl (WO.nil ?_))))))
 refine W.cond_bl rfl (fun c1=>?_) (fun c1=>?_)
 ·refine W.skip (W.seq (W.block (W.sreg (WO.p rfl rfl (WO.nil (W.block ?_))))))
  refine W.loop2 (fun (k:Nat) (T:List (List Int))=>1≤k∧k≤A.length∧Ch.OkTr R T∧FalI A T i k)
   (fun (k:Nat) (T:List (List Int))=>[(7,.int .i64 (k:Int)),(6,.int .i64 (i:Int)),(5,tv),(2,.pointer (some ⟨b1,0,none⟩))])
   (fun (k:Nat) (T:List (List Int))=>[pt b1 (.cells #[vp,va,o] 25 (0,0)),OwC 22 1 tv R.length rvT,RowsE encI 2 1 rvT T])
   (fun (k:Nat) (T:List (List Int))=>A.length-k) 1 T
   (by exact ⟨by omega,by omega,htr,hfa⟩) ⟨rfl,rfl,rfl,rfl,trivial⟩ (by repeat (first | exact Sub.nil | refine Sub.cons (by repeat exact .head) ?_)) ?_
  rintro k T ⟨hk0,hk1,htr,hfa⟩
  refine W.seq ?_
  have hm:=htr.m i (by omega)
  have htn:=htr.n
  have hrw:=hc.row (show i<R.length by omega)
  refine W.fact (RowsE.rowSl (enc:=encI) (e:=2) (sz:=1) (rv:=rvT) (xss:=T) (i:=i) (by repeat first | exact .head | apply Pick.tail) (by omega)) (fun hrs=>(W.sreg (WO.p rfl rfl (WO.p rfl rfl (WO.p rfl rfl (WO.indexAddr rfl rfl rfl hts (by omega) rfl ?_))))))
  refine' WO.load (v:=_) rfl rfl ?hc rfl ?_
  case hc=>(first | (refine OwC.cell1s (e:=22) (n:=R.length) (cs:=rvT) (i:=i) ?_ (by omega);exact (by repeat (first | exact Sub.nil | refine Sub.cons (by repeat first | exact .head | apply Pick.tail) ?_))))
  refine WO.len rfl rfl hrs rfl (WO.p rfl rfl (WO.nil ?_))
  refine W.cond_bl rfl (fun c2=>?_) (fun c2=>?_)
  ·refine W.skip (W.seq (W.block ?_))
   refine W.drawD 31 [.r 0 [],.r 1 [],.r 2 [],.b 3 [],.r 4 [],.r 5 [],.b 6 [],.r 7 [],.r 8 [],.b 9 [],.r 10 [],.r 11 [],.r 12 [],.b 13 [],.r 14 [],.r 15 [],.r 16 [],.b 17 [],.r 18 [],.r 19 [],.f 20 [],.r 21 [],.r 22 [],.r 23 [],.b 24 [],.r 25 [],.r 26 [],.r 27 [],.f 28 [],.r 29 [],.r 30 []] [] (A0:=[_]) (H0:=[_,_]) (.cons (Pick.tail (Pick.tail .head)) (.cons .head (.cons .head .nil))) (by kernel_rfl) ?_ ?_
   ·repeat constructor
   refine DT.r rfl rfl rfl (WO.p rfl rfl (WO.nil ⟨rfl,rfl⟩)) (DT.r rfl rfl rfl (WO.p rfl rfl (WO.nil ⟨rfl,rfl⟩)) (DT.r rfl rfl rfl (WO.indexAddr rfl rfl rfl hts (by omega) rfl (WO.nil ⟨rfl,rfl⟩)) ?_))
   refine' DT.b rfl rfl rfl ?hq ?_
   case hq =>
    refine' WO.load (v:=_) rfl rfl ?hc rfl ?_
    case hc=>(first | (refine OwC.cell1s (e:=22) (n:=R.length) (cs:=rvT) (i:=i) ?_ (by omega);exact (by repeat (first | exact Sub.nil | refine Sub.cons (by repeat first | exact .head | apply Pick.tail) ?_))))
    exact WO.nil ⟨rfl,rfl⟩
   refine DT.r rfl rfl rfl (WO.p rfl rfl (WO.nil ⟨rfl,rfl⟩)) (DT.r rfl rfl rfl (WO.fieldL rfl rfl rfl (WO.nil ⟨rfl,rfl⟩)) (DT.b rfl rfl rfl (WO.load rfl rfl (Cell.own Pick.head rfl) rfl (WO.nil ⟨rfl,rfl⟩)) (DT.r rfl rfl rfl (WO.p rfl rfl (WO.nil ⟨rfl,rfl⟩)) (DT.r rfl rfl rfl (WO.indexAddr rfl rfl rfl hR.sl (by omega) rfl (WO.nil ⟨rfl,rfl⟩)) ?_))))
   refine' DT.b rfl rfl rfl ?hq ?_
   case hq =>
    refine' WO.load (v:=_) rfl rfl ?hc rfl ?_
    case hc=>((refine hR.cellV ?_;omega))
    exact WO.nil ⟨rfl,rfl⟩
   refine DT.r rfl rfl rfl (WO.p rfl rfl (WO.nil ⟨rfl,rfl⟩)) ?_
   refine' DT.r rfl rfl rfl ?hq ?_
   case hq =>
    refine' WO.indexAddr (n:=_) (i:=_) rfl rfl rfl ?hs ?h1 rfl ?_
    case hs=>((refine (hR.row i ?_).sl;omega))
    case h1=>(omega)
    exact WO.nil ⟨rfl,rfl⟩
   refine DT.r rfl rfl rfl (WO.field0 rfl rfl rfl (WO.nil ⟨rfl,rfl⟩)) ?_
   refine' DT.b rfl rfl rfl ?hq ?_
   case hq =>
    refine' WO.load (v:=_) rfl rfl ?hc rfl ?_
    case hc=>(first | (refine (hR.row i ?_).cell0 (i:=k) ?_ (0,0) ?_ <;> first | rfl | omega))
    exact WO.nil ⟨rfl,rfl⟩
   refine DT.r rfl rfl rfl (WO.p rfl rfl (WO.nil ⟨rfl,rfl⟩)) (DT.r rfl rfl rfl (WO.p rfl rfl (WO.nil ⟨rfl,rfl⟩)) (DT.r rfl rfl rfl (WO.indexAddr rfl rfl rfl hts (by omega) rfl (WO.nil ⟨rfl,rfl⟩)) ?_))
   refine' DT.b rfl rfl rfl ?hq ?_
   case hq =>
    refine' WO.load (v:=_) rfl rfl ?hc rfl ?_
    case hc=>(first | (refine OwC.cell1s (e:=22) (n:=R.length) (cs:=rvT) (i:=i) ?_ (by omega);exact (by repeat (first | exact Sub.nil | refine Sub.cons (by repeat first | exact .head | apply Pick.tail) ?_))))
    exact WO.nil ⟨rfl,rfl⟩
   refine DT.r rfl rfl rfl (WO.p rfl rfl (WO.nil ⟨rfl,rfl⟩)) (DT.r rfl rfl rfl (WO.indexAddr rfl rfl rfl hrs (by omega) rfl (WO.nil ⟨rfl,rfl⟩)) ?_)
   refine' DT.f [_,_,_] rfl rfl rfl rfl ?hq ?_
   case hq =>
    refine' WO.load (v:=_) rfl rfl ?hc rfl ?_
    case hc=>(first | (refine Tcell (rv:=rvT) (xss:=T) (i:=i) (k:=k) ?_ (by omega) (by omega);exact (by repeat (first | exact Sub.nil | refine Sub.cons (by repeat exact .head) ?_))))
    exact WO.nil ⟨rfl,rfl⟩
   refine DT.r rfl rfl rfl (WO.p rfl rfl (WO.nil ⟨rfl,rfl⟩)) (DT.r rfl rfl rfl (WO.p rfl rfl (WO.nil ⟨rfl,rfl⟩)) (DT.r rfl rfl rfl (WO.indexAddr rfl rfl rfl hts (by omega) rfl (WO.nil ⟨rfl,rfl⟩)) ?_))
   refine' DT.b rfl rfl rfl ?hq ?_
   case hq =>
    refine' WO.load (v:=_) rfl rfl ?hc rfl ?_
    case hc=>(first | (refine OwC.cell1s (e:=22) (n:=R.length) (cs:=rvT) (i:=i) ?_ (by omega);exact (by repeat (first | exact Sub.nil | refine Sub.cons (by repeat first | exact .head | apply Pick.tail) ?_))))
    exact WO.nil ⟨rfl,rfl⟩
   refine DT.r rfl rfl rfl (WO.p rfl rfl (WO.nil ⟨rfl,rfl⟩)) (DT.r rfl rfl rfl (WO.ar rfl rfl rfl (by unfold in64;omega) rfl (WO.nil ⟨rfl,rfl⟩)) ?_)
   refine' DT.r rfl rfl rfl ?hq ?_
   case hq =>
    refine' WO.indexAddrZ (n:=_) rfl rfl rfl ?hs ?h00 ?h1 rfl ?_
    case hs=>exact hrs
    case h00=>omega
    case h1=>(omega)
    exact WO.nil ⟨rfl,rfl⟩
   refine' DT.f [_,_,_] rfl rfl rfl rfl ?hq ?_
   case hq =>
    refine' WO.load (v:=_) rfl rfl ?hc rfl ?_
    case hc=>(first | (refine Tcell (rv:=rvT) (xss:=T) (i:=i) (k:=((k:Int)-1).toNat) ?_ (by omega) (by omega);exact (by repeat (first | exact Sub.nil | refine Sub.cons (by repeat exact .head) ?_))))
    exact WO.nil ⟨rfl,rfl⟩
   refine DT.r rfl rfl rfl (WO.min2 rfl rfl rfl (WO.nil ⟨rfl,rfl⟩)) (DT.r rfl rfl rfl (WO.max2 rfl rfl rfl (WO.nil ⟨rfl,rfl⟩)) (DT.nil [_,_,_] rfl (WO.indexAddr rfl rfl rfl hrs (by omega) rfl (WO.storeRow (xss:=T) (i:=i) (k:=k) (n:=falV R T i k) encI_ok rfl rfl (by unfold falV;rw [show k-1=((k:Int)-1).toNat by omega];rfl) rfl (by repeat exact .head) (by omega) (by omega) (WO.nil (W.region (WO.p rfl rfl (WO.ar rfl rfl rfl (by unfold in64;omega) rfl (WO.p rfl rfl (WO.nil ?_))))))))))
   refine' ⟨k+1,_,?hp,?hmu,⟨rfl,rfl,rfl,rfl,trivial⟩,?hS⟩
   case hS=>repeat (first | exact Sub.nil | refine Sub.cons (by repeat first | exact .head | apply Pick.tail) ?_)
   case hp=>exact ⟨by omega,by omega,fal_tr hc htr (by omega) (by omega),fal_next hc htr (by omega) (by omega) (by omega) hfa⟩
   case hmu=>omega
  ·refine W.exit (blk_same (W.region (WO.p rfl rfl (WO.ar rfl rfl rfl (by unfold in64;omega) rfl (WO.p rfl rfl (WO.nil ?_))))))
   refine' ⟨i+1,_,?hp,?hmu,⟨rfl,rfl,rfl,trivial⟩,?hS⟩
   case hS=>repeat (first | exact Sub.nil | refine Sub.cons (by repeat exact .head) ?_)
   case hp=>exact ⟨by omega,htr,hfa.row (fun j hj=>by rw [htr.m j (by omega),hc.row (by omega)]) (by omega)⟩
   case hmu=>omega
 ·refine W.exit (blk_same ?_)
  obtain rfl:i=R.length:=by omega
  refine W.sreg (WO.p rfl rfl (WO.p rfl rfl (WO.nil (W.ret ?_))))
  exact fin.ret (Res.one rfl (RV.tmp rfl)) ⟨(tv,rvT,T),⟨rfl,⟨htr,fun a ha b hb=>hfa.1 a (by omega) b hb⟩⟩,fun h hs=>Sub.sat (by repeat (first | exact Sub.nil | refine Sub.cons (by repeat first | exact .head | apply Pick.tail) ?_)) hs⟩
end Go.Proofs.YtfchgmiiicidcaaGreat
namespace Go.Proofs.YtfchgmiiicidcaaGreat.Sp
open Go Go.TH
attribute [local irreducible] W WO pt
set_option maxRecDepth 10000
set_option maxHeartbeats 1000000
structure Sd where
 a:Int
 b:Int
 c:Int
abbrev sdV (s:Sd):Value:=.agg #[.int .i64 s.a,.int .i64 s.b,.int .i64 s.c]
def encSd (s:Sd):List Value:=[.int .i64 s.a,.int .i64 s.b,.int .i64 s.c]
theorem encSd_ok:EncOk encSd 3:=⟨fun _=>rfl,fun x u hu=>by simp [encSd] at hu;rcases hu with rfl | rfl | rfl <;> rfl,by omega⟩
def sd0:Sd:=⟨0,0,0⟩
def loS (r:Rn):Sd:=⟨r.p,r.q,r.lo⟩
def hiS (r:Rn):Sd:=⟨-r.p,-r.q,-r.hi⟩
def crs (s o:Sd):Int:=s.a*o.b-s.b*o.a
def byS (s:Sd) (n:Int):Sd:=⟨s.a*n,s.b*n,s.c*n⟩
def ab (n:Int):Int:=max n (-n)
def siz (s:Sd):Int:=ab s.a+ab s.b
def addS (s o:Sd):Sd:=⟨s.a+o.a,s.b+o.b,s.c+o.c⟩
def sumS (l:List Sd):Sd:=l.foldl addS sd0
structure OkS (A B:Int) (s:Sd):Prop where
 a : -A≤s.a∧s.a≤A
 b : -A≤s.b∧s.b≤A
 c : -B≤s.c∧s.c≤B
theorem OkS.lo {r:Rn} (h:OkRn r):OkS 20 100000 (loS r):=by
 obtain ⟨h1,h2,_,h3,h4,h5⟩:=h
 unfold OkN at h1 h2
 exact ⟨h1,h2,by show _≤r.lo∧r.lo≤_;omega⟩
theorem OkS.hi {r:Rn} (h:OkRn r):OkS 20 100000 (hiS r):=by
 obtain ⟨h1,h2,_,h3,h4,h5⟩:=h
 unfold OkN at h1 h2
 exact ⟨by show _ ≤ -r.p ∧ -r.p≤_;omega,by show _ ≤ -r.q ∧ -r.q≤_;omega,by show _ ≤ -r.hi ∧ -r.hi≤_;omega⟩
theorem OkS.by_ {s:Sd} {A B N n:Int} (h:OkS A B s) (hn : -N≤n∧n≤N):OkS (A*N) (B*N) (byS s n):=⟨mul_bd h.a hn,mul_bd h.b hn,mul_bd h.c hn⟩
theorem OkS.up {s:Sd} {A B A' B':Int} (h:OkS A B s) (hA:A≤A') (hB:B≤B'):OkS A' B' s:=by
 obtain ⟨h1,h2,h3⟩:=h
 exact ⟨by omega,by omega,by omega⟩
theorem crs_bd {s o:Sd} {B B':Int} (h:OkS 20 B s) (g:OkS 20 B' o):(-400≤s.a*o.b∧s.a*o.b≤400)∧(-400≤s.b*o.a∧s.b*o.a≤400) ∧ -800≤crs s o∧crs s o≤800:=by
 have h1:=mul_bd h.a g.b
 have h2:=mul_bd h.b g.a
 unfold crs
 omega
theorem siz_bd {s:Sd} {B:Int} (h:OkS 20 B s):0≤siz s∧siz s≤40:=by
 obtain ⟨h1,h2,_⟩:=h
 unfold siz ab;omega
theorem c_cross (w:World) (s o:Sd) (hs:OkS 20 1000000 s) (ho:OkS 20 1000000 o):Ret Tryz.prog 194 [sdV s,sdV o].toArray w (.int .i64 (crs s o)):=by
 refine Ret.of mixed tyTab Tryz.func194 rfl rfl ?_
 have hb:=crs_bd hs ho
 unfold crs at hb
 refine W.sreg (WO.boxA rfl rfl (fun b1 hb1=>(WO.boxA rfl rfl (fun b2 hb2=>(WO.p rfl rfl (WO.nil (W.sreg (WO.indexArrL (o':=0) rfl rfl rfl (by decide) rfl rfl (WO.load rfl rfl (Cell.own (Pick.tail (Pick.head)) rfl) rfl (WO.indexArrL (o':=1) rfl rfl rfl (by decide) rfl rfl (WO.load rfl rfl (Cell.own Pick.head rfl) rfl (WO.ar rfl rfl rfl (by unfold in64;omega) rfl (WO.indexArrL (o':=1) rfl rfl rfl (by decide) rfl rfl (WO.load rfl rfl (Cell.own (Pick.tail (Pick.head)) rfl) rfl (WO.indexArrL (o':=0) rfl rfl rfl (by decide) rfl rfl ?_)))))))))))))))
 refine WO.load rfl rfl (Cell.own Pick.head rfl) rfl (WO.ar rfl rfl rfl (by unfold in64;omega) rfl (WO.ar rfl rfl rfl (by unfold in64;omega) rfl (WO.p rfl rfl (WO.nil (W.ret ?_)))))
 exact fin.ret (Res.one rfl (RV.tmp rfl)) rfl
theorem c_by (w:World) (s:Sd) (n:Int) (hs:OkS 1000000 1000000 s) (hn : -1000000≤n∧n≤1000000):Ret Tryz.prog 172 [sdV s,.int .i64 n].toArray w (sdV (byS s n)):=by
 refine Ret.of mixed tyTab Tryz.func172 rfl rfl ?_
 have h1:=mul_bd hs.a hn
 have h2:=mul_bd hs.b hn
 have h3:=mul_bd hs.c hn
 refine W.sreg (WO.boxA rfl rfl (fun b1 hb1=>(WO.alloc rfl rfl rfl (fun b2 hb2=>(WO.nil (W.sreg (WO.indexArrL (o':=0) rfl rfl rfl (by decide) rfl rfl (WO.load rfl rfl (Cell.own (Pick.tail (Pick.head)) rfl) rfl (WO.p rfl rfl (WO.ar rfl rfl rfl (by unfold in64;omega) rfl (WO.indexArrL (o':=1) rfl rfl rfl (by decide) rfl rfl (WO.load rfl rfl (Cell.own (Pick.tail (Pick.head)) rfl) rfl (WO.p rfl rfl (WO.ar rfl rfl rfl (by unfold in64;omega) rfl (WO.indexArrL (o':=2) rfl rfl rfl (by decide) rfl rfl (WO.load rfl rfl (Cell.own (Pick.tail (Pick.head)) rfl) rfl (WO.p rfl rfl (WO.ar rfl rfl rfl (by unfold in64;omega) rfl (WO.build rfl rfl rfl rfl rfl ?_)))))))))))))))))))
 refine WO.storeA rfl rfl rfl rfl Pick.head rfl rfl (WO.nil (W.ret ?_))
 exact fin.ret (Res.one rfl (RV.cell rfl rfl rfl (Cells.own Pick.head))) rfl
theorem c_flat (w:World) (s:Sd):Ret Tryz.prog 173 [sdV s].toArray w (sdV ⟨s.a,s.b,0⟩):=by
 refine Ret.of mixed tyTab Tryz.func173 rfl rfl (W.sreg (WO.boxA rfl rfl (fun b1 hb1=>(WO.alloc rfl rfl rfl (fun b2 hb2=>(WO.nil (W.sreg (WO.indexArrL (o':=0) rfl rfl rfl (by decide) rfl rfl (WO.load rfl rfl (Cell.own (Pick.tail (Pick.head)) rfl) rfl (WO.indexArrL (o':=1) rfl rfl rfl (by decide) rfl rfl (WO.load rfl rfl (Cell.own (Pick.tail (Pick.head)) rfl) rfl (WO.build rfl rfl rfl rfl rfl (WO.storeA rfl rfl rfl rfl Pick.head rfl rfl (WO.nil (W.ret ?_)))))))))))))))
 exact fin.ret (Res.one rfl (RV.cell rfl rfl rfl (Cells.own Pick.head))) rfl
theorem c_size (w:World) (s:Sd) (hs:OkS 20 1000000 s):Ret Tryz.prog 193 [sdV s].toArray w (.int .i64 (siz s)):=by
 refine Ret.of mixed tyTab Tryz.func193 rfl rfl ?_
 obtain ⟨h1,h2,h3⟩:=hs
 refine W.sreg (WO.boxA rfl rfl (fun b1 hb1=>(WO.p rfl rfl (WO.nil (W.sreg (WO.indexArrL (o':=0) rfl rfl rfl (by decide) rfl rfl (WO.load rfl rfl (Cell.own Pick.head rfl) rfl (WO.indexArrL (o':=0) rfl rfl rfl (by decide) rfl rfl (WO.load rfl rfl (Cell.own Pick.head rfl) rfl (WO.neg rfl (by unfold in64;omega) rfl (WO.max2 rfl rfl rfl (WO.indexArrL (o':=1) rfl rfl rfl (by decide) rfl rfl (WO.load rfl rfl (Cell.own Pick.head rfl) rfl (WO.indexArrL (o':=1) rfl rfl rfl (by decide) rfl rfl (WO.load rfl rfl (Cell.own Pick.head rfl) rfl (WO.neg rfl (by unfold in64;omega) rfl (WO.max2 rfl rfl rfl (WO.ar rfl rfl rfl (by unfold in64;omega) rfl (WO.p rfl rfl ?_)))))))))))))))))))
 refine WO.nil (W.ret ?_)
 exact fin.ret (Res.one rfl (RV.tmp rfl)) rfl
theorem c_newPair (w:World) (r:Rn) (h:OkRn r):Ret Tryz.prog 170 [rnV r].toArray w (.agg #[.int .i64 r.p,.int .i64 r.q,.int .i64 r.lo,.int .i64 r.hi,.int .i64 r.p,.int .i64 r.q,.int .i64 r.lo,.int .i64 (-r.p),.int .i64 (-r.q),.int .i64 (-r.hi)]):=by
 refine Ret.of mixed tyTab Tryz.func170 rfl rfl ?_
 obtain ⟨h1,h2,_,h3,h4,h5⟩:=h
 unfold OkN at h1 h2
 refine W.sreg (WO.boxA rfl rfl (fun b1 hb1=>(WO.alloc rfl rfl rfl (fun b2 hb2=>(WO.nil (W.sreg (WO.loadA rfl rfl (Cells.own (Pick.tail (Pick.head))) rfl rfl (WO.field0 rfl rfl rfl (WO.load rfl rfl (Cell.own (Pick.tail (Pick.head)) rfl) rfl (WO.fieldL rfl rfl rfl (WO.load rfl rfl (Cell.own (Pick.tail (Pick.head)) rfl) rfl (WO.fieldL rfl rfl rfl (WO.field0 rfl rfl rfl (WO.load rfl rfl (Cell.own (Pick.tail (Pick.head)) rfl) rfl (WO.build rfl rfl rfl rfl rfl ?_)))))))))))))))
 refine WO.field0 rfl rfl rfl (WO.load rfl rfl (Cell.own (Pick.tail (Pick.head)) rfl) rfl (WO.neg rfl (by unfold in64;omega) rfl (WO.fieldL rfl rfl rfl (WO.load rfl rfl (Cell.own (Pick.tail (Pick.head)) rfl) rfl (WO.neg rfl (by unfold in64;omega) rfl (WO.fieldL rfl rfl rfl (WO.fieldL rfl rfl rfl (WO.load rfl rfl (Cell.own (Pick.tail (Pick.head)) rfl) rfl (WO.neg rfl (by unfold in64;omega) rfl (WO.build rfl rfl rfl rfl rfl (WO.build rfl rfl rfl rfl rfl (WO.storeA rfl rfl rfl rfl Pick.head rfl rfl (WO.nil (W.ret ?_))))))))))))))
 exact fin.ret (Res.one rfl (RV.cell rfl rfl rfl (Cells.own Pick.head))) rfl
theorem sumS_take {l:List Sd} {i:Nat} (h:i<l.length):sumS (l.take (i+1))=addS (sumS (l.take i)) (l.getD i sd0):=by
 unfold sumS;rw [take_succ_getD h sd0,List.foldl_append];rfl
def addK (s o:Sd) (k:Nat):Sd:=⟨if 0<k then s.a+o.a else s.a,if 1<k then s.b+o.b else s.b,if 2<k then s.c+o.c else s.c⟩
def prtS (s:Sd) (k:Nat):Int:=if k=0 then s.a else if k=1 then s.b else s.c
theorem prtS_bd {A:Int} {s:Sd} (h:OkS A A s) {k:Nat} : -A≤prtS s k∧prtS s k≤A:=by
 obtain ⟨h1,h2,h3⟩:=h
 unfold prtS;split
 ·exact h1
 ·split
  ·exact h2
  ·exact h3
theorem prtS_get (s:Sd) {k:Nat} (h:k<3):lget (encSd s) k=some (.int .i64 (prtS s k)):=by
 obtain rfl | rfl | rfl:k=0∨k=1∨k=2:=by omega
 all_goals rfl
theorem addK_3 (s o:Sd):addK s o 3=addS s o:=rfl
theorem addK_at {s o:Sd} {k:Nat} (h:k<3):prtS (addK s o k) k=prtS s k:=by
 obtain rfl | rfl | rfl:k=0∨k=1∨k=2:=by omega
 all_goals rfl
theorem addK_set {s o:Sd} {k:Nat} (h:k<3):(encSd (addK s o k)).set k (.int .i64 (prtS (addK s o k) k+prtS o k))=encSd (addK s o (k+1)):=by
 obtain rfl | rfl | rfl:k=0∨k=1∨k=2:=by omega
 all_goals rfl
theorem sum_in {M:Int} (hM:0≤M) {l:List Sd} (h:∀ s∈l,OkS M M s):∀ {i:Nat},i≤l.length→OkS (M*i) (M*i) (sumS (l.take i))
 | 0,_=>by
  rw [show M*((0:Nat):Int)=0 by simp]
  show OkS 0 0 sd0
  exact ⟨by decide,by decide,by decide⟩
 | i+1,hi=>by
  have h1:=sum_in hM h (i:=i) (by omega)
  have h2:=h _ (getD_mem (show i<l.length by omega) sd0)
  rw [sumS_take (by omega)]
  have e:M*((i+1:Nat):Int)=M*i+M:=by rw [Int.natCast_succ,Int.mul_add,Int.mul_one]
  rw [e]
  obtain ⟨a1,a2,a3⟩:=h1
  obtain ⟨b1,b2,b3⟩:=h2
  exact ⟨by show _≤_+_∧_+_≤_;omega,by show _≤_+_∧_+_≤_;omega,by show _≤_+_∧_+_≤_;omega⟩
theorem RdF.cells3 {C:Cx Tryz.prog} {H:List HP} {o:Value} {l:List Sd} (h:RdF encSd 3 C.B C.w0 o l) {i:Nat} (h1:i<l.length):Cells C H (elt o i 3) [.int .i64 (l.getD i sd0).a,.int .i64 (l.getD i sd0).b,.int .i64 (l.getD i sd0).c]:=RdF.cells h h1 sd0
theorem cellK {C:Cx Tryz.prog} {H:List HP} {b k:Nat} {o s:Sd} {o':Nat} {t:TypeId} {fr:Nat × Nat} (p:Sub H [pt b (.cells (encSd (addK o s k)).toArray t fr)]) (hk:k<3) (ho:o'=k):Cell C H ⟨b,o',none⟩ (.int .i64 (prtS o k)):=by
 subst ho
 cases p with
 | cons p _=>exact Cell.own p (by rw [prtS_get _ hk,addK_at hk])
theorem c_sum (w:World) (v:Value) (l:List Sd) (hR:RdF encSd 3 w.heap.size w v l) (hl:l.length≤4) (hb:∀ s∈l,OkS 1000000000000000 1000000000000000 s):Ret Tryz.prog 171 [v].toArray w (sdV (sumS l)):=by
 refine Ret.of mixed tyTab Tryz.func171 rfl rfl ?_
 replace hR:RdF encSd 3 (fnCx mixed tyTab Tryz.f171.ntmps w).B (fnCx mixed tyTab Tryz.f171.ntmps w).w0 v l:=hR
 have hle:=hR.sl.le
 refine W.sreg (WO.alloc rfl rfl rfl (fun b1 hb1=>(WO.nil (W.sreg (WO.alloc rfl rfl rfl (fun b2 hb2=>(WO.nil (W.seq (W.sreg (WO.p rfl rfl (WO.len rfl rfl hR.sl rfl (WO.p rfl rfl (WO.nil (W.block ?_))))))))))))))
 refine W.loop2 (fun (i:Nat) (o:Sd)=>i≤l.length∧o=sumS (l.take i))
  (fun (i:Nat) (o:Sd)=>[(10,.int .i64 (i:Int)),(9,.int .i64 (l.length:Int)),(8,v),(3,.pointer (some ⟨b2,0,none⟩)),(2,.pointer (some ⟨b1,0,none⟩))])
  (fun (i:Nat) (o:Sd)=>[pt b2 (.cells #[.int .i64 o.a,.int .i64 o.b,.int .i64 o.c] 101 (0,0)),pt b1 (.cells #[.int .i64 0,.int .i64 0,.int .i64 0] 101 (0,0))])
  (fun (i:Nat) (o:Sd)=>l.length-i) 0 sd0
  (by exact ⟨by omega,rfl⟩) ⟨rfl,rfl,rfl,rfl,rfl,trivial⟩ (by repeat (first | exact Sub.nil | refine Sub.cons (by repeat exact .head) ?_)) ?_
 rintro i o ⟨hi0,ho⟩
 refine W.sreg (WO.p rfl rfl (WO.nil (W.seq ?_)))
 refine W.cond_bl rfl (fun c1=>?_) (fun c1=>?_)
 ·refine W.skip (W.seq (W.block (W.sreg (WO.indexAddr rfl rfl rfl hR.sl (by omega) rfl (WO.loadA rfl rfl (RdF.cells3 hR (i:=i) (by omega)) rfl rfl (WO.alloc rfl rfl rfl (fun b3 hb3=>(WO.storeA rfl rfl rfl rfl Pick.head rfl rfl (WO.nil (W.sreg (WO.loadA rfl rfl (Cells.own Pick.head) rfl rfl (WO.p rfl rfl (WO.nil (W.block ?_))))))))))))))
  refine W.loop (fun (k:Nat)=>k≤3)
   (fun (k:Nat)=>[(15,.int .i64 (k:Int)),(14,.agg #[.int .i64 (l.getD i sd0).a,.int .i64 (l.getD i sd0).b,.int .i64 (l.getD i sd0).c]),(10,.int .i64 (i:Int)),(9,.int .i64 (l.length:Int)),(8,v),(3,.pointer (some ⟨b2,0,none⟩)),(2,.pointer (some ⟨b1,0,none⟩))])
   (fun (k:Nat)=>[pt b2 (.cells (encSd (addK o (l.getD i sd0) k)).toArray 101 (0,0)),pt b1 (.cells #[.int .i64 0,.int .i64 0,.int .i64 0] 101 (0,0))])
   (fun (k:Nat)=>3-k) 0
   (by omega) ⟨rfl,rfl,rfl,rfl,rfl,rfl,rfl,trivial⟩ (by repeat (first | exact Sub.nil | refine Sub.cons (by repeat first | exact .head | apply Pick.tail) ?_)) ?_
  rintro k hk0
  refine W.sreg (WO.p rfl rfl (WO.nil (W.seq ?_)))
  refine W.cond_bl rfl (fun c2=>?_) (fun c2=>?_)
  ·refine W.skip (W.seq (W.block (W.sreg (WO.p rfl rfl (WO.indexV (vs:=encSd (l.getD i sd0)) (i:=k) rfl rfl rfl rfl (by omega) (prtS_get _ (by omega)) rfl (WO.p rfl rfl (WO.p rfl rfl (WO.nil ?_))))))))
   have p1:=prtS_bd (hb _ (getD_mem (show i<l.length by omega) sd0)) (k:=k)
   have p2:=prtS_bd (sum_in (by omega) hb (i:=i) (by omega)) (k:=k)
   rw [← ho] at p2
   refine W.region (WO.p rfl rfl (WO.indexArrE (i:=k) (o':=0+k*1) rfl rfl rfl rfl (by omega) rfl rfl ?_))
   refine' WO.load (v:=_) rfl rfl ?hc rfl ?_
   case hc=>(first | (refine cellK (b:=b2) (o:=o) (s:=l.getD i sd0) (k:=k) (o':=0+k*1) (t:=101) (fr:=(0,0)) ?_ (by omega) (by omega);repeat (first | exact Sub.nil | refine Sub.cons (by repeat exact .head) ?_)))
   refine WO.p rfl rfl (WO.ar rfl rfl rfl (by unfold in64;omega) rfl (WO.indexArrE (i:=k) (o':=0+k*1) rfl rfl rfl rfl (by omega) rfl rfl (WO.store1 (cs:=encSd (addK o (l.getD i sd0) k)) rfl rfl rfl rfl (by repeat exact .head) (by rw [Nat.blt_eq];show 0+k*1<3;omega) ?_)))
   rw [show 0+k*1=k by omega,show (encSd (addK o (l.getD i sd0) k)).set k (.int .i64 (prtS o k+prtS (l.getD i sd0) k))=encSd (addK o (l.getD i sd0) (k+1)) by rw [← addK_set (by omega),addK_at (by omega)]]
   refine WO.nil (W.region (WO.ar rfl rfl rfl (by unfold in64;omega) rfl (WO.p rfl rfl (WO.nil ?_))))
   refine' ⟨k+1,?hp,?hmu,⟨rfl,rfl,rfl,rfl,rfl,rfl,rfl,trivial⟩,?hS⟩
   case hS=>repeat (first | exact Sub.nil | refine Sub.cons (by repeat exact .head) ?_)
   case hp=>omega
   case hmu=>omega
  ·refine W.exit (blk_same ?_)
   obtain rfl:3=k:=by omega
   rw [addK_3]
   refine W.region (WO.ar rfl rfl rfl (by unfold in64;omega) rfl (WO.p rfl rfl (WO.nil ?_)))
   refine' ⟨i+1,_,?hp,?hmu,⟨rfl,rfl,rfl,rfl,rfl,trivial⟩,?hS⟩
   case hS=>repeat (first | exact Sub.nil | refine Sub.cons (by repeat exact .head) ?_)
   case hp=>exact ⟨by omega,by rw [sumS_take (by omega),ho]⟩
   case hmu=>omega
 ·refine W.exit (blk_same (W.sreg (WO.loadA rfl rfl (Cells.own Pick.head) rfl rfl (WO.storeA rfl rfl rfl rfl (Pick.tail (Pick.head)) rfl rfl (WO.nil (W.ret (fin.ret (Res.one rfl (RV.cell rfl rfl rfl (Cells.own (by repeat exact .head)))) ?_)))))))
  rw [show i=l.length by omega,List.take_length] at ho
  (rw [← ho];done)
end Go.Proofs.YtfchgmiiicidcaaGreat.Sp
namespace Go.Proofs.YtfchgmiiicidcaaGreat.Sp
open Go Go.TH
attribute [local irreducible] W WO pt
set_option maxRecDepth 10000
set_option maxHeartbeats 1000000
def gcd2 (a b:Int):Int:=(Nat.gcd a.toNat b.toNat:Nat)
theorem gcd2_zero {a:Int} (h:0≤a):gcd2 a 0=a:=by simp [gcd2];omega
theorem gcd2_comm (a b:Int):gcd2 a b=gcd2 b a:=by unfold gcd2;rw [Nat.gcd_comm]
theorem gcd2_step {a b:Int} (ha:0≤a) (hb:0<b):gcd2 b (a.tmod b)=gcd2 a b:=by
 unfold gcd2
 obtain ⟨n,rfl⟩:=Int.eq_ofNat_of_zero_le ha
 obtain ⟨m,rfl⟩:=Int.eq_ofNat_of_zero_le (Int.le_of_lt hb)
 rw [Int.tmod_eq_emod_of_nonneg (by omega),← Int.natCast_emod]
 simp only [Int.toNat_natCast]
 rw [Nat.gcd_comm m (n%m),← Nat.gcd_rec,Nat.gcd_comm]
theorem tmod_lt {a b:Int} (ha:0≤a) (hb:0<b):0≤a.tmod b∧a.tmod b<b:=⟨Int.tmod_nonneg b ha,Int.tmod_lt_of_pos a hb⟩
theorem gcd2_pos {a b:Int} (hb:0<b):0<gcd2 a b:=by
 unfold gcd2
 have:0<Nat.gcd a.toNat b.toNat:=Nat.gcd_pos_of_pos_right _ (by omega)
 omega
theorem ab_nn (n:Int):0≤ab n:=by unfold ab;omega
def red (n d:Int):Int × Int:=(n.tdiv (gcd2 (ab n) d),d.tdiv (gcd2 (ab n) d))
abbrev raV (r:Int × Int):Value:=.agg #[.int .i64 r.1,.int .i64 r.2]
theorem gcd2_dvd (n:Int) {d:Int} (hd:0<d):gcd2 (ab n) d∣n∧gcd2 (ab n) d∣d:=by
 unfold gcd2
 have h1:(Nat.gcd (ab n).toNat d.toNat:Int)∣((ab n).toNat:Int):=Int.natCast_dvd_natCast.2 (Nat.gcd_dvd_left _ _)
 have h2:(Nat.gcd (ab n).toNat d.toNat:Int)∣(d.toNat:Int):=Int.natCast_dvd_natCast.2 (Nat.gcd_dvd_right _ _)
 rw [Int.toNat_of_nonneg (ab_nn n)] at h1
 rw [Int.toNat_of_nonneg (by omega)] at h2
 refine ⟨?_,h2⟩
 unfold ab at h1 ⊢
 rcases Int.le_total 0 n with h | h
 ·rwa [show max n (-n)=n by omega] at h1 ⊢
 ·rw [show max n (-n) = -n by omega] at h1 ⊢;exact Int.dvd_neg.1 h1
theorem red_parts (n:Int) {d:Int} (hd:0<d):∃ g:Int,0<g∧n=(red n d).1*g∧d=(red n d).2*g∧0<(red n d).2∧(red n d).2≤d∧ab (red n d).1≤ab n:=by
 have hg:=gcd2_pos (a:=ab n) hd
 obtain ⟨⟨x,hx⟩,⟨y,hy⟩⟩:=gcd2_dvd n hd
 have e1:n.tdiv (gcd2 (ab n) d)=x:=by
  generalize gcd2 (ab n) d=g at *
  rw [hx,Int.mul_tdiv_cancel_left _ (by omega)]
 have e2:d.tdiv (gcd2 (ab n) d)=y:=by
  generalize gcd2 (ab n) d=g at *
  rw [hy,Int.mul_tdiv_cancel_left _ (by omega)]
 have e3:red n d=(x,y):=by unfold red;rw [e1,e2]
 rw [e3]
 generalize gcd2 (ab n) d=g at *
 have hy0:0<y:=by
  rcases Int.lt_or_le 0 y with h | h
  ·exact h
  ·have:=Int.mul_nonneg (show 0≤g by omega) (show 0 ≤ -y by omega)
   rw [Int.mul_neg] at this;omega
 refine ⟨g,hg,by rw [hx];exact Int.mul_comm _ _,by rw [hy];exact Int.mul_comm _ _,hy0,?_,?_⟩
 ·show y≤d
  have:=Int.mul_le_mul_of_nonneg_right (show 1≤g by omega) (show 0≤y by omega)
  omega
 ·show ab x≤ab n
  rw [hx]
  unfold ab
  rcases Int.le_total 0 x with h | h
  ·have a1:=Int.mul_le_mul_of_nonneg_right (show 1≤g by omega) h
   rw [Int.one_mul] at a1;omega
  ·have a1:=Int.mul_le_mul_of_nonneg_right (show 1≤g by omega) (show 0 ≤ -x by omega)
   rw [Int.one_mul,Int.mul_neg] at a1;omega
theorem tdiv_bd {n g:Int} (hg:0<g) (h : -4000000000000000000≤n∧n≤4000000000000000000) : -4000000000000000000≤n.tdiv g∧n.tdiv g≤4000000000000000000:=by
 rcases Int.le_total 0 n with h0 | h0
 ·have h1:=Int.tdiv_nonneg (a:=n) (b:=g) h0 (by omega)
  have h2:=Int.tdiv_le_self (a:=n) g h0
  omega
 ·have h1:=Int.tdiv_nonneg (a := -n) (b:=g) (by omega) (by omega)
  have h2:=Int.tdiv_le_self (a := -n) g (by omega)
  rw [Int.neg_tdiv] at h1 h2;omega
theorem c_common (w:World) (n d:Int) (hn : -4000000000000000000≤n∧n≤4000000000000000000) (hd:0<d):Ret Tryz.prog 198 [.int .i64 n,.int .i64 d].toArray w (.int .i64 (gcd2 (ab n) d)):=by
 refine Ret.of mixed tyTab Tryz.func198 rfl rfl (W.sreg (WO.p rfl rfl (WO.nil (W.sreg (WO.p rfl rfl (WO.p rfl rfl (WO.neg rfl (by unfold in64;omega) rfl (WO.max2 rfl rfl rfl (WO.p rfl rfl (WO.nil (W.seq (W.block ?_))))))))))))
 refine W.loop2 (fun (x:Int) (y:Int)=>0≤x∧0≤y∧gcd2 x y=gcd2 (ab n) d)
  (fun (x:Int) (y:Int)=>[(0,.int .i64 x),(1,.int .i64 y)])
  (fun (x:Int) (y:Int)=>[])
  (fun (x:Int) (y:Int)=>x.toNat) (ab n) d
  (by exact ⟨ab_nn n,by omega,rfl⟩) ⟨rfl,rfl,trivial⟩ (by repeat (first | exact Sub.nil | refine Sub.cons (by repeat first | exact .head | apply Pick.tail) ?_)) ?_
 rintro x y ⟨hx,hy,hg⟩
 refine W.seq (W.sreg (WO.p rfl rfl (WO.p rfl rfl (WO.nil ?_))))
 refine W.cond_bl rfl (fun c1=>?_) (fun c1=>?_)
 ·refine W.skip (W.block (W.region (WO.p rfl rfl (WO.p rfl rfl (WO.rem rfl rfl (by omega) rfl (WO.p rfl rfl (WO.p rfl rfl (WO.p rfl rfl (WO.nil ?_)))))))))
  refine' ⟨_,_,?hp,?hmu,⟨rfl,rfl,trivial⟩,?hS⟩
  case hS=>repeat (first | exact Sub.nil | refine Sub.cons (by repeat first | exact .head | apply Pick.tail) ?_)
  case hp=>exact ⟨(tmod_lt hy (by omega)).1,hx,by rw [← hg,gcd2_comm (y.tmod x) x,gcd2_step hy (by omega),gcd2_comm]⟩
  case hmu=>have:=tmod_lt hy (show 0<x by omega);omega
 ·refine W.exit (blk_same (W.sreg (WO.p rfl rfl (WO.p rfl rfl (WO.nil (W.ret (fin.ret (Res.one rfl (RV.tmp rfl)) ?_)))))))
  obtain rfl:x=0:=by omega
  rw [← hg,gcd2_comm,gcd2_zero hy]
theorem c_ratio (w:World) (n d:Int) (hn : -4000000000000000000≤n∧n≤4000000000000000000) (hd:0<d∧d≤4000000000000000000):Ret Tryz.prog 107 [.int .i64 n,.int .i64 d].toArray w (raV (red n d)):=by
 refine Ret.of mixed tyTab Tryz.func107 rfl rfl ?_
 have hg:=gcd2_pos (a:=ab n) hd.1
 have h1:=tdiv_bd hg hn
 have h2:=tdiv_bd hg (n:=d) (by omega)
 refine W.sreg (WO.alloc rfl rfl rfl (fun b1 hb1=>(WO.nil (W.sreg (WO.p rfl rfl (WO.p rfl rfl (WO.callR rfl Tryz.call198 (fun L w hi=>c_common w n d hn hd.1) rfl (WO.p rfl rfl (WO.nil (W.seq ?_))))))))))
 refine W.drawD 6 [.r 0 [],.r 1 [],.r 2 [],.r 3 [],.r 4 [],.r 5 []] [] (A0:=[]) (Sub.refl _) (by kernel_rfl) ?_ ?_
 ·repeat constructor
 refine DT.r rfl rfl rfl (WO.p rfl rfl (WO.nil ⟨rfl,rfl⟩)) (DT.r rfl rfl rfl (WO.p rfl rfl (WO.nil ⟨rfl,rfl⟩)) (DT.r rfl rfl rfl (WO.quo rfl rfl (by omega) (by unfold in64;omega) rfl (WO.nil ⟨rfl,rfl⟩)) (DT.r rfl rfl rfl (WO.p rfl rfl (WO.nil ⟨rfl,rfl⟩)) (DT.r rfl rfl rfl (WO.p rfl rfl (WO.nil ⟨rfl,rfl⟩)) (DT.r rfl rfl rfl (WO.quo rfl rfl (by omega) (by unfold in64;omega) rfl (WO.nil ⟨rfl,rfl⟩)) (DT.nil [_] rfl (WO.build rfl rfl rfl rfl rfl (WO.storeA rfl rfl rfl rfl Pick.head rfl rfl (WO.nil (W.ret ?_))))))))))
 exact fin.ret (Res.one rfl (RV.cell rfl rfl rfl (Cells.own Pick.head))) rfl
theorem c_less (w:World) (a b c d:Int) (h1:in64 (a*d)) (h2:in64 (c*b)):Ret Tryz.prog 180 [.agg #[.int .i64 a,.int .i64 b],.agg #[.int .i64 c,.int .i64 d]].toArray w (.bool (bl (a*d<c*b))):=by
 refine Ret.of mixed tyTab Tryz.func180 rfl rfl (W.sreg (WO.boxA rfl rfl (fun b1 hb1=>(WO.boxA rfl rfl (fun b2 hb2=>(WO.p rfl rfl (WO.nil (W.sreg (WO.field0 rfl rfl rfl (WO.load rfl rfl (Cell.own (Pick.tail (Pick.head)) rfl) rfl (WO.fieldL rfl rfl rfl (WO.load rfl rfl (Cell.own Pick.head rfl) rfl (WO.ar rfl rfl rfl (by (assumption)) rfl (WO.field0 rfl rfl rfl (WO.load rfl rfl (Cell.own Pick.head rfl) rfl (WO.fieldL rfl rfl rfl (WO.load rfl rfl (Cell.own (Pick.tail (Pick.head)) rfl) rfl (WO.ar rfl rfl rfl (by (assumption)) rfl (WO.p rfl rfl (WO.p rfl rfl (WO.nil (W.ret ?_))))))))))))))))))))))
 exact fin.ret (Res.one rfl (RV.tmp rfl)) rfl
end Go.Proofs.YtfchgmiiicidcaaGreat.Sp
namespace Go.Proofs.YtfchgmiiicidcaaGreat.Sp
open Go Go.TH
attribute [local irreducible] W WO pt
set_option maxRecDepth 10000
set_option maxHeartbeats 1000000
def encPr (r:Rn):List Value:=[.int .i64 r.p,.int .i64 r.q,.int .i64 r.lo,.int .i64 r.hi,.int .i64 r.p,.int .i64 r.q,.int .i64 r.lo,.int .i64 (-r.p),.int .i64 (-r.q),.int .i64 (-r.hi)]
theorem encPr_ok:EncOk encPr 10:=⟨fun _=>rfl,fun x u hu=>by simp [encPr] at hu;rcases hu with rfl | rfl | rfl | rfl | rfl | rfl | rfl | rfl | rfl | rfl <;> rfl,by omega⟩
def sds (l:List Rn):List Sd:=l.flatMap fun r=>[loS r,hiS r]
theorem sds_len (l:List Rn):(sds l).length=2*l.length:=by
 induction l with
 | nil=>rfl
 | cons r l ih=>show (_::_::sds l).length=_;simp only [List.length_cons,ih];omega
theorem sds_step {l:List Rn} {i:Nat} (h:i<l.length):sds (l.take i)++[loS (l.getD i rn0),hiS (l.getD i rn0)]=sds (l.take (i+1)):=by
 unfold sds;rw [take_succ_getD h rn0,List.flatMap_append];rfl
theorem sds_ok {l:List Rn} (h:OkRs l):∀ s∈sds l,OkS 20 100000 s:=fun s hs=>by
 obtain ⟨r,hr,hm⟩:=List.mem_flatMap.1 hs
 have:s=loS r∨s=hiS r:=by simpa using hm
 rcases this with rfl | rfl
 ·exact OkS.lo (h r hr)
 ·exact OkS.hi (h r hr)
structure Tbl (B:Nat) (w:World) (p:Addr) (rv sv:Value) (l:List Rn):Prop where
 c:RdC B w p [rv,sv]
 r:RdF encPr 10 B w rv l
 s:RdF encSd 3 B w sv (sds l)
theorem Tbl.later {C:Cx Tryz.prog} {H L:List HP} {w:World} {p:Addr} {rv sv:Value} {l:List Rn} (h:Tbl C.B C.w0 p rv sv l) (hi:Inv C.w0 C.M (L++H) w):Tbl w.heap.size w p rv sv l:=⟨h.c.later hi,h.r.later hi,h.s.later hi⟩
theorem Tbl.agree {B:Nat} {w w':World} {p:Addr} {rv sv:Value} {l:List Rn} (h:Tbl B w p rv sv l) (hk:∀ k,k<B→w'.heap[k]?=w.heap[k]?):Tbl B w' p rv sv l:=⟨h.c.agree hk,h.r.agree hk,h.s.agree hk⟩
theorem Tbl.own {C:Cx Tryz.prog} {H H1 H2 H3 L:List HP} {w:World} {b:Nat} {rv sv:Value} {l:List Rn} (p:Pick (pt b (.cells #[rv,sv] 287 (0,0))) H H1) (q:Pick (OwE encPr 262 10 rv l) H H2) (r:Pick (OwE encSd 101 3 sv (sds l)) H H3) (hi:Inv C.w0 C.M (L++H) w):Tbl w.heap.size w ⟨b,0,none⟩ rv sv l :=
 ⟨RdC.own p hi,RdF.of_ow encPr_ok q hi,RdF.of_ow encSd_ok r hi⟩
theorem isSl_lit {a0:Option Addr} {n c:Nat} (h:n≤9223372036854775807) (h2:0<n→∃ b o,a0=some ⟨b,o,none⟩):IsSl (.slice a0 n c) n:=⟨h,a0,c,rfl,h2⟩
theorem c_newTable (w:World) (v:Value) (l:List Rn) (hR:RdF encRn 4 w.heap.size w v l) (hok:OkRs l) (hl:l.length≤12):Ct Tryz.prog 104 [v].toArray w fun u w'=>∃ Hq,(∃ (b:Nat) (rv sv:Value),u=.pointer (some ⟨b,0,none⟩)∧Hq=[pt b (.cells #[rv,sv] 287 (0,0)),OwE encPr 262 10 rv l,OwE encSd 101 3 sv (sds l)])∧Inv w [] Hq w':=by
 refine Ct.of mixed tyTab Tryz.func104 rfl rfl ?_
 replace hR:RdF encRn 4 (fnCx mixed tyTab Tryz.f104.ntmps w).B (fnCx mixed tyTab Tryz.f104.ntmps w).w0 v l:=hR
 have hle:=hR.sl.le
 refine W.sreg (WO.p rfl rfl (WO.nil (W.sreg (WO.build rfl rfl rfl rfl rfl (WO.boxA rfl rfl (fun b1 hb1=>(WO.p rfl rfl (WO.nil (W.seq (W.sreg (WO.p rfl rfl (WO.len rfl rfl hR.sl rfl (WO.p rfl rfl (WO.nil (W.block (W.chg (owNil (enc:=encSd) (e:=101) (sz:=3)) (W.chg (owNil (enc:=encPr) (e:=262) (sz:=10)) ?_)))))))))))))))))
 refine W.loop3 (fun (i:Nat) (rv:Value) (sv:Value)=>i≤l.length)
  (fun (i:Nat) (rv:Value) (sv:Value)=>[(11,.int .i64 (i:Int)),(10,.int .i64 (l.length:Int)),(9,v),(3,.pointer (some ⟨b1,0,none⟩))])
  (fun (i:Nat) (rv:Value) (sv:Value)=>[pt b1 (.cells #[rv,sv] 287 (0,0)),OwE encPr 262 10 rv (l.take i),OwE encSd 101 3 sv (sds (l.take i))])
  (fun (i:Nat) (rv:Value) (sv:Value)=>l.length-i) 0 (.slice none 0 0) (.slice none 0 0)
  (by omega) ⟨rfl,rfl,rfl,rfl,trivial⟩ (by repeat (first | exact Sub.nil | refine Sub.cons (by repeat first | exact .head | apply Pick.tail) ?_)) ?_
 rintro i rv sv hi0
 refine W.sreg (WO.p rfl rfl (WO.nil (W.seq ?_)))
 refine W.cond_bl rfl (fun c1=>?_) (fun c1=>?_)
 ·refine W.skip (W.seq (W.block (W.sreg (WO.indexAddr rfl rfl rfl hR.sl (by omega) rfl (WO.loadA rfl rfl (RdF.cells4 hR (i:=i) (by omega)) rfl rfl (WO.alloc rfl rfl rfl (fun b2 hb2=>(WO.storeA rfl rfl rfl rfl Pick.head rfl rfl (WO.nil (W.sreg (WO.loadA rfl rfl (Cells.own Pick.head) rfl rfl (WO.callR rfl Tryz.call170 (fun L w hi=>c_newPair w (l.getD i rn0) (hok _ (getD_mem (by omega) rn0))) rfl (WO.alloc rfl rfl rfl (fun b3 hb3=>(WO.storeA rfl rfl rfl rfl Pick.head rfl rfl (WO.nil (W.seq (W.fact (OwE.form (enc:=encPr) (e:=262) (sz:=10) (by repeat first | exact .head | apply Pick.tail)) (fun hf=>?_)))))))))))))))))))
  obtain ⟨fa,fc,rfl⟩:=hf
  refine W.fact (OwE.form (enc:=encSd) (e:=101) (sz:=3) (by repeat first | exact .head | apply Pick.tail)) (fun hf2=>?_)
  obtain ⟨ga,gc,rfl⟩:=hf2
  refine W.drawD 8 [.r 0 [],.r 1 [],.r 2 [],.r 3 [],.b 4 [],.b 5 [],.c 6 [],.c 7 []] [] (A0:=[_]) (H0:=[_,_,_,_]) (.cons (Pick.tail (Pick.tail (Pick.tail .head))) (.cons .head (.cons .head (.cons .head (.cons .head .nil))))) (by kernel_rfl) ?_ ?_
  ·repeat constructor
  refine DT.r rfl rfl rfl (WO.p rfl rfl (WO.nil ⟨rfl,rfl⟩)) (DT.r rfl rfl rfl (WO.p rfl rfl (WO.nil ⟨rfl,rfl⟩)) (DT.r rfl rfl rfl (WO.p rfl rfl (WO.nil ⟨rfl,rfl⟩)) (DT.r rfl rfl rfl (WO.field0 rfl rfl rfl (WO.nil ⟨rfl,rfl⟩)) (DT.b rfl rfl rfl (WO.load rfl rfl (Cell.own (Pick.tail (Pick.tail (Pick.head))) rfl) rfl (WO.nil ⟨rfl,rfl⟩)) (DT.b rfl rfl rfl (WO.loadA rfl rfl (Cells.own Pick.head) rfl rfl (WO.nil ⟨rfl,rfl⟩)) (DT.c [_,_,_,_,_] rfl rfl rfl rfl (WO.buildSl rfl rfl rfl rfl rfl rfl rfl rfl rfl (fun v4=>?_))))))))
  refine WO.nil ⟨_,[_,_],rfl,rfl,(Keep.b (Keep.b (Keep.r (Keep.r (Keep.r (Keep.r Keep.nil)))))),?_⟩
  refine DT.c [_,_,_,_,_,_] rfl rfl rfl rfl ?_
  refine' WO.appendE (enc:=encPr) (m:=1) (ys:=[l.getD i rn0]) encPr_ok rfl rfl rfl rfl rfl (by repeat first | exact .head | apply Pick.tail) (isSl_lit (by omega) (fun _=>⟨_,_,rfl⟩)) (by omega) rfl (OwC.cells .head) (by rw [List.length_take];omega) (by rw [List.length_take];omega) rfl (fun g c=>?_)
  rw [← take_succ_getD (by omega) rn0]
  refine WO.nil ⟨_,[_,_],rfl,rfl,(Keep.c (Keep.b (Keep.b (Keep.r (Keep.r (Keep.r (Keep.r Keep.nil))))))),?_⟩
  refine DT.nil [_,_,_,_,_,_] rfl (WO.p rfl rfl (WO.field0 rfl rfl rfl (WO.store1 rfl rfl rfl (by rfl) (Pick.tail (Pick.tail (Pick.tail (Pick.tail (Pick.head))))) rfl (WO.nil ?_))))
  refine W.drawD 11 [.r 0 [],.r 1 [],.r 2 [],.r 3 [],.b 4 [],.r 5 [],.b 6 [],.r 7 [],.b 8 [],.c 9 [],.c 10 []] [] (A0:=[_]) (H0:=[_,_,_,_,_]) (.cons (Pick.tail (Pick.tail (Pick.tail (Pick.tail (Pick.tail .head))))) (.cons .head (.cons .head (.cons .head (.cons .head (.cons .head .nil)))))) (by kernel_rfl) ?_ ?_
  ·repeat constructor
  refine DT.r rfl rfl rfl (WO.p rfl rfl (WO.nil ⟨rfl,rfl⟩)) (DT.r rfl rfl rfl (WO.p rfl rfl (WO.nil ⟨rfl,rfl⟩)) (DT.r rfl rfl rfl (WO.p rfl rfl (WO.nil ⟨rfl,rfl⟩)) (DT.r rfl rfl rfl (WO.fieldL rfl rfl rfl (WO.nil ⟨rfl,rfl⟩)) (DT.b rfl rfl rfl (WO.load rfl rfl (Cell.own Pick.head rfl) rfl (WO.nil ⟨rfl,rfl⟩)) (DT.r rfl rfl rfl (WO.fieldL rfl rfl rfl (WO.nil ⟨rfl,rfl⟩)) (DT.b rfl rfl rfl (WO.loadA rfl rfl (Cells.ownAt (n:=3) (Pick.tail (Pick.tail (Pick.tail (Pick.head)))) rfl) rfl rfl (WO.nil ⟨rfl,rfl⟩)) (DT.r rfl rfl rfl (WO.fieldL rfl rfl rfl (WO.nil ⟨rfl,rfl⟩)) ?_)))))))
  refine DT.b rfl rfl rfl (WO.loadA rfl rfl (Cells.ownAt (n:=3) (Pick.tail (Pick.tail (Pick.tail (Pick.head)))) rfl) rfl rfl (WO.nil ⟨rfl,rfl⟩)) (DT.c [_,_,_,_,_,_] rfl rfl rfl rfl (WO.buildSl rfl rfl rfl rfl rfl rfl rfl rfl rfl (fun v5=>?_)))
  refine WO.nil ⟨_,[_,_],rfl,rfl,(Keep.b (Keep.r (Keep.b (Keep.r (Keep.b (Keep.r (Keep.r (Keep.r (Keep.r Keep.nil))))))))),?_⟩
  refine DT.c [_,_,_,_,_,_,_] rfl rfl rfl rfl ?_
  refine' WO.appendE (enc:=encSd) (m:=2) (ys:=[loS (l.getD i rn0),hiS (l.getD i rn0)]) encSd_ok rfl rfl rfl rfl rfl (by repeat first | exact .head | apply Pick.tail) (isSl_lit (by omega) (fun _=>⟨_,_,rfl⟩)) (by omega) rfl (OwC.cells .head) (by rw [sds_len,List.length_take];omega) (by rw [sds_len,List.length_take];omega) rfl (fun g c=>?_)
  rw [sds_step (by omega)]
  refine WO.nil ⟨_,[_,_],rfl,rfl,(Keep.c (Keep.b (Keep.r (Keep.b (Keep.r (Keep.b (Keep.r (Keep.r (Keep.r (Keep.r Keep.nil)))))))))),?_⟩
  refine DT.nil [_,_,_,_,_,_,_] rfl (WO.p rfl rfl (WO.fieldL rfl rfl rfl (WO.store1 rfl rfl rfl (by rfl) (Pick.tail (Pick.tail (Pick.head))) rfl (WO.nil (W.region (WO.ar rfl rfl rfl (by unfold in64;omega) rfl (WO.p rfl rfl (WO.nil ?_))))))))
  refine' ⟨i+1,_,_,?hp,?hmu,⟨rfl,rfl,rfl,rfl,trivial⟩,?hS⟩
  case hS=>repeat (first | exact Sub.nil | refine Sub.cons (by repeat first | exact .head | apply Pick.tail) ?_)
  case hp=>omega
  case hmu=>omega
 ·refine W.exit (blk_same ?_)
  obtain rfl:l.length=i:=by omega
  rw [List.take_length]
  refine W.sreg (WO.p rfl rfl (WO.p rfl rfl (WO.nil (W.ret ?_))))
  exact fin.ret (Res.one rfl (RV.tmp rfl)) ⟨b1,rv,sv,rfl,rfl⟩
end Go.Proofs.YtfchgmiiicidcaaGreat.Sp
namespace Go.Proofs.YtfchgmiiicidcaaGreat.Sp
open Go Go.TH
attribute [local irreducible] W WO pt
set_option maxRecDepth 10000
set_option maxHeartbeats 1000000
def seg {β:Type} (lo hi:Nat) (g:Nat→List β):List β:=(List.range (hi-lo)).flatMap fun t=>g (lo+t)
theorem seg_none {β:Type} (lo:Nat) (g:Nat→List β):seg lo lo g=[]:=by unfold seg;simp
theorem seg_succ {β:Type} {lo hi:Nat} (h:lo≤hi) (g:Nat→List β):seg lo (hi+1) g=seg lo hi g++g hi:=by
 unfold seg;rw [show hi+1-lo=(hi-lo)+1 by omega,List.range_succ,List.flatMap_append];simp [show lo+(hi-lo)=hi by omega]
theorem seg_get {β:Type} {lo i t:Nat} {g:Nat→List β} {x:β} (h1:lo≤i) (ht:(g i)[t]?=some x):∀ {hi:Nat},i<hi→(seg lo hi g)[(seg lo i g).length+t]?=some x
 | 0,h=>by omega
 | hi+1,h=>by
  rw [seg_succ (by omega)]
  rcases Nat.lt_or_ge i hi with g1 | g1
  ·have:=seg_get (lo:=lo) h1 ht (hi:=hi) g1
   rw [List.getElem?_append_left (List.getElem?_eq_some_iff.1 this).1];exact this
  ·obtain rfl:i=hi:=by omega
   rw [List.getElem?_append_right (by omega),Nat.add_sub_cancel_left];exact ht
theorem seg_one {β:Type} (lo:Nat) (g:Nat→β):∀ {hi:Nat},lo≤hi→(seg lo hi fun i=>[g i]).length=hi-lo
 | 0,h=>by obtain rfl:lo=0:=(by omega);rw [seg_none];rfl
 | hi+1,h=>by
  rcases Nat.lt_or_ge hi lo with g1 | g1
  ·obtain rfl:lo=hi+1:=(by omega);rw [seg_none];simp
  ·rw [seg_succ g1,List.length_append,seg_one lo g g1];simp;omega
theorem mem_seg {β:Type} {lo hi:Nat} {g:Nat→List β} {x:β}:x∈seg lo hi g↔∃ i,lo≤i∧i<hi∧x∈g i:=by
 unfold seg
 simp only [List.mem_flatMap,List.mem_range]
 constructor
 ·rintro ⟨t,ht,hx⟩;exact ⟨lo+t,by omega,by omega,hx⟩
 ·rintro ⟨i,h1,h2,hx⟩;exact ⟨i-lo,by omega,by rw [show lo+(i-lo)=i by omega];exact hx⟩
def F3 (n a b:Nat):List (List Int):=seg (b+1) n fun c=>[[(a:Int),(b:Int),(c:Int)]]
def F2 (m n a b:Nat):List (List Int):=[(a:Int),(b:Int)]::(if m=3 then F3 n a b else [])
def F1 (m n a:Nat):List (List Int):=[(a:Int)]::seg (a+1) n (F2 m n a)
def grp (m n:Nat):List (List Int):=seg 0 n (F1 m n)
def qa (m n a:Nat):Nat:=(seg 0 a (F1 m n)).length
def qb (m n a b:Nat):Nat:=qa m n a+((seg (a+1) b (F2 m n a)).length+1)
def qc (m n a b c:Nat):Nat:=qb m n a b+((c-(b+1))+1)
theorem ga_get {m n a:Nat} (h:a<n):(grp m n)[qa m n a]?=some [(a:Int)]:=seg_get (lo:=0) (i:=a) (t:=0) (g:=F1 m n) (by omega) rfl h
theorem gb_get {m n a b:Nat} (ha:a<n) (h1:a+1≤b) (h2:b<n):(grp m n)[qb m n a b]?=some [(a:Int),(b:Int)]:=by
 refine seg_get (lo:=0) (i:=a) (g:=F1 m n) (by omega) ?_ ha
 unfold F1
 rw [List.getElem?_cons_succ]
 exact seg_get (lo:=a+1) (i:=b) (t:=0) (g:=F2 m n a) h1 rfl h2
theorem gc_get {n a b c:Nat} (ha:a<n) (h1:a+1≤b) (h2:b<n) (h3:b+1≤c) (h4:c<n):(grp 3 n)[qc 3 n a b c]?=some [(a:Int),(b:Int),(c:Int)]:=by
 have e:qc 3 n a b c=qa 3 n a+((seg (a+1) b (F2 3 n a)).length+((c-(b+1))+1)+1):=by unfold qc qb;omega
 rw [e]
 refine seg_get (lo:=0) (i:=a) (g:=F1 3 n) (by omega) ?_ ha
 unfold F1
 rw [List.getElem?_cons_succ]
 refine seg_get (lo:=a+1) (i:=b) (g:=F2 3 n a) h1 ?_ h2
 unfold F2
 rw [List.getElem?_cons_succ,if_pos rfl]
 have:=seg_get (lo:=b+1) (i:=c) (t:=0) (g:=fun c:Nat=>[[(a:Int),(b:Int),(c:Int)]]) (x:=[(a:Int),(b:Int),(c:Int)]) h3 rfl (hi:=n) h4
 rw [seg_one (b+1) (fun c:Nat=>[(a:Int),(b:Int),(c:Int)]) (by omega)] at this
 exact this
theorem qb_0 (m n a:Nat):qb m n a (a+1)=qa m n a+1:=by unfold qb;rw [seg_none];rfl
theorem qa_succ (m n a:Nat):qa m n (a+1)=qb m n a n:=by unfold qa qb;rw [seg_succ (by omega),List.length_append];rfl
theorem qc_0 (m n a b:Nat):qc m n a b (b+1)=qb m n a b+1:=by unfold qc;omega
theorem qc_succ {m n a b c:Nat} (h:b+1≤c):qc m n a b (c+1)=qc m n a b c+1:=by unfold qc;omega
theorem qb_succ {m n a b c:Nat} (h1:a+1≤b) (hb:b<n) (hm:m=2∨m=3) (hc:(m=2→c=b+1)∧(m=3→c=n)):qb m n a (b+1)=qc m n a b c:=by
 unfold qc qb
 rw [seg_succ (by omega),List.length_append]
 unfold F2
 rw [List.length_cons]
 rcases hm with rfl | rfl
 ·rw [hc.1 rfl,if_neg (by omega)];simp;omega
 ·rw [hc.2 rfl,if_pos rfl];unfold F3;rw [seg_one (b+1) (fun c:Nat=>[(a:Int),(b:Int),(c:Int)]) (by omega)];omega
theorem grp_len (m n:Nat):(grp m n).length=qa m n n:=rfl
theorem c_groups (w:World) (p:Addr) (m:Int):Ct Tryz.prog 191 [.pointer (some p),.int .i64 m].toArray w fun v w'=>∃ Hq,(∃ b1 b2,v=.func (.func 276) #[] #[.pointer (some ⟨b1,0,none⟩),.pointer (some ⟨b2,0,none⟩)] ∧
 Hq=[pt b2 (.cells #[.int .i64 m] 3 (0,0)),pt b1 (.cells #[.pointer (some p)] 186 (0,0))])∧Inv w [] Hq w':=by
 refine Ct.of mixed tyTab Tryz.func191 rfl rfl (W.sreg (WO.box1 rfl (by rfl) rfl (fun b1 hb1=>(WO.box1 rfl (by rfl) rfl (fun b2 hb2=>(WO.p rfl rfl (WO.nil (W.sreg (WO.p rfl rfl (WO.p rfl rfl (WO.nil (W.ret ?_))))))))))))
 exact fin.ret (Res.one rfl (RV.tmp rfl)) ⟨b1,b2,rfl,rfl⟩
theorem c_groups1 (B:Nat) (wr:World) (p:Addr) (rv sv:Value) (rl:List Rn) (hT:Tbl B wr p rv sv rl) (n:Nat) (hn:n=(sds rl).length) (m:Nat) (hm:m=2∨m=3) (hn24:n≤24) (last:Nat) (l:Nat) (Hc:Nat→List HP) (hy:∀ k x v,(grp m n)[k]?=some x→k≤last→YieldB Tryz.prog B wr l #[v] (bl (k<last)) (OwE encI 3 1 v x::Hc k) (Hc (k+1))) (b1 b2:Nat) (w:World) (M':List Nat) (hB:B≤w.heap.size) (hk:∀ k,k<B→w.heap[k]?=wr.heap[k]?) (hM:∀ b∈M',B≤b)
 (hi:Inv w M' ([pt b2 (.cells #[.int .i64 (m:Int)] 3 (0,0)),pt b1 (.cells #[.pointer (some p)] 186 (0,0))]++Hc 0) w) :
 Ct Tryz.prog 276 ([.func (.yield l) #[] #[],.pointer (some ⟨b1,0,none⟩),.pointer (some ⟨b2,0,none⟩)]:List Value).toArray w fun _ w'=>Inv w M' ([pt b2 (.cells #[.int .i64 (m:Int)] 3 (0,0)),pt b1 (.cells #[.pointer (some p)] 186 (0,0))]++Hc (min (grp m n).length (last+1))) w':=by
 refine Iter.of mixed tyTab hB hM Tryz.func276 rfl rfl hi ?_
 have hT2:=hT.agree hk
 have hsv:IsSl sv n:=by rw [hn];exact hT2.s.sl
 refine W.sreg (WO.load rfl rfl (Cell.own (Pick.tail (Pick.head)) rfl) rfl (WO.p rfl rfl (WO.field rfl rfl rfl ?_)))
 refine' WO.load (v:=_) rfl rfl ?hc rfl ?_
 case hc=>((refine RdC.cellAt hT2.c (j:=1) ?_;rfl))
 refine WO.len rfl rfl hsv rfl (WO.p rfl rfl (WO.nil (W.sreg (WO.p rfl rfl (WO.p rfl rfl (WO.nil (W.block ?_)))))))
 rw [show Hc 0=Hc (qa m n 0) by rw [show qa m n 0=0 from rfl]]
 refine W.loop (fun (a:Nat)=>a≤n∧qa m n a≤last)
  (fun (a:Nat)=>[(14,.int .i64 (a:Int)),(13,.int .i64 (n:Int)),(4,.int .i64 (n:Int)),(0,.func (.yield l) #[] #[]),(1,.pointer (some ⟨b1,0,none⟩)),(2,.pointer (some ⟨b2,0,none⟩))])
  (fun (a:Nat)=>[pt b1 (.cells #[.pointer (some p)] 186 (0,0)),pt b2 (.cells #[.int .i64 (m:Int)] 3 (0,0)),sat (Hc (qa m n a))])
  (fun (a:Nat)=>n-a) 0
  (by exact ⟨by omega,by show qa m n 0≤last;exact Nat.zero_le _⟩) ⟨rfl,rfl,rfl,rfl,rfl,rfl,trivial⟩ (by repeat (first | exact Sub.nil | refine Sub.cons (by repeat first | exact .head | apply Pick.tail) ?_)) ?_
 rintro a ⟨ha,hal⟩
 refine W.sreg (WO.p rfl rfl (WO.nil (W.seq ?_)))
 refine W.cond_bl rfl (fun c1=>?_) (fun c1=>?_)
 ·refine W.skip (W.seq (W.block (W.sreg (WO.p rfl rfl (WO.p rfl rfl (WO.nil (W.seq (W.sreg (WO.p rfl rfl (WO.p rfl rfl (WO.buildSl rfl rfl rfl rfl rfl rfl rfl rfl rfl (fun v1=>(WO.yieldB (go:=bl (qa m n a<last)) rfl rfl (by repeat exact .head) (by repeat first | exact .head | apply Pick.tail) (((hy _ _ _ (ga_get (by omega)) (by omega)).one).agree hk) rfl ?_)))))))))))))
  have hget:=(List.getElem?_eq_some_iff.1 (ga_get (by omega):(grp m n)[qa m n a]?=some _)).1
  refine WO.p rfl rfl (WO.nil ?_)
  refine W.cond_nbl rfl (fun c2=>?_) (fun c2=>?_)
  ·refine W.ret (fin.ret (Res.none rfl) ?_)
   rw [show min (grp m n).length (last+1)=qa m n a+1 by omega]
   repeat (first | exact Sub.nil | refine Sub.cons (by repeat first | exact .head | apply Pick.tail) ?_)
  ·refine W.skip (W.sreg (WO.p rfl rfl (WO.ar rfl rfl rfl (by unfold in64;omega) rfl (WO.p rfl rfl (WO.nil (W.block ?_))))))
   rw [show qa m n a+1=qb m n a (a+1) from (qb_0 m n a).symm]
   refine W.loop (fun (b:Nat)=>a+1≤b∧b≤n∧qb m n a b≤last)
    (fun (b:Nat)=>[(14,.int .i64 (a:Int)),(13,.int .i64 (n:Int)),(4,.int .i64 (n:Int)),(5,.int .i64 (a:Int)),(6,.int .i64 (b:Int)),(0,.func (.yield l) #[] #[]),(1,.pointer (some ⟨b1,0,none⟩)),(2,.pointer (some ⟨b2,0,none⟩))])
    (fun (b:Nat)=>[pt b1 (.cells #[.pointer (some p)] 186 (0,0)),pt b2 (.cells #[.int .i64 (m:Int)] 3 (0,0)),sat (Hc (qb m n a b))])
    (fun (b:Nat)=>n-b) (a+1)
    (by exact ⟨by omega,by omega,by rw [qb_0];omega⟩) ⟨rfl,rfl,rfl,rfl,rfl,rfl,rfl,rfl,trivial⟩ (by repeat (first | exact Sub.nil | refine Sub.cons (by repeat first | exact .head | apply Pick.tail) ?_)) ?_
   rintro b ⟨hb1,hb2,hbl⟩
   refine W.seq (W.sreg (WO.p rfl rfl (WO.p rfl rfl (WO.p rfl rfl (WO.p rfl rfl ?_)))))
   refine WO.guard_bl rfl rfl (fun c3=>?_) (fun c3=>?_)
   ·refine WO.go' rfl (WO.load rfl rfl (Cell.own (Pick.tail (Pick.head)) rfl) rfl (WO.pg rfl rfl rfl (WO.p rfl rfl (WO.nil ?_))))
    refine W.cond_bl rfl (fun c4=>?_) (fun c4=>?_)
    ·refine W.skip (W.seq (W.block (W.seq (W.sreg (WO.p rfl rfl (WO.p rfl rfl (WO.p rfl rfl (WO.buildSl rfl rfl rfl rfl rfl rfl rfl rfl rfl (fun v2=>(WO.yieldB (go:=bl (qb m n a b<last)) rfl rfl (by repeat exact .head) (by repeat first | exact .head | apply Pick.tail) (((hy _ _ _ (gb_get (by omega) (by omega) (by omega)) (by omega)).one).agree hk) rfl ?_))))))))))
     have hget:=(List.getElem?_eq_some_iff.1 (gb_get (by omega) (by omega) (by omega):(grp m n)[qb m n a b]?=some _)).1
     refine WO.p rfl rfl (WO.nil ?_)
     refine W.cond_nbl rfl (fun c5=>?_) (fun c5=>?_)
     ·refine W.ret (fin.ret (Res.none rfl) ?_)
      rw [show min (grp m n).length (last+1)=qb m n a b+1 by omega]
      repeat (first | exact Sub.nil | refine Sub.cons (by repeat first | exact .head | apply Pick.tail) ?_)
     ·refine W.skip (W.sreg (WO.p rfl rfl (WO.ar rfl rfl rfl (by unfold in64;omega) rfl (WO.p rfl rfl (WO.nil (W.block ?_))))))
      rw [show qb m n a b+1=qc m n a b (b+1) from (qc_0 m n a b).symm]
      refine W.loop (fun (c:Nat)=>b+1≤c∧c≤n∧(m=2→c=b+1)∧qc m n a b c≤last)
       (fun (c:Nat)=>[(14,.int .i64 (a:Int)),(13,.int .i64 (n:Int)),(4,.int .i64 (n:Int)),(5,.int .i64 (a:Int)),(6,.int .i64 (b:Int)),(7,.int .i64 (c:Int)),(0,.func (.yield l) #[] #[]),(1,.pointer (some ⟨b1,0,none⟩)),(2,.pointer (some ⟨b2,0,none⟩))])
       (fun (c:Nat)=>[pt b1 (.cells #[.pointer (some p)] 186 (0,0)),pt b2 (.cells #[.int .i64 (m:Int)] 3 (0,0)),sat (Hc (qc m n a b c))])
       (fun (c:Nat)=>n-c) (b+1)
       (by exact ⟨by omega,by omega,fun _=>rfl,by rw [qc_0];omega⟩) ⟨rfl,rfl,rfl,rfl,rfl,rfl,rfl,rfl,rfl,trivial⟩ (by repeat (first | exact Sub.nil | refine Sub.cons (by repeat first | exact .head | apply Pick.tail) ?_)) ?_
      rintro c ⟨hc1,hc2,hc3,hcl⟩
      refine W.seq (W.sreg (WO.p rfl rfl (WO.p rfl rfl (WO.p rfl rfl (WO.p rfl rfl ?_)))))
      refine WO.guard_bl rfl rfl (fun c6=>?_) (fun c6=>?_)
      ·refine WO.go' rfl (WO.load rfl rfl (Cell.own (Pick.tail (Pick.head)) rfl) rfl (WO.pg rfl rfl rfl (WO.p rfl rfl (WO.nil ?_))))
       refine W.cond_bl rfl (fun c7=>?_) (fun c7=>?_)
       ·refine W.skip (W.seq (W.block (W.sreg (WO.p rfl rfl (WO.p rfl rfl (WO.p rfl rfl (WO.p rfl rfl (WO.buildSl rfl rfl rfl rfl rfl rfl rfl rfl rfl (fun v3=>?_)))))))))
        obtain rfl:m=3:=by omega
        refine WO.yieldB (go:=bl (qc 3 n a b c<last)) rfl rfl (by repeat exact .head) (by repeat first | exact .head | apply Pick.tail) (((hy _ _ _ (gc_get (by omega) (by omega) (by omega) (by omega) (by omega)) (by omega)).one).agree hk) rfl ?_
        have hget:=(List.getElem?_eq_some_iff.1 (gc_get (by omega) (by omega) (by omega) (by omega) (by omega):(grp 3 n)[qc 3 n a b c]?=some _)).1
        refine WO.p rfl rfl (WO.nil ?_)
        refine W.cond_nbl rfl (fun c8=>?_) (fun c8=>?_)
        ·refine W.ret (fin.ret (Res.none rfl) ?_)
         rw [show min (grp 3 n).length (last+1)=qc 3 n a b c+1 by omega]
         repeat (first | exact Sub.nil | refine Sub.cons (by repeat first | exact .head | apply Pick.tail) ?_)
        ·refine W.skip ?_
         rw [← qc_succ (by omega)]
         have hnx3:qc 3 n a b (c+1)≤last:=by rw [qc_succ (by omega)];omega
         refine W.region (WO.p rfl rfl (WO.ar rfl rfl rfl (by unfold in64;omega) rfl (WO.p rfl rfl (WO.nil ?_))))
         refine' ⟨c+1,?hp,?hmu,⟨rfl,rfl,rfl,rfl,rfl,rfl,rfl,rfl,rfl,trivial⟩,?hS⟩
         case hS=>repeat (first | exact Sub.nil | refine Sub.cons (by repeat first | exact .head | apply Pick.tail) ?_)
         case hp=>exact ⟨by omega,by omega,fun q=>by omega,hnx3⟩
         case hmu=>omega
       ·refine W.exit (blk_same ?_)
        rw [← qb_succ (by omega) (by omega) hm ⟨hc3,fun q=>by omega⟩] at hcl ⊢
        have hnx2:=hcl
        refine W.region (WO.p rfl rfl (WO.ar rfl rfl rfl (by unfold in64;omega) rfl (WO.p rfl rfl (WO.nil ?_))))
        refine' ⟨b+1,?hp,?hmu,⟨rfl,rfl,rfl,rfl,rfl,rfl,rfl,rfl,trivial⟩,?hS⟩
        case hS=>repeat (first | exact Sub.nil | refine Sub.cons (by repeat exact .head) ?_)
        case hp=>exact ⟨by omega,by omega,hnx2⟩
        case hmu=>omega
      ·refine WO.no rfl rfl (WO.no rfl rfl (WO.p rfl rfl (WO.nil (W.cond_f rfl (W.exit (blk_same ?_))))))
       rw [← qb_succ (by omega) (by omega) hm ⟨hc3,fun q=>by omega⟩] at hcl ⊢
       have hnx2:=hcl
       refine W.region (WO.p rfl rfl (WO.ar rfl rfl rfl (by unfold in64;omega) rfl (WO.p rfl rfl (WO.nil ?_))))
       refine' ⟨b+1,?hp,?hmu,⟨rfl,rfl,rfl,rfl,rfl,rfl,rfl,rfl,trivial⟩,?hS⟩
       case hS=>repeat (first | exact Sub.nil | refine Sub.cons (by repeat exact .head) ?_)
       case hp=>exact ⟨by omega,by omega,hnx2⟩
       case hmu=>omega
    ·exfalso;omega
   ·refine WO.no rfl rfl (WO.no rfl rfl (WO.p rfl rfl (WO.nil (W.cond_f rfl (W.exit (blk_same ?_))))))
    obtain rfl:n=b:=by omega
    rw [← qa_succ] at hbl ⊢
    have hnx:=hbl
    refine W.region (WO.ar rfl rfl rfl (by unfold in64;omega) rfl (WO.p rfl rfl (WO.nil ?_)))
    refine' ⟨a+1,?hp,?hmu,⟨rfl,rfl,rfl,rfl,rfl,rfl,trivial⟩,?hS⟩
    case hS=>repeat (first | exact Sub.nil | refine Sub.cons (by repeat exact .head) ?_)
    case hp=>exact ⟨by omega,hnx⟩
    case hmu=>omega
 ·refine W.exit (blk_same ?_)
  obtain rfl:n=a:=by omega
  refine fin.normal (Res.none rfl) ?_
  rw [grp_len,show min (qa m n n) (last+1)=qa m n n by omega]
  repeat (first | exact Sub.nil | refine Sub.cons (by repeat first | exact .head | apply Pick.tail) ?_)
end Go.Proofs.YtfchgmiiicidcaaGreat.Sp
namespace Go.Proofs.YtfchgmiiicidcaaGreat.Sp
open Go Go.TH
attribute [local irreducible] W WO pt
set_option maxRecDepth 10000
set_option maxHeartbeats 1000000
def tkE (g ys:List Int) (i:Nat):MapEntry:={ key:=.int .i64 (g.getD i 0),val:=.int .i64 (ys.getD i 0),born:=i }
def tkL (g ys:List Int) (n:Nat):List MapEntry:=(List.range n).map (tkE g ys)
theorem tkL_push (g ys:List Int) (n:Nat):(tkL g ys n).toArray.push { key:=.int .i64 (g.getD n 0),val:=.int .i64 (ys.getD n 0),born:=n }=(tkL g ys (n+1)).toArray:=by
 unfold tkL;rw [List.range_succ,List.map_append];simp [tkE]
theorem find_none {k:Int}:∀ (es:List MapEntry) (i:Nat),(∀ e∈es,∃ z,e.key=.int .i64 z∧z≠k)→Instr.findNow (.int .i64) (.int .i64 k) es i=some none
 | [],i,_=>rfl
 | e::r,i,h=>by
  obtain ⟨z,hz,hn⟩:=h e (by simp)
  have e2:(k==z)=false:=by simp;omega
  have ih:=find_none r (i+1) (fun e he=>h e (by simp [he]))
  rw [← ih]
  obtain ⟨kk,vv,bb⟩:=e
  simp only at hz
  subst hz
  simp only [Instr.findNow,Instr.sameNow,if_true,e2]
theorem tkL_none {g ys:List Int} (hg:g.Nodup) {n:Nat} (h:n<g.length):Instr.findNow (.int .i64) (.int .i64 (g.getD n 0)) (tkL g ys n).toArray.toList 0=some none:=by
 refine find_none _ _ (fun e he=>?_)
 have he':e∈(List.range n).map (tkE g ys):=he
 obtain ⟨j,hj,rfl⟩:=List.mem_map.1 he'
 have hj':=List.mem_range.1 hj
 refine ⟨_,rfl,fun q=>?_⟩
 have h1:g.getD j 0=g[j]:=by simp [show j<g.length by omega]
 have h2:g.getD n 0=g[n]:=by simp [h]
 rw [h1,h2] at q
 have:=(List.getElem_inj hg).1 q
 omega
def tkS (S:List Sd) (g ys:List Int):Nat→Sd
 | 0=>sd0
 | i+1=>addS (tkS S g ys i) (byS (S.getD (g.getD i 0).toNat sd0) (ys.getD i 0))
theorem tkS_bd {S:List Sd} (hS:∀ s∈S,OkS 20 100000 s) {g ys:List Int} (hg:∀ x∈g,0≤x∧x<S.length) (hy:∀ y∈ys,-1000≤y∧y≤1000) (hl:ys.length=g.length):∀ {i:Nat},i≤g.length→OkS (100000000*i) (100000000*i) (tkS S g ys i)
 | 0,_=>⟨by simp [tkS,sd0],by simp [tkS,sd0],by simp [tkS,sd0]⟩
 | i+1,h=>by
  have h1:=tkS_bd hS hg hy hl (i:=i) (by omega)
  have hx:=hg _ (getD_mem (show i<g.length by omega) 0)
  have h2:=(hS _ (getD_mem (show (g.getD i 0).toNat<S.length by omega) sd0)).by_ (hy _ (getD_mem (show i<ys.length by omega) 0))
  have e:(100000000:Int)*((i+1:Nat):Int)=100000000*i+100000000:=by omega
  rw [e]
  obtain ⟨a1,a2,a3⟩:=h1
  obtain ⟨b1,b2,b3⟩:=h2
  exact ⟨by show _≤_+_∧_+_≤_;omega,by show _≤_+_∧_+_≤_;omega,by show _≤_+_∧_+_≤_;omega⟩
abbrev mdV (m:Value) (s:Sd) (t:Int):Value:=.agg #[m,.int .i64 s.a,.int .i64 s.b,.int .i64 s.c,.int .i64 t]
theorem all_twoS {A:Int} {s o:Sd} (h:OkS A A s) (g:OkS A A o):∀ x∈[s,o],OkS A A x:=fun x hx=>by
 have:x=s∨x=o:=by simpa using hx
 rcases this with rfl | rfl
 ·exact h
 ·exact g
theorem addS_two (s o:Sd):sumS [s,o]=addS s o:=by
 unfold sumS addS sd0;simp
theorem RdF.cellsT {C:Cx Tryz.prog} {H:List HP} {o:Value} {S:List Sd} (h:RdF encSd 3 C.B C.w0 o S) {x:Int} (h0:0≤x) (h1:x<S.length) {z:Int} (hz:z=x):Cells C H (elt o z.toNat 3) [.int .i64 (S.getD x.toNat sd0).a,.int .i64 (S.getD x.toNat sd0).b,.int .i64 (S.getD x.toNat sd0).c]:=by
 subst hz
 exact RdF.cells3 h (by omega)
theorem c_take (w:World) (p:Addr) (rv sv:Value) (rl:List Rn) (hT:Tbl w.heap.size w p rv sv rl) (hok:OkRs rl) (o u:Value) (g ys:List Int) (t:Int) (hG:RdF encI 1 w.heap.size w o g) (hY:RdF encI 1 w.heap.size w u ys) (hg:∀ x∈g,0≤x∧x<(sds rl).length) (hnd:g.Nodup) (hl:ys.length=g.length) (h3:g.length≤3) (hy:∀ y∈ys,-1000≤y∧y≤1000) :
 Ct Tryz.prog 195 [.pointer (some p),o,.int .i64 t,u].toArray w fun v w'=>∃ Hq,(∃ mb:Nat,v=mdV (.map (some mb)) (tkS (sds rl) g ys g.length) t∧Hq=[pt mb (.map (tkL g ys g.length).toArray g.length)])∧Inv w [] Hq w':=by
 refine Ct.ofI mixed tyTab Tryz.func195 rfl rfl ?_
 replace hG:RdF encI 1 (fnCx mixed tyTab Tryz.f195.ntmps w).B (fnCx mixed tyTab Tryz.f195.ntmps w).w0 o g:=hG
 replace hY:RdF encI 1 (fnCx mixed tyTab Tryz.f195.ntmps w).B (fnCx mixed tyTab Tryz.f195.ntmps w).w0 u ys:=hY
 replace hT:Tbl (fnCx mixed tyTab Tryz.f195.ntmps w).B (fnCx mixed tyTab Tryz.f195.ntmps w).w0 p rv sv rl:=hT
 have hS:=sds_ok hok
 refine W.sreg (WO.alloc rfl rfl rfl (fun b1 hb1=>(WO.nil (W.sreg (WO.makeMap rfl (fun mb=>(WO.build rfl rfl rfl rfl rfl (WO.p rfl rfl (WO.build rfl rfl rfl rfl rfl (WO.alloc rfl rfl rfl (fun b2 hb2=>(WO.storeA rfl rfl rfl rfl Pick.head rfl rfl (WO.nil (W.seq (W.sreg (WO.p rfl rfl (WO.len rfl rfl hG.sl rfl (WO.p rfl rfl (WO.nil (W.block ?_))))))))))))))))))))
 refine W.loop (fun (i:Nat)=>i≤g.length)
  (fun (i:Nat)=>[(18,.int .i64 (i:Int)),(17,.int .i64 (g.length:Int)),(16,o),(9,.pointer (some ⟨b2,0,none⟩)),(8,.pointer (some ⟨b1,0,none⟩)),(3,u),(0,.pointer (some p))])
  (fun (i:Nat)=>[pt b1 (.cells #[.map none,.int .i64 0,.int .i64 0,.int .i64 0,.int .i64 0] 103 (0,0)),pt b2 (.cells #[.map (some mb),.int .i64 (tkS (sds rl) g ys i).a,.int .i64 (tkS (sds rl) g ys i).b,.int .i64 (tkS (sds rl) g ys i).c,.int .i64 t] 103 (0,0)),pt mb (.map (tkL g ys i).toArray i)])
  (fun (i:Nat)=>g.length-i) 0
  (by omega) ⟨rfl,rfl,rfl,rfl,rfl,rfl,rfl,trivial⟩ (by repeat (first | exact Sub.nil | refine Sub.cons (by repeat first | exact .head | apply Pick.tail) ?_)) ?_
 rintro i hi0
 refine W.sreg (WO.p rfl rfl (WO.nil (W.seq ?_)))
 refine W.cond_bl rfl (fun c1=>?_) (fun c1=>?_)
 ·refine W.skip (W.seq (W.block (W.sreg (WO.p rfl rfl (WO.indexAddr rfl rfl rfl hG.sl (by omega) rfl ?_)))))
  refine' WO.load (v:=_) rfl rfl ?hc rfl ?_
  case hc=>((refine hG.cell0 (i:=i) (by omega) 0 ?_;rfl))
  refine WO.p rfl rfl (WO.p rfl rfl (WO.nil (W.seq ?_)))
  have hgi:=hg _ (getD_mem (show i<g.length by omega) 0)
  have hyi:=hy _ (getD_mem (show i<ys.length by omega) 0)
  have hsi:=hS _ (getD_mem (show (g.getD i 0).toNat<(sds rl).length by omega) sd0)
  have hbi:=(OkS.by_ hsi hyi).up (A':=1000000000000000) (B':=1000000000000000) (by omega) (by omega)
  have hti:=(tkS_bd hS hg hy hl (i:=i) (by omega)).up (A':=1000000000000000) (B':=1000000000000000) (by omega) (by omega)
  refine W.drawD 7 [.r 0 [],.b 1 [],.r 2 [],.r 3 [],.r 4 [],.r 5 [],.b 6 []] [] (A0:=[_]) (H0:=[_,_]) (.cons (Pick.tail (Pick.tail .head)) (.cons .head (.cons .head .nil))) (by kernel_rfl) ?_ ?_
  ·repeat constructor
  refine DT.r rfl rfl rfl (WO.field0 rfl rfl rfl (WO.nil ⟨rfl,rfl⟩)) (DT.b rfl rfl rfl (WO.load rfl rfl (Cell.own (Pick.tail (Pick.head)) rfl) rfl (WO.nil ⟨rfl,rfl⟩)) (DT.r rfl rfl rfl (WO.p rfl rfl (WO.nil ⟨rfl,rfl⟩)) (DT.r rfl rfl rfl (WO.p rfl rfl (WO.nil ⟨rfl,rfl⟩)) (DT.r rfl rfl rfl (WO.p rfl rfl (WO.nil ⟨rfl,rfl⟩)) (DT.r rfl rfl rfl (WO.indexAddr rfl rfl rfl hY.sl (by omega) rfl (WO.nil ⟨rfl,rfl⟩)) ?_)))))
  refine' DT.b rfl rfl rfl ?hq ?_
  case hq =>
   refine' WO.load (v:=_) rfl rfl ?hc rfl ?_
   case hc=>((refine hY.cell0 (i:=i) (by omega) 0 ?_;rfl))
   exact WO.nil ⟨rfl,rfl⟩
  refine DT.nil [_,_,_] rfl (WO.updateI Tryz.underlying99 Tryz.underlying3 rfl rfl rfl (by repeat exact .head) (tkL_none hnd (by omega)) ?_)
  rw [tkL_push]
  refine WO.nil ?_
  refine W.drawD 14 [.r 0 [],.b 1 [],.r 2 [],.r 3 [],.r 4 [],.b 5 [],.r 6 [],.r 7 [],.b 8 [],.r 9 [],.r 10 [],.r 11 [],.b 12 [],.b 13 []] [] (A0:=[]) (Sub.refl _) (by kernel_rfl) ?_ ?_
  ·repeat constructor
  refine DT.r rfl rfl rfl (WO.fieldL rfl rfl rfl (WO.nil ⟨rfl,rfl⟩)) (DT.b rfl rfl rfl (WO.loadA rfl rfl (Cells.ownAt (n:=3) (Pick.tail (Pick.tail (Pick.head))) rfl) rfl rfl (WO.nil ⟨rfl,rfl⟩)) (DT.r rfl rfl rfl (WO.p rfl rfl (WO.nil ⟨rfl,rfl⟩)) (DT.r rfl rfl rfl (WO.p rfl rfl (WO.nil ⟨rfl,rfl⟩)) (DT.r rfl rfl rfl (WO.field rfl rfl rfl (WO.nil ⟨rfl,rfl⟩)) ?_))))
  refine' DT.b rfl rfl rfl ?hq ?_
  case hq =>
   refine' WO.load (v:=_) rfl rfl ?hc rfl ?_
   case hc=>((refine RdC.cellAt hT.c (j:=1) ?_;rfl))
   exact WO.nil ⟨rfl,rfl⟩
  refine DT.r rfl rfl rfl (WO.p rfl rfl (WO.nil ⟨rfl,rfl⟩)) ?_
  refine' DT.r rfl rfl rfl ?hq ?_
  case hq =>
   refine' WO.indexAddrZ (n:=_) rfl rfl rfl ?hs ?h00 ?h1 rfl ?_
   case hs=>exact hT.s.sl
   case h00=>omega
   case h1=>(omega)
   exact WO.nil ⟨rfl,rfl⟩
  refine DT.b rfl rfl rfl (WO.loadA rfl rfl (RdF.cellsT hT.s hgi.1 hgi.2 rfl) rfl rfl (WO.nil ⟨rfl,rfl⟩)) (DT.r rfl rfl rfl (WO.p rfl rfl (WO.nil ⟨rfl,rfl⟩)) (DT.r rfl rfl rfl (WO.p rfl rfl (WO.nil ⟨rfl,rfl⟩)) (DT.r rfl rfl rfl (WO.indexAddr rfl rfl rfl hY.sl (by omega) rfl (WO.nil ⟨rfl,rfl⟩)) ?_)))
  refine' DT.b rfl rfl rfl ?hq ?_
  case hq =>
   refine' WO.load (v:=_) rfl rfl ?hc rfl ?_
   case hc=>((refine hY.cell0 (i:=i) (by omega) 0 ?_;rfl))
   exact WO.nil ⟨rfl,rfl⟩
  refine DT.b rfl rfl rfl (WO.callR rfl Tryz.call172 (fun L w hi=>c_by w ((sds rl).getD (g.getD i 0).toNat sd0) (ys.getD i 0) (hsi.up (by omega) (by omega)) (by omega)) rfl (WO.nil ⟨rfl,rfl⟩)) (DT.nil [_,_,_] rfl (WO.buildSl rfl rfl rfl rfl rfl rfl rfl rfl rfl (fun v3=>(WO.callR (r:=sdV (tkS (sds rl) g ys (i+1))) rfl Tryz.call171 (fun L w hi=>by have h:=c_sum w _ [tkS (sds rl) g ys i,byS ((sds rl).getD (g.getD i 0).toNat sd0) (ys.getD i 0)] (RdF.of_ow (e:=101) encSd_ok (by repeat exact .head) hi) (by simp) (all_twoS hti hbi);rw [addS_two] at h;exact h) rfl ?_))))
  refine WO.fieldL rfl rfl rfl (WO.storeP rfl rfl rfl rfl (Pick.tail (Pick.tail (Pick.tail (Pick.head)))) (Nat.le_of_ble_eq_true rfl) rfl (WO.nil (W.region (WO.ar rfl rfl rfl (by unfold in64;omega) rfl (WO.p rfl rfl (WO.nil ?_))))))
  refine' ⟨i+1,?hp,?hmu,⟨rfl,rfl,rfl,rfl,rfl,rfl,rfl,trivial⟩,?hS⟩
  case hS=>repeat (first | exact Sub.nil | refine Sub.cons (by repeat first | exact .head | apply Pick.tail) ?_)
  case hp=>omega
  case hmu=>omega
 ·refine W.exit (blk_same ?_)
  obtain rfl:g.length=i:=by omega
  refine W.sreg (WO.loadA rfl rfl (Cells.own (Pick.tail (Pick.head))) rfl rfl (WO.storeA rfl rfl rfl rfl Pick.head rfl rfl (WO.nil (W.ret ?_))))
  refine fin.ret (Res.one rfl (RV.cell rfl rfl rfl (Cells.own (by repeat exact .head)))) ⟨mb,rfl,fun h hs=>Sub.sat (by repeat (first | exact Sub.nil | refine Sub.cons (by repeat first | exact .head | apply Pick.tail) ?_)) hs⟩
end Go.Proofs.YtfchgmiiicidcaaGreat.Sp
namespace Go.Proofs.YtfchgmiiicidcaaGreat.Sp
open Go Go.TH
attribute [local irreducible] W WO pt
set_option maxRecDepth 10000
set_option maxHeartbeats 1000000
section
variable {P:Program} {C:Cx P} {E:Env} {H:List HP}
variable {ops:Array Oper} {K:KP} {rest:List Oper} {d:Nat} {ty:TypeId} {pos:String} {af:Array Edge} {x y z:Operand} {T:TypeId}
theorem WO.max3 {a b c:Int} {ts:Array TypeId} (hx:ev E x=some (.int .i64 a)) (hy:ev E y=some (.int .i64 b)) (hz:ev E z=some (.int .i64 c)) (hN:Nat.blt d C.N=true)
 (h:WO C ops rest K ((d,.int .i64 (max (max a b) c))::E) H):WO C ops (⟨some d,.call ⟨.builtin .max,#[x,y,z],ts⟩,ty,pos,af,none⟩::rest) K E H :=
 WO.pure _ (by simp) (fun L c w hf _=>by
  simp [execOp,resolve,hf.eval hx,hf.eval hy,hf.eval hz,invoke,builtin,run_max_int3]
  split <;> split <;> omega) hN h
theorem WO.min3 {a b c:Int} {ts:Array TypeId} (hx:ev E x=some (.int .i64 a)) (hy:ev E y=some (.int .i64 b)) (hz:ev E z=some (.int .i64 c)) (hN:Nat.blt d C.N=true)
 (h:WO C ops rest K ((d,.int .i64 (min (min a b) c))::E) H):WO C ops (⟨some d,.call ⟨.builtin .min,#[x,y,z],ts⟩,ty,pos,af,none⟩::rest) K E H :=
 WO.pure _ (by simp) (fun L c w hf _=>by
  simp [execOp,resolve,hf.eval hx,hf.eval hy,hf.eval hz,invoke,builtin,run_min_int3]
  split <;> split <;> omega) hN h
end
theorem eq124 (a b c d e f:Int):EqT Tryz.prog .eql 101 (.agg #[.int .i64 a,.int .i64 b,.int .i64 c]) (.agg #[.int .i64 d,.int .i64 e,.int .i64 f]) (.bool (bl (a=d∧b=e∧c=f))):=by
 intro x y w
 obtain ⟨i,hi⟩:∃ i,Tryz.prog.info? 2=some i:=⟨_,rfl⟩
 have hc:Tryz.prog.cellsOf 2=1:=rfl
 have h:(Op.equalIn 10000 101 (.agg #[.int .i64 a,.int .i64 b,.int .i64 c]) (.agg #[.int .i64 d,.int .i64 e,.int .i64 f])).run Tryz.prog w=.ok (bl (a=d∧b=e∧c=f)) w:=by
  rw [show (10000:Nat)=9999+1 from rfl,run_equalIn_array _ 9999 (t:=101) (e:=2) (n:=3) _ _ rfl hi,hc]
  simp [Op.eqItems,go_sem,List.range,List.range.loop,Tryz.underlying2]
  by_cases h1:a=d <;> by_cases h2:b=e <;> by_cases h3:c=f <;> simp [h1,h2,h3,bl_eq]
 simp [go_sem,Tryz.eqGuardType101,Tryz.underlying101,h]
theorem eq124z (a b:Int):EqT Tryz.prog .eql 101 (.agg #[.int .i64 a,.int .i64 b,.int .i64 0]) (.agg #[.int .i64 0,.int .i64 0,.int .i64 0]) (.bool (bl (a=0∧b=0))):=by
 have h:=eq124 a b 0 0 0 0
 rwa [show bl (a=0∧b=0∧(0:Int)=0)=bl (a=0∧b=0) by rw [bl_eq,bl_eq,decide_eq_decide];simp] at h
abbrev atS (S:List Sd) (g:List Int) (i:Nat):Sd:=S.getD (g.getD i 0).toNat sd0
def fit2 (a b:Sd) (x y:Int):Prop:=crs a b=0∧(addS (byS a x) (byS b y)).a=0∧(addS (byS a x) (byS b y)).b=0
instance (a b:Sd) (x y:Int):Decidable (fit2 a b x y):=by unfold fit2;infer_instance
def zr2 (a b:Sd):Option (List Int):=if fit2 a b (siz b) (siz a) then some [siz b,siz a] else none
def zr3 (a b c:Sd):Option (List Int) :=
 let x:=crs b c
 let y:=crs c a
 let z:=crs a b
 if max (max x y) z<0 then (if 0<min (min (-x) (-y)) (-z) then some [-x,-y,-z] else none)
 else (if 0<min (min x y) z then some [x,y,z] else none)
def zrY (S:List Sd) (g:List Int):Option (List Int) :=
 if g.length=2 then zr2 (atS S g 0) (atS S g 1) else if g.length=3 then zr3 (atS S g 0) (atS S g 1) (atS S g 2) else none
theorem zrY_len {S:List Sd} {g ys:List Int} (h:zrY S g=some ys):ys.length=g.length:=by
 unfold zrY at h
 split at h
 ·rename_i h2
  unfold zr2 at h
  split at h
  ·cases h;exact h2.symm
  ·cases h
 ·split at h
  ·rename_i h3
   unfold zr3 at h
   dsimp only at h
   split at h
   ·split at h
    ·cases h;exact h3.symm
    ·cases h
   ·split at h
    ·cases h;exact h3.symm
    ·cases h
  ·cases h
def zrP (g:List Int) (o:Option (List Int)) (mb:Nat):HP:=fun h=>∀ ys,o=some ys→pt mb (.map (tkL g ys g.length).toArray g.length) h
theorem zrP_some {g ys:List Int} {mb:Nat} {H H':List HP} (p:Pick (pt mb (.map (tkL g ys g.length).toArray g.length)) H H'):∀ h,sat H h→sat (zrP g (some ys) mb::H') h:=fun h hs=>by
 obtain ⟨h1,h2,s,hp,hr⟩:=p.sat hs
 exact ⟨h1,h2,s,fun ys' e=>by cases e;exact hp,hr⟩
theorem zrP_none {g:List Int} {mb:Nat} {H:List HP}:∀ h,sat H h→sat (zrP g none mb::H) h:=fun h hs=>⟨fun _=>none,h,split_none h,fun ys e=>(by cases e),hs⟩
def zrS (S:List Sd) (g:List Int) (o:Option (List Int)):Sd:=match o with
 | some ys=>tkS S g ys g.length
 | none=>sd0
def zrT (o:Option (List Int)):Int:=if o.isSome=true then 1 else 0
abbrev zrV (S:List Sd) (g:List Int) (o:Option (List Int)) (mb:Nat):Value:=mdV (.map (o.map fun _=>mb)) (zrS S g o) (zrT o)
structure Grp (n:Nat) (g:List Int):Prop where
 len:1≤g.length∧g.length≤3
 nd:g.Nodup
 rng:∀ x∈g,0≤x∧x<n
theorem grp_ok {m n:Nat} (hm:m=2∨m=3) {g:List Int} (h:g∈grp m n):Grp n g∧g.length≤m:=by
 obtain ⟨a,_,ha,h⟩:=mem_seg.1 h
 unfold F1 at h
 rcases List.mem_cons.1 h with rfl | h
 ·exact ⟨⟨by simp,by simp,fun x hx=>by simp at hx;omega⟩,by simp;omega⟩
 ·obtain ⟨b,hb1,hb2,h⟩:=mem_seg.1 h
  unfold F2 at h
  rcases List.mem_cons.1 h with rfl | h
  ·exact ⟨⟨by simp,by simp;omega,fun x hx=>by simp at hx;omega⟩,by simp;omega⟩
  ·split at h
   ·obtain ⟨c,hc1,hc2,h⟩:=mem_seg.1 h
    have e:g=[(a:Int),(b:Int),(c:Int)]:=by simpa using h
    subst e
    exact ⟨⟨by simp,by simp;omega,fun x hx=>by simp at hx;omega⟩,by simp;omega⟩
   ·simp at h
section
variable {S:List Sd} {g:List Int}
theorem zrY_2 (h:g.length=2) (f:fit2 (atS S g 0) (atS S g 1) (siz (atS S g 1)) (siz (atS S g 0))):zrY S g=some [siz (atS S g 1),siz (atS S g 0)]:=by unfold zrY zr2;rw [if_pos h,if_pos f]
theorem zrY_2n (h:g.length=2) (f:¬ fit2 (atS S g 0) (atS S g 1) (siz (atS S g 1)) (siz (atS S g 0))):zrY S g=none:=by unfold zrY zr2;rw [if_pos h,if_neg f]
theorem zrY_3p (h:g.length=3) (h1:¬ max (max (crs (atS S g 1) (atS S g 2)) (crs (atS S g 2) (atS S g 0))) (crs (atS S g 0) (atS S g 1))<0) (h2:0<min (min (crs (atS S g 1) (atS S g 2)) (crs (atS S g 2) (atS S g 0))) (crs (atS S g 0) (atS S g 1))):zrY S g=some [crs (atS S g 1) (atS S g 2),crs (atS S g 2) (atS S g 0),crs (atS S g 0) (atS S g 1)]:=by
 unfold zrY zr3;dsimp only;rw [if_neg (by omega),if_pos h,if_neg h1,if_pos h2]
theorem zrY_3pn (h:g.length=3) (h1:¬ max (max (crs (atS S g 1) (atS S g 2)) (crs (atS S g 2) (atS S g 0))) (crs (atS S g 0) (atS S g 1))<0) (h2:¬ 0<min (min (crs (atS S g 1) (atS S g 2)) (crs (atS S g 2) (atS S g 0))) (crs (atS S g 0) (atS S g 1))):zrY S g=none:=by
 unfold zrY zr3;dsimp only;rw [if_neg (by omega),if_pos h,if_neg h1,if_neg h2]
theorem zrY_3n (h:g.length=3) (h1:max (max (crs (atS S g 1) (atS S g 2)) (crs (atS S g 2) (atS S g 0))) (crs (atS S g 0) (atS S g 1))<0) (h2:0<min (min (-(crs (atS S g 1) (atS S g 2))) (-(crs (atS S g 2) (atS S g 0)))) (-(crs (atS S g 0) (atS S g 1)))):zrY S g=some [-(crs (atS S g 1) (atS S g 2)),-(crs (atS S g 2) (atS S g 0)),-(crs (atS S g 0) (atS S g 1))]:=by
 unfold zrY zr3;dsimp only;rw [if_neg (by omega),if_pos h,if_pos h1,if_pos h2]
theorem zrY_1 (h:¬ g.length=2) (h3:¬ g.length=3):zrY S g=none:=by unfold zrY;rw [if_neg h,if_neg h3]
end
theorem y2_bd {x y A:Int} (hx : -A≤x∧x≤A) (hy : -A≤y∧y≤A):∀ z∈[x,y],-A≤z∧z≤A:=fun z hz=>by
 have:z=x∨z=y:=by simpa using hz
 rcases this with rfl | rfl <;> assumption
theorem y3_bd {x y u A:Int} (hx : -A≤x∧x≤A) (hy : -A≤y∧y≤A) (hu : -A≤u∧u≤A):∀ z∈[x,y,u],-A≤z∧z≤A:=fun z hz=>by
 have:z=x∨z=y∨z=u:=by simpa using hz
 rcases this with rfl | rfl | rfl <;> assumption
theorem c_zero (w:World) (p:Addr) (rv sv:Value) (rl:List Rn) (hT:Tbl w.heap.size w p rv sv rl) (hok:OkRs rl) (o:Value) (g:List Int) (hG:RdF encI 1 w.heap.size w o g) (hg:Grp (sds rl).length g) :
 Ct Tryz.prog 192 [.pointer (some p),o].toArray w fun v w'=>∃ Hq,(∃ mb:Nat,v=zrV (sds rl) g (zrY (sds rl) g) mb∧Hq=[zrP g (zrY (sds rl) g) mb])∧Inv w [] Hq w':=by
 refine Ct.ofI mixed tyTab Tryz.func192 rfl rfl ?_
 replace hG:RdF encI 1 (fnCx mixed tyTab Tryz.f192.ntmps w).B (fnCx mixed tyTab Tryz.f192.ntmps w).w0 o g:=hG
 replace hT:Tbl (fnCx mixed tyTab Tryz.f192.ntmps w).B (fnCx mixed tyTab Tryz.f192.ntmps w).w0 p rv sv rl:=hT
 have hS:=sds_ok hok
 have hgn:=hg.len
 have hat:∀ i,i<g.length→OkS 20 100000 (atS (sds rl) g i):=fun i hi=>hS _ (getD_mem (show (g.getD i 0).toNat<(sds rl).length by have:=hg.rng _ (getD_mem hi 0);omega) sd0)
 have hri:∀ i,i<g.length→0≤g.getD i 0∧g.getD i 0<(sds rl).length:=fun i hi=>hg.rng _ (getD_mem hi 0)
 refine W.sreg (WO.alloc rfl rfl rfl (fun b1 hb1=>(WO.nil (W.seq (W.sreg (WO.p rfl rfl (WO.len rfl rfl hG.sl rfl (WO.nil (W.block (W.sreg (WO.p rfl rfl (WO.p rfl rfl (WO.nil ?_)))))))))))))
 refine W.cond_bl rfl (fun c1=>?_) (fun c1=>?_)
 ·refine W.seq ?_
  have h0:=hri 0 (by omega)
  have h1:=hri 1 (by omega)
  have s0:=hat 0 (by omega)
  have s1:=hat 1 (by omega)
  have z0:=siz_bd s0
  have z1:=siz_bd s1
  have u0:=s0.up (A':=20) (B':=1000000) (by omega) (by omega)
  have u1:=s1.up (A':=20) (B':=1000000) (by omega) (by omega)
  have v0:=(OkS.by_ s0 (n:=siz (atS (sds rl) g 1)) (N:=40) (by omega)).up (A':=1000000000000000) (B':=1000000000000000) (by omega) (by omega)
  have v1:=(OkS.by_ s1 (n:=siz (atS (sds rl) g 0)) (N:=40) (by omega)).up (A':=1000000000000000) (B':=1000000000000000) (by omega) (by omega)
  refine W.drawD 21 [.r 0 [],.r 1 [],.r 2 [],.b 3 [],.r 4 [],.r 5 [],.b 6 [],.r 7 [],.b 8 [],.r 9 [],.r 10 [],.r 11 [],.b 12 [],.r 13 [],.r 14 [],.b 15 [],.r 16 [],.b 17 [],.a 18 5 (.cells #[.int .i64 0,.int .i64 0,.int .i64 0] 101 (0,0)),.a 19 6 (.cells #[.int .i64 0,.int .i64 0,.int .i64 0] 101 (0,0)),.s 20 []] [] (A0:=[]) (Sub.refl _) (by kernel_rfl) ?_ ?_
  ·exact (ALok.r (ALok.r (ALok.r (ALok.b (ALok.r (ALok.r (ALok.b (ALok.r (ALok.b (ALok.r (ALok.r (ALok.r (ALok.b (ALok.r (ALok.r (ALok.b (ALok.r (ALok.b (ALok.cons rfl rfl rfl rfl rfl (ALok.cons rfl rfl rfl rfl rfl (ALok.s ALok.nil)))))))))))))))))))))
  refine DT.r rfl rfl rfl (WO.p rfl rfl (WO.nil ⟨rfl,rfl⟩)) (DT.r rfl rfl rfl (WO.p rfl rfl (WO.nil ⟨rfl,rfl⟩)) (DT.r rfl rfl rfl (WO.field rfl rfl rfl (WO.nil ⟨rfl,rfl⟩)) ?_))
  refine' DT.b rfl rfl rfl ?hq ?_
  case hq =>
   refine' WO.load (v:=_) rfl rfl ?hc rfl ?_
   case hc=>((refine RdC.cellAt hT.c (j:=1) ?_;rfl))
   exact WO.nil ⟨rfl,rfl⟩
  refine DT.r rfl rfl rfl (WO.p rfl rfl (WO.nil ⟨rfl,rfl⟩)) (DT.r rfl rfl rfl (WO.indexAddr (i:=0) rfl rfl rfl hG.sl (by omega) rfl (WO.nil ⟨rfl,rfl⟩)) ?_)
  refine' DT.b rfl rfl rfl ?hq ?_
  case hq =>
   refine' WO.load (v:=_) rfl rfl ?hc rfl ?_
   case hc=>((refine hG.cell0 (i:=0) (by omega) 0 ?_;rfl))
   exact WO.nil ⟨rfl,rfl⟩
  refine' DT.r rfl rfl rfl ?hq ?_
  case hq =>
   refine' WO.indexAddrZ (n:=_) rfl rfl rfl ?hs ?h00 ?h1 rfl ?_
   case hs=>exact hT.s.sl
   case h00=>omega
   case h1=>(omega)
   exact WO.nil ⟨rfl,rfl⟩
  refine DT.b rfl rfl rfl (WO.loadA rfl rfl (RdF.cellsT hT.s h0.1 h0.2 rfl) rfl rfl (WO.nil ⟨rfl,rfl⟩)) (DT.r rfl rfl rfl (WO.p rfl rfl (WO.nil ⟨rfl,rfl⟩)) (DT.r rfl rfl rfl (WO.p rfl rfl (WO.nil ⟨rfl,rfl⟩)) (DT.r rfl rfl rfl (WO.field rfl rfl rfl (WO.nil ⟨rfl,rfl⟩)) ?_)))
  refine' DT.b rfl rfl rfl ?hq ?_
  case hq =>
   refine' WO.load (v:=_) rfl rfl ?hc rfl ?_
   case hc=>((refine RdC.cellAt hT.c (j:=1) ?_;rfl))
   exact WO.nil ⟨rfl,rfl⟩
  refine DT.r rfl rfl rfl (WO.p rfl rfl (WO.nil ⟨rfl,rfl⟩)) (DT.r rfl rfl rfl (WO.indexAddr (i:=1) rfl rfl rfl hG.sl (by omega) rfl (WO.nil ⟨rfl,rfl⟩)) ?_)
  refine' DT.b rfl rfl rfl ?hq ?_
  case hq =>
   refine' WO.load (v:=_) rfl rfl ?hc rfl ?_
   case hc=>((refine hG.cell0 (i:=1) (by omega) 0 ?_;rfl))
   exact WO.nil ⟨rfl,rfl⟩
  refine' DT.r rfl rfl rfl ?hq ?_
  case hq =>
   refine' WO.indexAddrZ (n:=_) rfl rfl rfl ?hs ?h00 ?h1 rfl ?_
   case hs=>exact hT.s.sl
   case h00=>omega
   case h1=>(omega)
   exact WO.nil ⟨rfl,rfl⟩
  refine DT.b rfl rfl rfl (WO.loadA rfl rfl (RdF.cellsT hT.s h1.1 h1.2 rfl) rfl rfl (WO.nil ⟨rfl,rfl⟩)) (DT.a (fun b2=>(DT.a (fun b3=>(DT.s [_,_,_] rfl rfl rfl (WO.storeA rfl rfl rfl rfl (Pick.tail (Pick.head)) rfl rfl ?_))))))
  refine WO.nil ⟨[_,_],rfl,rfl,(Keep.a (Keep.a (Keep.b (Keep.r (Keep.b (Keep.r (Keep.r (Keep.b (Keep.r (Keep.r (Keep.r (Keep.b (Keep.r (Keep.b (Keep.r (Keep.r (Keep.b (Keep.r (Keep.r (Keep.r Keep.nil)))))))))))))))))))),?_⟩
  refine DT.nil [_,_,_] rfl (WO.storeA rfl rfl rfl rfl (Pick.tail (Pick.head)) rfl rfl (WO.nil (W.seq ?_)))
  refine W.drawD 3 [.b 0 [],.b 1 [],.b 2 []] [] (A0:=[]) (Sub.refl _) (by kernel_rfl) ?_ ?_
  ·repeat constructor
  refine DT.b rfl rfl rfl (WO.loadA rfl rfl (Cells.own Pick.head) rfl rfl (WO.nil ⟨rfl,rfl⟩)) (DT.b rfl rfl rfl (WO.callR rfl Tryz.call193 (fun L w hi=>c_size w (atS (sds rl) g 1) u1) rfl (WO.nil ⟨rfl,rfl⟩)) (DT.b rfl rfl rfl (WO.loadA rfl rfl (Cells.own (Pick.tail (Pick.head))) rfl rfl (WO.nil ⟨rfl,rfl⟩)) (DT.nil [_,_,_] rfl (WO.callR rfl Tryz.call193 (fun L w hi=>c_size w (atS (sds rl) g 0) u0) rfl (WO.p rfl rfl (WO.p rfl rfl (WO.nil (W.seq ?_))))))))
  refine W.drawD 15 [.b 0 [],.b 1 [],.b 2 [],.r 3 [],.r 4 [],.b 5 [],.r 6 [],.b 7 [],.b 8 [],.r 9 [],.b 10 [],.r 14 [],.c 11 [],.f 12 [],.b 13 []] [] (A0:=[]) (Sub.refl _) (by kernel_rfl) ?_ ?_
  ·repeat constructor
  refine DT.b rfl rfl rfl (WO.loadA rfl rfl (Cells.own (Pick.tail (Pick.head))) rfl rfl (WO.nil ⟨rfl,rfl⟩)) (DT.b rfl rfl rfl (WO.loadA rfl rfl (Cells.own Pick.head) rfl rfl (WO.nil ⟨rfl,rfl⟩)) (DT.b rfl rfl rfl (WO.callR rfl Tryz.call194 (fun L w hi=>c_cross w (atS (sds rl) g 0) (atS (sds rl) g 1) u0 u1) rfl (WO.nil ⟨rfl,rfl⟩)) (DT.r rfl rfl rfl (WO.p rfl rfl (WO.nil ⟨rfl,rfl⟩)) ?_)))
  refine DT.rB rfl rfl rfl (WO.p rfl rfl (WO.nil ⟨rfl,rfl⟩)) (fun c2=>?_) (fun c2=>?_)
  ·refine DT.b rfl rfl rfl (WO.go' rfl (WO.loadA rfl rfl (Cells.own (Pick.tail (Pick.head))) rfl rfl (WO.nil ⟨rfl,rfl⟩))) (DT.r rfl rfl rfl (WO.pg rfl rfl rfl (WO.nil ⟨rfl,rfl⟩)) (DT.b rfl rfl rfl (WO.go' rfl (WO.callR rfl Tryz.call172 (fun L w hi=>c_by w (atS (sds rl) g 0) (siz (atS (sds rl) g 1)) (s0.up (by omega) (by omega)) (by omega)) rfl (WO.nil ⟨rfl,rfl⟩))) (DT.b rfl rfl rfl (WO.go' rfl (WO.loadA rfl rfl (Cells.own Pick.head) rfl rfl (WO.nil ⟨rfl,rfl⟩))) (DT.r rfl rfl rfl (WO.pg rfl rfl rfl (WO.nil ⟨rfl,rfl⟩)) ?_))))
   refine DT.b rfl rfl rfl (WO.go' rfl (WO.callR rfl Tryz.call172 (fun L w hi=>c_by w (atS (sds rl) g 1) (siz (atS (sds rl) g 0)) (s1.up (by omega) (by omega)) (by omega)) rfl (WO.nil ⟨rfl,rfl⟩))) (DT.r rfl rfl rfl (WO.go' rfl (WO.build rfl rfl rfl rfl rfl (WO.nil ⟨rfl,rfl⟩))) (DT.c [_,_,_] rfl rfl rfl rfl (WO.go' rfl (WO.buildSl rfl rfl rfl rfl rfl rfl rfl rfl rfl (fun v4=>?_)))))
   refine WO.nil ⟨_,[_],rfl,rfl,(Keep.r (Keep.b (Keep.r (Keep.b (Keep.b (Keep.r (Keep.b (Keep.r (Keep.r (Keep.b (Keep.b (Keep.b Keep.nil)))))))))))),?_⟩
   refine DT.f [_,_,_,_] rfl rfl rfl rfl (WO.go' rfl (WO.callR (r:=sdV (addS (byS (atS (sds rl) g 0) (siz (atS (sds rl) g 1))) (byS (atS (sds rl) g 1) (siz (atS (sds rl) g 0))))) rfl Tryz.call171 (fun L w hi=>by have h:=c_sum w _ [byS (atS (sds rl) g 0) (siz (atS (sds rl) g 1)),byS (atS (sds rl) g 1) (siz (atS (sds rl) g 0))] (RdF.of_ow (e:=101) encSd_ok (by repeat exact .head) hi) (by simp) (all_twoS v0 v1);rw [addS_two] at h;exact h) rfl (WO.nil ⟨rfl,rfl⟩))) (DT.b rfl rfl rfl (WO.go' rfl (WO.callR rfl Tryz.call173 (fun L w hi=>c_flat w _) rfl (WO.nil ⟨rfl,rfl⟩))) (DT.nil [_,_,_,_] rfl (WO.go' rfl ?_)))
   refine WO.eqT rfl rfl (eq124z (addS (byS (atS (sds rl) g 0) (siz (atS (sds rl) g 1))) (byS (atS (sds rl) g 1) (siz (atS (sds rl) g 0)))).a (addS (byS (atS (sds rl) g 0) (siz (atS (sds rl) g 1))) (byS (atS (sds rl) g 1) (siz (atS (sds rl) g 0)))).b) rfl (WO.p rfl rfl (WO.nil ?_))
   refine W.cond_bl rfl (fun c3=>?_) (fun c3=>?_)
   ·refine W.sreg (WO.p rfl rfl (WO.p rfl rfl (WO.p rfl rfl (WO.p rfl rfl (WO.buildSl rfl rfl rfl rfl rfl rfl rfl rfl rfl (fun v5=>?_))))))
    refine WO.call (Post:=fun v Hq=>∃ mb:Nat,v=mdV (.map (some mb)) (tkS (sds rl) g [siz (atS (sds rl) g 1),siz (atS (sds rl) g 0)] g.length) 1∧Hq=[pt mb (.map (tkL g [siz (atS (sds rl) g 1),siz (atS (sds rl) g 0)] g.length).toArray g.length)]) rfl Tryz.call195 (fun L w hi=>c_take w p rv sv rl (hT.later hi) hok o _ g _ 1 (hG.later hi) (RdF.of_ow (e:=2) (xs:=[siz (atS (sds rl) g 1),siz (atS (sds rl) g 0)]) encI_ok (by repeat exact .head) hi) hg.rng hg.nd (by show 2=_;omega) hg.len.2 (y2_bd (by omega) (by omega))) rfl ?_
    rintro _ _ ⟨mb,rfl,rfl⟩
    refine WO.storeA rfl rfl rfl rfl (Pick.tail (Pick.tail (Pick.tail (Pick.tail (Pick.tail (Pick.head)))))) rfl rfl (WO.nil (W.ret ?_))
    (have e:=zrY_2 (S:=sds rl) (g:=g) (by omega) ⟨by assumption,by assumption⟩;exact fin.ret (Res.one rfl (RV.cell rfl rfl rfl (Cells.own (by repeat exact .head)))) ⟨mb,by rw [e];rfl,by rw [e];exact fun h hs=>Sub.sat (.cons .head .nil) (zrP_some (by repeat first | exact .head | apply Pick.tail) h hs)⟩)
   ·refine W.skip (W.sreg (WO.build rfl rfl rfl rfl rfl (WO.storeA rfl rfl rfl rfl (Pick.tail (Pick.tail (Pick.tail (Pick.head)))) rfl rfl (WO.nil (W.ret ?_)))))
    (have e:=zrY_2n (S:=sds rl) (g:=g) (by omega) (fun q=>by exact absurd q.2 (by assumption));exact fin.ret (Res.one rfl (RV.cell rfl rfl rfl (Cells.own (by repeat exact .head)))) ⟨0,by rw [e];rfl,by rw [e];exact fun h hs=>Sub.sat (.cons .head .nil) (zrP_none h hs)⟩)
  ·refine DT.b rfl rfl rfl (WO.no rfl rfl (WO.nil ⟨rfl,rfl⟩)) (DT.r rfl rfl rfl (WO.no rfl rfl (WO.nil ⟨rfl,rfl⟩)) (DT.b rfl rfl rfl (WO.no rfl rfl (WO.nil ⟨rfl,rfl⟩)) (DT.b rfl rfl rfl (WO.no rfl rfl (WO.nil ⟨rfl,rfl⟩)) (DT.r rfl rfl rfl (WO.no rfl rfl (WO.nil ⟨rfl,rfl⟩)) (DT.b rfl rfl rfl (WO.no rfl rfl (WO.nil ⟨rfl,rfl⟩)) (DT.r rfl rfl rfl (WO.no rfl rfl (WO.nil ⟨rfl,rfl⟩)) (DT.c [_,_,_] rfl rfl rfl rfl (WO.no rfl rfl ?_))))))))
   refine WO.nil ⟨_,[],rfl,rfl,(Keep.r (Keep.b (Keep.r (Keep.b (Keep.b (Keep.r (Keep.b (Keep.r (Keep.r (Keep.b (Keep.b (Keep.b Keep.nil)))))))))))),?_⟩
   refine DT.f [_,_,_] rfl rfl rfl rfl (WO.no rfl rfl (WO.nil ⟨rfl,rfl⟩)) (DT.b rfl rfl rfl (WO.no rfl rfl (WO.nil ⟨rfl,rfl⟩)) (DT.nil [_,_,_] rfl (WO.no rfl rfl (WO.p rfl rfl (WO.nil (W.cond_f rfl (W.skip (W.sreg (WO.build rfl rfl rfl rfl rfl (WO.storeA rfl rfl rfl rfl (Pick.tail (Pick.tail (Pick.head))) rfl rfl (WO.nil (W.ret ?_))))))))))))
   (have e:=zrY_2n (S:=sds rl) (g:=g) (by omega) (fun q=>by exact absurd q.1 (by assumption));exact fin.ret (Res.one rfl (RV.cell rfl rfl rfl (Cells.own (by repeat exact .head)))) ⟨0,by rw [e];rfl,by rw [e];exact fun h hs=>Sub.sat (.cons .head .nil) (zrP_none h hs)⟩)
 ·refine W.sreg (WO.p rfl rfl (WO.p rfl rfl (WO.nil ?_)))
  refine W.cond_bl rfl (fun c4=>?_) (fun c4=>?_)
  ·refine W.seq ?_
   have h0:=hri 0 (by omega)
   have h1:=hri 1 (by omega)
   have h2:=hri 2 (by omega)
   have s0:=hat 0 (by omega)
   have s1:=hat 1 (by omega)
   have s2:=hat 2 (by omega)
   have u0:=s0.up (A':=20) (B':=1000000) (by omega) (by omega)
   have u1:=s1.up (A':=20) (B':=1000000) (by omega) (by omega)
   have u2:=s2.up (A':=20) (B':=1000000) (by omega) (by omega)
   have d0:=(crs_bd s1 s2).2.2
   have d1:=(crs_bd s2 s0).2.2
   have d2:=(crs_bd s0 s1).2.2
   refine W.drawD 32 [.r 0 [],.r 1 [],.r 2 [],.b 3 [],.r 4 [],.r 5 [],.b 6 [],.r 7 [],.b 8 [],.r 9 [],.r 10 [],.r 11 [],.b 12 [],.r 13 [],.r 14 [],.b 15 [],.r 16 [],.b 17 [],.r 18 [],.r 19 [],.r 20 [],.b 21 [],.r 22 [],.r 23 [],.b 24 [],.r 25 [],.b 26 [],.a 27 9 (.cells #[.int .i64 0,.int .i64 0,.int .i64 0] 101 (0,0)),.a 28 10 (.cells #[.int .i64 0,.int .i64 0,.int .i64 0] 101 (0,0)),.a 29 11 (.cells #[.int .i64 0,.int .i64 0,.int .i64 0] 101 (0,0)),.s 30 [],.s 31 []] [] (A0:=[]) (Sub.refl _) (by kernel_rfl) ?_ ?_
   ·exact (ALok.r (ALok.r (ALok.r (ALok.b (ALok.r (ALok.r (ALok.b (ALok.r (ALok.b (ALok.r (ALok.r (ALok.r (ALok.b (ALok.r (ALok.r (ALok.b (ALok.r (ALok.b (ALok.r (ALok.r (ALok.r (ALok.b (ALok.r (ALok.r (ALok.b (ALok.r (ALok.b (ALok.cons rfl rfl rfl rfl rfl (ALok.cons rfl rfl rfl rfl rfl (ALok.cons rfl rfl rfl rfl rfl (ALok.s (ALok.s ALok.nil))))))))))))))))))))))))))))))))
   refine DT.r rfl rfl rfl (WO.p rfl rfl (WO.nil ⟨rfl,rfl⟩)) (DT.r rfl rfl rfl (WO.p rfl rfl (WO.nil ⟨rfl,rfl⟩)) (DT.r rfl rfl rfl (WO.field rfl rfl rfl (WO.nil ⟨rfl,rfl⟩)) ?_))
   refine' DT.b rfl rfl rfl ?hq ?_
   case hq =>
    refine' WO.load (v:=_) rfl rfl ?hc rfl ?_
    case hc=>((refine RdC.cellAt hT.c (j:=1) ?_;rfl))
    exact WO.nil ⟨rfl,rfl⟩
   refine DT.r rfl rfl rfl (WO.p rfl rfl (WO.nil ⟨rfl,rfl⟩)) (DT.r rfl rfl rfl (WO.indexAddr (i:=0) rfl rfl rfl hG.sl (by omega) rfl (WO.nil ⟨rfl,rfl⟩)) ?_)
   refine' DT.b rfl rfl rfl ?hq ?_
   case hq =>
    refine' WO.load (v:=_) rfl rfl ?hc rfl ?_
    case hc=>((refine hG.cell0 (i:=0) (by omega) 0 ?_;rfl))
    exact WO.nil ⟨rfl,rfl⟩
   refine' DT.r rfl rfl rfl ?hq ?_
   case hq =>
    refine' WO.indexAddrZ (n:=_) rfl rfl rfl ?hs ?h00 ?h1 rfl ?_
    case hs=>exact hT.s.sl
    case h00=>omega
    case h1=>(omega)
    exact WO.nil ⟨rfl,rfl⟩
   refine DT.b rfl rfl rfl (WO.loadA rfl rfl (RdF.cellsT hT.s h0.1 h0.2 rfl) rfl rfl (WO.nil ⟨rfl,rfl⟩)) (DT.r rfl rfl rfl (WO.p rfl rfl (WO.nil ⟨rfl,rfl⟩)) (DT.r rfl rfl rfl (WO.p rfl rfl (WO.nil ⟨rfl,rfl⟩)) (DT.r rfl rfl rfl (WO.field rfl rfl rfl (WO.nil ⟨rfl,rfl⟩)) ?_)))
   refine' DT.b rfl rfl rfl ?hq ?_
   case hq =>
    refine' WO.load (v:=_) rfl rfl ?hc rfl ?_
    case hc=>((refine RdC.cellAt hT.c (j:=1) ?_;rfl))
    exact WO.nil ⟨rfl,rfl⟩
   refine DT.r rfl rfl rfl (WO.p rfl rfl (WO.nil ⟨rfl,rfl⟩)) (DT.r rfl rfl rfl (WO.indexAddr (i:=1) rfl rfl rfl hG.sl (by omega) rfl (WO.nil ⟨rfl,rfl⟩)) ?_)
   refine' DT.b rfl rfl rfl ?hq ?_
   case hq =>
    refine' WO.load (v:=_) rfl rfl ?hc rfl ?_
    case hc=>((refine hG.cell0 (i:=1) (by omega) 0 ?_;rfl))
    exact WO.nil ⟨rfl,rfl⟩
   refine' DT.r rfl rfl rfl ?hq ?_
   case hq =>
    refine' WO.indexAddrZ (n:=_) rfl rfl rfl ?hs ?h00 ?h1 rfl ?_
    case hs=>exact hT.s.sl
    case h00=>omega
    case h1=>(omega)
    exact WO.nil ⟨rfl,rfl⟩
   refine DT.b rfl rfl rfl (WO.loadA rfl rfl (RdF.cellsT hT.s h1.1 h1.2 rfl) rfl rfl (WO.nil ⟨rfl,rfl⟩)) (DT.r rfl rfl rfl (WO.p rfl rfl (WO.nil ⟨rfl,rfl⟩)) (DT.r rfl rfl rfl (WO.p rfl rfl (WO.nil ⟨rfl,rfl⟩)) (DT.r rfl rfl rfl (WO.field rfl rfl rfl (WO.nil ⟨rfl,rfl⟩)) ?_)))
   refine' DT.b rfl rfl rfl ?hq ?_
   case hq =>
    refine' WO.load (v:=_) rfl rfl ?hc rfl ?_
    case hc=>((refine RdC.cellAt hT.c (j:=1) ?_;rfl))
    exact WO.nil ⟨rfl,rfl⟩
   refine DT.r rfl rfl rfl (WO.p rfl rfl (WO.nil ⟨rfl,rfl⟩)) (DT.r rfl rfl rfl (WO.indexAddr (i:=2) rfl rfl rfl hG.sl (by omega) rfl (WO.nil ⟨rfl,rfl⟩)) ?_)
   refine' DT.b rfl rfl rfl ?hq ?_
   case hq =>
    refine' WO.load (v:=_) rfl rfl ?hc rfl ?_
    case hc=>((refine hG.cell0 (i:=2) (by omega) 0 ?_;rfl))
    exact WO.nil ⟨rfl,rfl⟩
   refine' DT.r rfl rfl rfl ?hq ?_
   case hq =>
    refine' WO.indexAddrZ (n:=_) rfl rfl rfl ?hs ?h00 ?h1 rfl ?_
    case hs=>exact hT.s.sl
    case h00=>omega
    case h1=>(omega)
    exact WO.nil ⟨rfl,rfl⟩
   refine DT.b rfl rfl rfl (WO.loadA rfl rfl (RdF.cellsT hT.s h2.1 h2.2 rfl) rfl rfl (WO.nil ⟨rfl,rfl⟩)) (DT.a (fun b6=>(DT.a (fun b7=>(DT.a (fun b8=>(DT.s [_,_,_,_] rfl rfl rfl (WO.storeA rfl rfl rfl rfl (Pick.tail (Pick.tail (Pick.head))) rfl rfl ?_))))))))
   refine WO.nil ⟨[_,_,_],rfl,rfl,(Keep.a (Keep.a (Keep.a (Keep.b (Keep.r (Keep.b (Keep.r (Keep.r (Keep.b (Keep.r (Keep.r (Keep.r (Keep.b (Keep.r (Keep.b (Keep.r (Keep.r (Keep.b (Keep.r (Keep.r (Keep.r (Keep.b (Keep.r (Keep.b (Keep.r (Keep.r (Keep.b (Keep.r (Keep.r (Keep.r Keep.nil)))))))))))))))))))))))))))))),?_⟩
   refine DT.s [_,_,_,_] rfl rfl rfl (WO.storeA rfl rfl rfl rfl (Pick.tail (Pick.tail (Pick.head))) rfl rfl ?_)
   refine WO.nil ⟨[_,_,_],rfl,rfl,(Keep.s (Keep.a (Keep.a (Keep.a (Keep.b (Keep.r (Keep.b (Keep.r (Keep.r (Keep.b (Keep.r (Keep.r (Keep.r (Keep.b (Keep.r (Keep.b (Keep.r (Keep.r (Keep.b (Keep.r (Keep.r (Keep.r (Keep.b (Keep.r (Keep.b (Keep.r (Keep.r (Keep.b (Keep.r (Keep.r (Keep.r Keep.nil))))))))))))))))))))))))))))))),?_⟩
   refine DT.nil [_,_,_,_] rfl (WO.storeA rfl rfl rfl rfl (Pick.tail (Pick.tail (Pick.head))) rfl rfl (WO.nil (W.seq ?_)))
   refine W.drawD 8 [.b 0 [],.b 1 [],.b 2 [],.b 3 [],.b 4 [],.b 5 [],.b 6 [],.b 7 []] [] (A0:=[]) (Sub.refl _) (by kernel_rfl) ?_ ?_
   ·repeat constructor
   refine DT.b rfl rfl rfl (WO.loadA rfl rfl (Cells.own (Pick.tail (Pick.head))) rfl rfl (WO.nil ⟨rfl,rfl⟩)) (DT.b rfl rfl rfl (WO.loadA rfl rfl (Cells.own Pick.head) rfl rfl (WO.nil ⟨rfl,rfl⟩)) (DT.b rfl rfl rfl (WO.callR rfl Tryz.call194 (fun L w hi=>c_cross w (atS (sds rl) g 1) (atS (sds rl) g 2) u1 u2) rfl (WO.nil ⟨rfl,rfl⟩)) (DT.b rfl rfl rfl (WO.loadA rfl rfl (Cells.own Pick.head) rfl rfl (WO.nil ⟨rfl,rfl⟩)) (DT.b rfl rfl rfl (WO.loadA rfl rfl (Cells.own (Pick.tail (Pick.tail (Pick.head)))) rfl rfl (WO.nil ⟨rfl,rfl⟩)) (DT.b rfl rfl rfl (WO.callR rfl Tryz.call194 (fun L w hi=>c_cross w (atS (sds rl) g 2) (atS (sds rl) g 0) u2 u0) rfl (WO.nil ⟨rfl,rfl⟩)) ?_)))))
   refine DT.b rfl rfl rfl (WO.loadA rfl rfl (Cells.own (Pick.tail (Pick.tail (Pick.head)))) rfl rfl (WO.nil ⟨rfl,rfl⟩)) (DT.b rfl rfl rfl (WO.loadA rfl rfl (Cells.own (Pick.tail (Pick.head))) rfl rfl (WO.nil ⟨rfl,rfl⟩)) (DT.nil [_,_,_,_] rfl (WO.callR rfl Tryz.call194 (fun L w hi=>c_cross w (atS (sds rl) g 0) (atS (sds rl) g 1) u0 u1) rfl (WO.p rfl rfl (WO.p rfl rfl (WO.p rfl rfl (WO.nil (W.seq (W.sreg (WO.p rfl rfl (WO.p rfl rfl (WO.p rfl rfl (WO.max3 rfl rfl rfl rfl (WO.p rfl rfl (WO.nil ?_)))))))))))))))
   refine W.cond_bl rfl (fun c5=>?_) (fun c5=>?_)
   ·have hneg:=trivial
    refine W.region (WO.p rfl rfl (WO.neg rfl (by unfold in64;omega) rfl (WO.p rfl rfl (WO.neg rfl (by unfold in64;omega) rfl (WO.p rfl rfl (WO.neg rfl (by unfold in64;omega) rfl (WO.p rfl rfl (WO.p rfl rfl (WO.p rfl rfl (WO.nil (W.sreg (WO.p rfl rfl (WO.p rfl rfl (WO.p rfl rfl (WO.min3 rfl rfl rfl rfl (WO.p rfl rfl (WO.nil ?_)))))))))))))))))
    refine W.cond_bl rfl (fun c6=>?_) (fun c6=>?_)
    ·refine W.sreg (WO.p rfl rfl (WO.p rfl rfl (WO.p rfl rfl (WO.p rfl rfl (WO.p rfl rfl (WO.buildSl rfl rfl rfl rfl rfl rfl rfl rfl rfl (fun v9=>?_)))))))
     (have q:=hneg;refine WO.call (Post:=fun v Hq=>∃ mb:Nat,v=mdV (.map (some mb)) (tkS (sds rl) g [-crs (atS (sds rl) g 1) (atS (sds rl) g 2),-crs (atS (sds rl) g 2) (atS (sds rl) g 0),-crs (atS (sds rl) g 0) (atS (sds rl) g 1)] g.length) 1∧Hq=[pt mb (.map (tkL g [-crs (atS (sds rl) g 1) (atS (sds rl) g 2),-crs (atS (sds rl) g 2) (atS (sds rl) g 0),-crs (atS (sds rl) g 0) (atS (sds rl) g 1)] g.length).toArray g.length)]) rfl Tryz.call195 (fun L w hi=>c_take w p rv sv rl (hT.later hi) hok o _ g _ 1 (hG.later hi) (RdF.of_ow (e:=2) (xs:=[-crs (atS (sds rl) g 1) (atS (sds rl) g 2),-crs (atS (sds rl) g 2) (atS (sds rl) g 0),-crs (atS (sds rl) g 0) (atS (sds rl) g 1)]) encI_ok (by repeat exact .head) hi) hg.rng hg.nd (by show 3=_;omega) hg.len.2 (y3_bd (by omega) (by omega) (by omega))) rfl ?_)
     rintro _ _ ⟨mb,rfl,rfl⟩
     refine WO.storeA rfl rfl rfl rfl (Pick.tail (Pick.tail (Pick.tail (Pick.tail (Pick.tail (Pick.head)))))) rfl rfl (WO.nil (W.ret ?_))
     (have q:=hneg;have e:=zrY_3n (S:=sds rl) (g:=g) (by omega) (by assumption) (by assumption);exact fin.ret (Res.one rfl (RV.cell rfl rfl rfl (Cells.own (by repeat exact .head)))) ⟨mb,by rw [e];rfl,by rw [e];exact fun h hs=>Sub.sat (.cons .head .nil) (zrP_some (by repeat first | exact .head | apply Pick.tail) h hs)⟩)
    ·exfalso;omega
   ·refine W.skip (W.sreg (WO.p rfl rfl (WO.p rfl rfl (WO.p rfl rfl (WO.min3 rfl rfl rfl rfl (WO.p rfl rfl (WO.nil ?_)))))))
    refine W.cond_bl rfl (fun c7=>?_) (fun c7=>?_)
    ·refine W.sreg (WO.p rfl rfl (WO.p rfl rfl (WO.p rfl rfl (WO.p rfl rfl (WO.p rfl rfl (WO.buildSl rfl rfl rfl rfl rfl rfl rfl rfl rfl (fun v10=>?_)))))))
     (refine WO.call (Post:=fun v Hq=>∃ mb:Nat,v=mdV (.map (some mb)) (tkS (sds rl) g [crs (atS (sds rl) g 1) (atS (sds rl) g 2),crs (atS (sds rl) g 2) (atS (sds rl) g 0),crs (atS (sds rl) g 0) (atS (sds rl) g 1)] g.length) 1∧Hq=[pt mb (.map (tkL g [crs (atS (sds rl) g 1) (atS (sds rl) g 2),crs (atS (sds rl) g 2) (atS (sds rl) g 0),crs (atS (sds rl) g 0) (atS (sds rl) g 1)] g.length).toArray g.length)]) rfl Tryz.call195 (fun L w hi=>c_take w p rv sv rl (hT.later hi) hok o _ g _ 1 (hG.later hi) (RdF.of_ow (e:=2) (xs:=[crs (atS (sds rl) g 1) (atS (sds rl) g 2),crs (atS (sds rl) g 2) (atS (sds rl) g 0),crs (atS (sds rl) g 0) (atS (sds rl) g 1)]) encI_ok (by repeat exact .head) hi) hg.rng hg.nd (by show 3=_;omega) hg.len.2 (y3_bd (by omega) (by omega) (by omega))) rfl ?_)
     rintro _ _ ⟨mb,rfl,rfl⟩
     refine WO.storeA rfl rfl rfl rfl (Pick.tail (Pick.tail (Pick.tail (Pick.tail (Pick.tail (Pick.head)))))) rfl rfl (WO.nil (W.ret ?_))
     (have e:=zrY_3p (S:=sds rl) (g:=g) (by omega) (by assumption) (by assumption);exact fin.ret (Res.one rfl (RV.cell rfl rfl rfl (Cells.own (by repeat exact .head)))) ⟨mb,by rw [e];rfl,by rw [e];exact fun h hs=>Sub.sat (.cons .head .nil) (zrP_some (by repeat first | exact .head | apply Pick.tail) h hs)⟩)
    ·refine W.skip (W.sreg (WO.build rfl rfl rfl rfl rfl (WO.storeA rfl rfl rfl rfl (Pick.tail (Pick.tail (Pick.tail (Pick.head)))) rfl rfl (WO.nil (W.ret ?_)))))
     (have e:=zrY_3pn (S:=sds rl) (g:=g) (by omega) (by assumption) (by assumption);exact fin.ret (Res.one rfl (RV.cell rfl rfl rfl (Cells.own (by repeat exact .head)))) ⟨0,by rw [e];rfl,by rw [e];exact fun h hs=>Sub.sat (.cons .head .nil) (zrP_none h hs)⟩)
  ·refine W.skip (W.sreg (WO.build rfl rfl rfl rfl rfl (WO.storeA rfl rfl rfl rfl Pick.head rfl rfl (WO.nil (W.ret ?_)))))
   (have e:=zrY_1 (S:=sds rl) (g:=g) (by omega) (by omega);exact fin.ret (Res.one rfl (RV.cell rfl rfl rfl (Cells.own (by repeat exact .head)))) ⟨0,by rw [e];rfl,by rw [e];exact fun h hs=>Sub.sat (.cons .head .nil) (zrP_none h hs)⟩)
end Go.Proofs.YtfchgmiiicidcaaGreat.Sp
namespace Go.Proofs.YtfchgmiiicidcaaGreat.Sp
open Go Go.TH
attribute [local irreducible] W WO pt
set_option maxRecDepth 10000
set_option maxHeartbeats 1000000
theorem fi_ne {α:Type} {p:α→Bool} {xs:List α} {k:Nat} {x:α} (hx:xs[k]?=some x) (hle:k≤xs.findIdx p) (hn:¬ p x=true):k<xs.findIdx p:=by
 rcases Nat.lt_or_ge k (xs.findIdx p) with h | h
 ·exact h
 ·obtain rfl:k=xs.findIdx p:=by omega
  obtain ⟨hl,e⟩:=List.getElem?_eq_some_iff.1 hx
  have:=List.findIdx_getElem (w:=hl)
  rw [e] at this
  exact absurd this hn
theorem fi_eq {α:Type} {p:α→Bool} {xs:List α} {k:Nat} {x:α} (hx:xs[k]?=some x) (hle:k≤xs.findIdx p) (hp:p x=true):k=xs.findIdx p:=by
 rcases Nat.lt_or_ge k (xs.findIdx p) with h | h
 ·have:=List.not_of_lt_findIdx h
  obtain ⟨hl,e⟩:=List.getElem?_eq_some_iff.1 hx
  rw [e] at this
  rw [this] at hp
  cases hp
 ·omega
def dbt (S:List Sd) (g:List Int):Option (List Int):=match zrY S g with
 | some ys=>if (tkS S g ys g.length).a=0∧(tkS S g ys g.length).b=0∧0<(tkS S g ys g.length).c then some ys else none
 | none=>none
theorem dbt_some {S:List Sd} {g:List Int}:(dbt S g).isSome=true↔zrT (zrY S g)=1∧((zrS S g (zrY S g)).a=0∧(zrS S g (zrY S g)).b=0)∧0<(zrS S g (zrY S g)).c:=by
 unfold dbt zrT zrS
 cases zrY S g with
 | none=>simp
 | some ys =>
  dsimp only
  split
  ·rename_i h;simp [h]
  ·rename_i h;simp;omega
theorem dbt_zrY {S:List Sd} {g ys:List Int} (h:dbt S g=some ys):zrY S g=some ys:=by
 unfold dbt at h
 cases hz:zrY S g with
 | none=>rw [hz] at h;cases h
 | some zs =>
  rw [hz] at h
  dsimp only at h
  split at h
  ·exact h
  ·cases h
theorem dbt_def {S:List Sd} {g:List Int} (h:(dbt S g).isSome=true):∃ ys,dbt S g=some ys∧zrY S g=some ys:=by
 obtain ⟨ys,e⟩:=Option.isSome_iff_exists.1 h
 exact ⟨ys,e,dbt_zrY e⟩
abbrev grS (S:List Sd):List (List Int):=grp 3 S.length
def hitD (S:List Sd):Nat:=(grS S).findIdx fun g=>(dbt S g).isSome
abbrev hitG (S:List Sd):List Int:=(grS S).getD (hitD S) []
def Dbt (S:List Sd):Prop:=hitD S<(grS S).length
instance (S:List Sd):Decidable (Dbt S):=by unfold Dbt;infer_instance
theorem Dbt.iff {S:List Sd}:Dbt S↔∃ g∈grS S,(dbt S g).isSome=true:=by
 unfold Dbt hitD
 rw [List.findIdx_lt_length]
theorem Dbt.hit {S:List Sd} (h:Dbt S):hitG S∈grS S∧(dbt S (hitG S)).isSome=true:=by
 have e:hitG S=(grS S)[hitD S]:=by rw [hitG,List.getD_eq_getElem?_getD,List.getElem?_eq_getElem h];rfl
 rw [e]
 exact ⟨List.getElem_mem _,List.findIdx_getElem (w:=h)⟩
def dbS (S:List Sd):Sd:=if Dbt S then zrS S (hitG S) (zrY S (hitG S)) else sd0
def dbT (S:List Sd):Int:=if Dbt S then 1 else 0
def dbQ (S:List Sd) (mb:Nat):Option Nat:=if Dbt S then some mb else none
def dbP (S:List Sd) (mb:Nat):HP:=fun h=>Dbt S→∃ ys,dbt S (hitG S)=some ys∧pt mb (.map (tkL (hitG S) ys (hitG S).length).toArray (hitG S).length) h
def DbR (S:List Sd) (b3 b4:Nat):Option (List Int)→HP
 | none=>sat [pt b3 (.cells #[.map none,.int .i64 0,.int .i64 0,.int .i64 0,.int .i64 0] 103 (0,0)),pt b4 (.cells #[.bool false] 4 (0,0))]
 | some g=>fun h=>∃ (mb:Nat),sat [pt b3 (.cells #[.map (some mb),.int .i64 (zrS S g (zrY S g)).a,.int .i64 (zrS S g (zrY S g)).b,.int .i64 (zrS S g (zrY S g)).c,.int .i64 1] 103 (0,0)),pt b4 (.cells #[.bool true] 4 (0,0)),zrP g (zrY S g) mb] h
section
variable {S:List Sd} {b3 b4:Nat} {g:List Int} {H H' H2:List HP}
theorem dbR_none (p:Pick (pt b3 (.cells #[.map none,.int .i64 0,.int .i64 0,.int .i64 0,.int .i64 0] 103 (0,0))) H H') (q:Pick (pt b4 (.cells #[.bool false] 4 (0,0))) H' H2):∀ h,sat H h→sat (DbR S b3 b4 none::H2) h:=fun h hs =>
 sat_one (Hs:=[_,_]) h (Sub.sat (.cons p (.cons q (Sub.refl _))) hs)
theorem dbR_open (p:Pick (DbR S b3 b4 none) H H'):∀ h,sat H h→sat (pt b3 (.cells #[.map none,.int .i64 0,.int .i64 0,.int .i64 0,.int .i64 0] 103 (0,0))::pt b4 (.cells #[.bool false] 4 (0,0))::H') h:=fun h hs =>
 sat_many (Hs:=[_,_]) h (p.sat hs)
theorem dbR_some (p:Pick (DbR S b3 b4 (some g)) H H'):∀ h,sat H h→∃ mb:Nat,True∧sat (pt b3 (.cells #[.map (some mb),.int .i64 (zrS S g (zrY S g)).a,.int .i64 (zrS S g (zrY S g)).b,.int .i64 (zrS S g (zrY S g)).c,.int .i64 1] 103 (0,0))::pt b4 (.cells #[.bool true] 4 (0,0))::zrP g (zrY S g) mb::H') h:=fun h hs=>by
 obtain ⟨h1,h2,s,⟨v,hp⟩,hr⟩:=p.sat hs
 exact ⟨v,trivial,sat_join (H1:=[_,_,_]) s hp hr⟩
theorem dbR_pack {mb:Nat} {q:Option Nat} {t:Int} {s:Sd} {Hr:List HP} (hq:q=some mb) (hs0:s=zrS S g (zrY S g)) (ht:t=1) (sb:Sub H (pt b3 (.cells #[.map q,.int .i64 s.a,.int .i64 s.b,.int .i64 s.c,.int .i64 t] 103 (0,0))::pt b4 (.cells #[.bool true] 4 (0,0))::zrP g (zrY S g) mb::Hr)):∀ h,sat H h→sat (DbR S b3 b4 (some g)::Hr) h:=fun h hs=>by
 subst hq ht hs0
 obtain ⟨h1,h2,s2,hp,hr⟩:=sat_app (H1:=[_,_,_]) (sb.sat hs)
 exact ⟨h1,h2,s2,⟨mb,hp⟩,hr⟩
theorem dbP_no {mb:Nat} (h:¬ Dbt S):∀ h,sat H h→sat (dbP S mb::H) h:=fun _ hs=>⟨fun _=>none,_,split_none _,fun q=>absurd q h,hs⟩
theorem dbP_yes {mb:Nat} (h:Dbt S) (p:Pick (zrP (hitG S) (zrY S (hitG S)) mb) H H'):∀ h,sat H h→sat (dbP S mb::H') h:=fun hh hs=>by
 obtain ⟨h1,h2,s,hp,hr⟩:=p.sat hs
 obtain ⟨ys,e,ez⟩:=dbt_def h.hit.2
 exact ⟨h1,h2,s,fun _=>⟨ys,e,hp ys ez⟩,hr⟩
end
theorem c_doubt (w:World) (p:Addr) (rv sv:Value) (rl:List Rn) (hT:Tbl w.heap.size w p rv sv rl) (hok:OkRs rl) (hl:rl.length≤12) :
 Ct Tryz.prog 105 [.pointer (some p)].toArray w fun v w'=>∃ Hq,(∃ mb:Nat,v=.tuple #[mdV (.map (dbQ (sds rl) mb)) (dbS (sds rl)) (dbT (sds rl)),.bool (bl (Dbt (sds rl)))]∧Hq=[dbP (sds rl) mb])∧Inv w [] Hq w':=by
 refine Ct.ofI mixed tyTab Tryz.func105 rfl rfl ?_
 replace hT:Tbl (fnCx mixed tyTab Tryz.f105.ntmps w).B (fnCx mixed tyTab Tryz.f105.ntmps w).w0 p rv sv rl:=hT
 have hsl:=sds_len rl
 refine W.sreg (WO.box1 rfl (by rfl) rfl (fun b1 hb1=>(WO.alloc rfl rfl rfl (fun b2 hb2=>(WO.p rfl rfl (WO.nil (W.scope (W.sreg (WO.alloc rfl rfl rfl (fun b3 hb3=>(WO.nil (W.sreg (WO.alloc rfl rfl rfl (fun b4 hb4=>(WO.store1 rfl rfl rfl (by rfl) Pick.head rfl (WO.nil (W.seq (W.label (W.seq (W.sreg (WO.load rfl rfl (Cell.own (Pick.tail (Pick.tail (Pick.tail (Pick.head)))) rfl) rfl ?_)))))))))))))))))))))
 refine WO.call (Post:=fun v Hq=>∃ b1 b2,v=.func (.func 276) #[] #[.pointer (some ⟨b1,0,none⟩),.pointer (some ⟨b2,0,none⟩)]∧Hq=[pt b2 (.cells #[.int .i64 3] 3 (0,0)),pt b1 (.cells #[.pointer (some p)] 186 (0,0))]) rfl Tryz.call191 (fun L w hi=>c_groups w p 3) rfl ?_
 rintro _ _ ⟨b5,b6,rfl,rfl⟩
 refine WO.nil (W.block (W.chg (dbR_none (S:=sds rl) (b3:=b3) (b4:=b4) (by repeat first | exact .head | apply Pick.tail) (by repeat first | exact .head | apply Pick.tail)) ?_))
 refine W.rangeFuncB (Jmp.exit 0) [pt b6 (.cells #[.int .i64 ((3:Nat):Int)] 3 (0,0)),pt b5 (.cells #[.pointer (some p)] 186 (0,0))] (fun t=>[DbR (sds rl) b3 b4 (if t≤hitD (sds rl) then none else some (hitG (sds rl))),pt b1 (.cells #[.pointer (some p)] 186 (0,0)),pt b2 (.cells #[.map none,.int .i64 0,.int .i64 0,.int .i64 0,.int .i64 0] 103 (0,0))]) (grS (sds rl)) (fun g1 v1=>OwE encI 3 1 v1 g1) (hitD (sds rl)) rfl rfl rfl Tryz.call276 (by repeat (first | exact Sub.nil | refine Sub.cons (by repeat first | exact .head | apply Pick.tail) ?_)) ?_ ?_ ?_ ?_
 ·intro ll Hc hy w1 M1 hB1 hk1 hM1 hi1
  exact c_groups1 _ _ p rv sv rl hT (sds rl).length rfl 3 (by omega) (by omega) _ ll Hc hy b5 b6 w1 M1 hB1 hk1 hM1 hi1
 ·intro ll w1 M1 hB1 hM1 hk1 t g1 v1 hx hle1
  have hgr:=(grp_ok (by omega) (List.mem_of_getElem? hx)).1
  replace hT:=hT.agree hk1
  rw [if_pos hle1]
  refine W.region (WO.p rfl rfl (WO.nil (W.block (W.sreg (WO.load rfl rfl (Cell.own (Pick.tail (Pick.tail (Pick.head))) rfl) rfl (WO.p rfl rfl (WO.call (Post:=fun v Hq=>∃ mb:Nat,v=zrV (sds rl) g1 (zrY (sds rl) g1) mb∧Hq=[zrP g1 (zrY (sds rl) g1) mb]) rfl Tryz.call192 (fun L w hi=>c_zero w p rv sv rl (hT.later hi) hok v1 g1 (RdF.of_ow (e:=3) encI_ok (by repeat exact .head) hi) hgr) rfl ?_)))))))
  rintro _ _ ⟨mb,rfl,rfl⟩
  refine WO.alloc rfl rfl rfl (fun b5 hb5=>(WO.storeA rfl rfl rfl rfl Pick.head rfl rfl (WO.nil (W.sreg (WO.fieldL rfl rfl rfl (WO.load rfl rfl (Cell.own Pick.head rfl) rfl (WO.p rfl rfl (WO.p rfl rfl ?_))))))))
  refine WO.guard_bl rfl rfl (fun c1=>?_) (fun c1=>?_)
  ·refine WO.go' rfl (WO.fieldL rfl rfl rfl (WO.go' rfl (WO.loadA rfl rfl (Cells.ownAt (n:=3) Pick.head rfl) rfl rfl (WO.go' rfl (WO.callR rfl Tryz.call173 (fun L w hi=>c_flat w (zrS (sds rl) g1 (zrY (sds rl) g1))) rfl (WO.go' rfl (WO.build rfl rfl rfl rfl rfl (WO.go' rfl (WO.eqT rfl rfl (eq124z (zrS (sds rl) g1 (zrY (sds rl) g1)).a (zrS (sds rl) g1 (zrY (sds rl) g1)).b) rfl (WO.p rfl rfl (WO.p rfl rfl ?_)))))))))))
   refine WO.guard_bl rfl rfl (fun c2=>?_) (fun c2=>?_)
   ·refine WO.go' rfl (WO.fieldL rfl rfl rfl (WO.go' rfl (WO.indexArrL (o':=3) rfl rfl rfl (by decide) rfl rfl (WO.go' rfl (WO.load rfl rfl (Cell.own Pick.head rfl) rfl (WO.pg rfl rfl rfl (WO.p rfl rfl (WO.nil ?_))))))))
    refine W.cond_bl rfl (fun c3=>?_) (fun c3=>?_)
    ·refine W.chg (dbR_open (S:=sds rl) (b3:=b3) (b4:=b4) (by repeat first | exact .head | apply Pick.tail)) (W.sreg (WO.loadA rfl rfl (Cells.own (Pick.tail (Pick.tail (Pick.head)))) rfl rfl (WO.storeA rfl rfl rfl rfl Pick.head rfl rfl (WO.store1 rfl rfl rfl (by rfl) (Pick.tail (Pick.head)) rfl (WO.nil (W.exit (blk_other rfl ?_)))))))
     have hds:=dbt_some.2 ⟨by assumption,by assumption,by assumption⟩
     have htt:=fi_eq (p:=fun g=>(dbt (sds rl) g).isSome) hx hle1 hds
     obtain ⟨ys,_,hzy⟩:=dbt_def hds
     refine endR.stop (bl_f.2 (by have:t=hitD (sds rl):=htt;omega)) rfl ?_
     rw [if_neg (show ¬ t+1≤hitD (sds rl) by have:t=hitD (sds rl):=htt;omega),show hitG (sds rl)=g1 by unfold hitG;rw [← (show t=hitD (sds rl) from htt),List.getD_eq_getElem?_getD,hx];rfl]
     exact dbR_pack (mb:=mb) (q:=(zrY (sds rl) g1).map fun _=>mb) (s:=zrS (sds rl) g1 (zrY (sds rl) g1)) (t:=zrT (zrY (sds rl) g1)) (by rw [hzy];rfl) rfl (by rw [hzy];rfl) (by repeat (first | exact Sub.nil | refine Sub.cons (by repeat first | exact .head | apply Pick.tail) ?_))
    ·refine W.skip ?_
     have hlt:=fi_ne (p:=fun g=>(dbt (sds rl) g).isSome) hx hle1 (fun q=>by have:=dbt_some.1 q;omega)
     refine endR.go (bl_t.2 hlt) ?_
     rw [if_pos (show t+1≤hitD (sds rl) from hlt)]
     exact fun h hs=>Sub.sat (by repeat (first | exact Sub.nil | refine Sub.cons (by repeat first | exact .head | apply Pick.tail) ?_)) hs
   ·refine WO.no rfl rfl (WO.no rfl rfl (WO.no rfl rfl (WO.no rfl rfl (WO.p rfl rfl (WO.nil (W.cond_f rfl (W.skip ?_)))))))
    have hlt:=fi_ne (p:=fun g=>(dbt (sds rl) g).isSome) hx hle1 (fun q=>by have:=dbt_some.1 q;omega)
    refine endR.go (bl_t.2 hlt) ?_
    rw [if_pos (show t+1≤hitD (sds rl) from hlt)]
    exact fun h hs=>Sub.sat (by repeat (first | exact Sub.nil | refine Sub.cons (by repeat first | exact .head | apply Pick.tail) ?_)) hs
  ·refine WO.no rfl rfl (WO.no rfl rfl (WO.no rfl rfl (WO.no rfl rfl (WO.no rfl rfl (WO.p rfl rfl (WO.p rfl rfl (WO.no rfl rfl (WO.no rfl rfl (WO.no rfl rfl (WO.no rfl rfl (WO.p rfl rfl (WO.nil (W.cond_f rfl (W.skip ?_))))))))))))))
   have hlt:=fi_ne (p:=fun g=>(dbt (sds rl) g).isSome) hx hle1 (fun q=>by have:=dbt_some.1 q;omega)
   refine endR.go (bl_t.2 hlt) ?_
   rw [if_pos (show t+1≤hitD (sds rl) from hlt)]
   exact fun h hs=>Sub.sat (by repeat (first | exact Sub.nil | refine Sub.cons (by repeat first | exact .head | apply Pick.tail) ?_)) hs
 ·intro hAll
  rw [if_pos hAll]
  refine W.chg (dbR_open (S:=sds rl) (b3:=b3) (b4:=b4) (by repeat first | exact .head | apply Pick.tail)) ?_
  have hnd:¬ Dbt (sds rl):=by unfold Dbt;omega
  refine W.chg (dbP_no (mb:=0) hnd) (W.seq ?_)
  refine W.drawD 3 [.b 0 [],.b 1 [],.s 2 []] [] (A0:=[_]) (H0:=[_,_,_,_,_,_]) (.cons (Pick.tail (Pick.tail (Pick.tail (Pick.tail (Pick.tail (Pick.tail .head)))))) (.cons .head (.cons .head (.cons .head (.cons .head (.cons .head (.cons .head .nil))))))) (by kernel_rfl) ?_ ?_
  ·exact (ALok.b (ALok.b (ALok.s ALok.nil)))
  refine DT.b rfl rfl rfl (WO.loadA rfl rfl (Cells.own (Pick.tail (Pick.head))) rfl rfl (WO.nil ⟨rfl,rfl⟩)) (DT.b rfl rfl rfl (WO.load rfl rfl (Cell.own (Pick.tail (Pick.tail (Pick.head))) rfl) rfl (WO.nil ⟨rfl,rfl⟩)) (DT.s [_,_,_,_,_,_,_] rfl rfl rfl (WO.storeA rfl rfl rfl rfl Pick.head rfl rfl ?_)))
  refine WO.nil ⟨[_],rfl,rfl,(Keep.b (Keep.b Keep.nil)),?_⟩
  refine DT.nil [_,_,_,_,_,_,_] rfl (WO.p rfl rfl (WO.nil (W.ret (fin.ret (Res.two rfl (RV.cell rfl rfl rfl (Cells.own (by repeat exact .head))) (RV.tmp rfl)) ?_))))
  first | exact ⟨0,by rw [show dbQ (sds rl) 0=none from if_neg hnd,show dbS (sds rl)=sd0 from if_neg hnd,show dbT (sds rl)=0 from if_neg hnd,bl_f.2 hnd] <;> rfl,fun h hs=>Sub.sat (by repeat (first | exact Sub.nil | refine Sub.cons (by repeat first | exact .head | apply Pick.tail) ?_)) hs⟩ | exact ⟨mb,by rw [show dbQ (sds rl) mb=some mb from if_pos hyd,show dbS (sds rl)=_ from if_pos hyd,show dbT (sds rl)=1 from if_pos hyd,bl_t.2 hyd] <;> rfl,fun h hs=>Sub.sat (by repeat (first | exact Sub.nil | refine Sub.cons (by repeat first | exact .head | apply Pick.tail) ?_)) hs⟩
 ·intro hStop
  rw [if_neg (show ¬ hitD (sds rl)+1≤hitD (sds rl) by omega)]
  have hyd:Dbt (sds rl):=hStop
  refine W.chgE (dbR_some (S:=sds rl) (b3:=b3) (b4:=b4) (by repeat first | exact .head | apply Pick.tail)) ?_
  rintro mb -
  refine W.chg (dbP_yes (mb:=mb) hyd (by repeat first | exact .head | apply Pick.tail)) (W.exit (blk_same (W.seq ?_)))
  refine W.drawD 3 [.b 0 [],.b 1 [],.s 2 []] [] (A0:=[_]) (H0:=[_,_,_,_,_,_]) (.cons (Pick.tail (Pick.tail (Pick.tail (Pick.tail (Pick.tail (Pick.tail .head)))))) (.cons .head (.cons .head (.cons .head (.cons .head (.cons .head (.cons .head .nil))))))) (by kernel_rfl) ?_ ?_
  ·exact (ALok.b (ALok.b (ALok.s ALok.nil)))
  refine DT.b rfl rfl rfl (WO.loadA rfl rfl (Cells.own (Pick.tail (Pick.head))) rfl rfl (WO.nil ⟨rfl,rfl⟩)) (DT.b rfl rfl rfl (WO.load rfl rfl (Cell.own (Pick.tail (Pick.tail (Pick.head))) rfl) rfl (WO.nil ⟨rfl,rfl⟩)) (DT.s [_,_,_,_,_,_,_] rfl rfl rfl (WO.storeA rfl rfl rfl rfl Pick.head rfl rfl ?_)))
  refine WO.nil ⟨[_],rfl,rfl,(Keep.b (Keep.b Keep.nil)),?_⟩
  refine DT.nil [_,_,_,_,_,_,_] rfl (WO.p rfl rfl (WO.nil (W.ret (fin.ret (Res.two rfl (RV.cell rfl rfl rfl (Cells.own (by repeat exact .head))) (RV.tmp rfl)) ?_))))
  first | exact ⟨0,by rw [show dbQ (sds rl) 0=none from if_neg hnd,show dbS (sds rl)=sd0 from if_neg hnd,show dbT (sds rl)=0 from if_neg hnd,bl_f.2 hnd] <;> rfl,fun h hs=>Sub.sat (by repeat (first | exact Sub.nil | refine Sub.cons (by repeat first | exact .head | apply Pick.tail) ?_)) hs⟩ | exact ⟨mb,by rw [show dbQ (sds rl) mb=some mb from if_pos hyd,show dbS (sds rl)=_ from if_pos hyd,show dbT (sds rl)=1 from if_pos hyd,bl_t.2 hyd] <;> rfl,fun h hs=>Sub.sat (by repeat (first | exact Sub.nil | refine Sub.cons (by repeat first | exact .head | apply Pick.tail) ?_)) hs⟩
end Go.Proofs.YtfchgmiiicidcaaGreat.Sp
namespace Go.Proofs.YtfchgmiiicidcaaGreat.Sp
open Go Go.TH
attribute [local irreducible] W WO pt
set_option maxRecDepth 10000
set_option maxHeartbeats 1000000
abbrev Md:=Nat × Sd × Int
def encMd (x:Md):List Value:=[.map (some x.1),.int .i64 x.2.1.a,.int .i64 x.2.1.b,.int .i64 x.2.1.c,.int .i64 x.2.2]
theorem encMd_ok:EncOk encMd 5:=⟨fun _=>rfl,fun x u hu=>by simp [encMd] at hu;rcases hu with rfl | rfl | rfl | rfl | rfl <;> rfl,by omega⟩
def md0:Md:=(0,sd0,0)
abbrev Mds.at (xs:List Md) (i:Nat):Md:=xs.getD i md0
structure OkM (x:Sd × Int):Prop where
 c : -400000000≤x.1.c∧x.1.c≤400000000
 t:0<x.2∧x.2≤1000
def gtM (x y:Sd × Int):Prop:=y.1.c*x.2<x.1.c*y.2
instance (x y:Sd × Int):Decidable (gtM x y):=by unfold gtM;infer_instance
theorem red_lt {n d m e:Int} (hd:0<d) (he:0<e):(red n d).1*(red m e).2<(red m e).1*(red n d).2↔n*e<m*d:=by
 obtain ⟨g,hg,h1,h2,_⟩:=red_parts n hd
 obtain ⟨k,hk,h3,h4,_⟩:=red_parts m he
 generalize red n d=u at *
 generalize red m e=v at *
 have e1:n*e=u.1*v.2*(g*k):=by rw [h1,h4];grind
 have e2:m*d=v.1*u.2*(g*k):=by rw [h3,h2];grind
 have hp:=Int.mul_pos hg hk
 rw [e1,e2]
 constructor
 ·exact fun h=>Int.mul_lt_mul_of_pos_right h hp
 ·intro h
  rcases Int.lt_or_le (u.1*v.2) (v.1*u.2) with q | q
  ·exact q
  ·have:=Int.mul_le_mul_of_nonneg_right q (Int.le_of_lt hp);omega
theorem red_in {n d:Int} (hn : -400000000≤n∧n≤400000000) (hd:0<d∧d≤1000):(-400000000≤(red n d).1∧(red n d).1≤400000000)∧0<(red n d).2∧(red n d).2≤1000:=by
 obtain ⟨g,hg,h1,h2,h3,h4,h5⟩:=red_parts n hd.1
 unfold ab at h5
 omega
theorem c_bound (w:World) (x:Md) (h:OkM x.2):Ret Tryz.prog 40 [mdV (.map (some x.1)) x.2.1 x.2.2].toArray w (raV (red x.2.1.c x.2.2)):=by
 refine Ret.of mixed tyTab Tryz.func40 rfl rfl ?_
 obtain ⟨h1,h2⟩:=h
 refine W.sreg (WO.boxA rfl rfl (fun b1 hb1=>(WO.alloc rfl rfl rfl (fun b2 hb2=>(WO.nil (W.sreg (WO.fieldL rfl rfl rfl (WO.indexArrL (o':=3) rfl rfl rfl (by decide) rfl rfl (WO.load rfl rfl (Cell.own (Pick.tail (Pick.head)) rfl) rfl (WO.fieldL rfl rfl rfl (WO.load rfl rfl (Cell.own (Pick.tail (Pick.head)) rfl) rfl (WO.callR rfl Tryz.call107 (fun L w hi=>c_ratio w x.2.1.c x.2.2 (by omega) (by omega)) rfl (WO.storeA rfl rfl rfl rfl Pick.head rfl rfl (WO.nil (W.ret ?_)))))))))))))))
 exact fin.ret (Res.one rfl (RV.cell rfl rfl rfl (Cells.own Pick.head))) rfl
theorem c_boundQ (w:World) (q:Option Nat) (s:Sd) (t:Int) (h:OkM (s,t)):Ret Tryz.prog 40 [mdV (.map q) s t].toArray w (raV (red s.c t)):=by
 refine Ret.of mixed tyTab Tryz.func40 rfl rfl ?_
 obtain ⟨h1,h2⟩:=h
 dsimp only at h1 h2
 refine W.sreg (WO.boxA rfl rfl (fun b1 hb1=>(WO.alloc rfl rfl rfl (fun b2 hb2=>(WO.nil (W.sreg (WO.fieldL rfl rfl rfl (WO.indexArrL (o':=3) rfl rfl rfl (by decide) rfl rfl (WO.load rfl rfl (Cell.own (Pick.tail (Pick.head)) rfl) rfl (WO.fieldL rfl rfl rfl (WO.load rfl rfl (Cell.own (Pick.tail (Pick.head)) rfl) rfl (WO.callR rfl Tryz.call107 (fun L w hi=>c_ratio w s.c t (by omega) (by omega)) rfl (WO.storeA rfl rfl rfl rfl Pick.head rfl rfl (WO.nil (W.ret ?_)))))))))))))))
 exact fin.ret (Res.one rfl (RV.cell rfl rfl rfl (Cells.own Pick.head))) rfl
theorem c_before (w:World) (x y:Md) (hx:OkM x.2) (hy:OkM y.2):Ret Tryz.prog 197 [mdV (.map (some x.1)) x.2.1 x.2.2,mdV (.map (some y.1)) y.2.1 y.2.2].toArray w (.bool (bl (gtM x.2 y.2))):=by
 refine Ret.of mixed tyTab Tryz.func197 rfl rfl ?_
 have rx:=red_in hx.c hx.t
 have ry:=red_in hy.c hy.t
 have m1:=mul_bd (A:=400000000) (B:=1000) ry.1 (show -1000≤(red x.2.1.c x.2.2).2∧(red x.2.1.c x.2.2).2≤1000 by omega)
 have m2:=mul_bd (A:=400000000) (B:=1000) rx.1 (show -1000≤(red y.2.1.c y.2.2).2∧(red y.2.1.c y.2.2).2≤1000 by omega)
 refine W.sreg (WO.boxA rfl rfl (fun b1 hb1=>(WO.boxA rfl rfl (fun b2 hb2=>(WO.p rfl rfl (WO.nil (W.seq ?_)))))))
 refine W.drawD 3 [.b 0 [],.b 1 [],.b 2 []] [] (A0:=[]) (Sub.refl _) (by kernel_rfl) ?_ ?_
 ·repeat constructor
 refine DT.b rfl rfl rfl (WO.loadA rfl rfl (Cells.own Pick.head) rfl rfl (WO.nil ⟨rfl,rfl⟩)) (DT.b rfl rfl rfl (WO.callR rfl Tryz.call40 (fun L w hi=>c_bound w y hy) rfl (WO.nil ⟨rfl,rfl⟩)) (DT.b rfl rfl rfl (WO.loadA rfl rfl (Cells.own (Pick.tail (Pick.head))) rfl rfl (WO.nil ⟨rfl,rfl⟩)) (DT.nil [_,_] rfl (WO.callR rfl Tryz.call40 (fun L w hi=>c_bound w x hx) rfl ?_))))
 refine WO.callR (r:=.bool (bl (gtM x.2 y.2))) rfl Tryz.call180 (fun L w hi=>by have h:=c_less w (red y.2.1.c y.2.2).1 (red y.2.1.c y.2.2).2 (red x.2.1.c x.2.2).1 (red x.2.1.c x.2.2).2 (by unfold in64;omega) (by unfold in64;omega);rw [show bl ((red y.2.1.c y.2.2).1*(red x.2.1.c x.2.2).2<(red x.2.1.c x.2.2).1*(red y.2.1.c y.2.2).2)=bl (gtM x.2 y.2) by rw [bl_eq,bl_eq,decide_eq_decide];exact red_lt hy.t.1 hx.t.1] at h;exact h) rfl (WO.p rfl rfl (WO.nil (W.ret ?_)))
 exact fin.ret (Res.one rfl (RV.tmp rfl)) rfl
theorem RdF.cellsM {C:Cx Tryz.prog} {H:List HP} {o:Value} {xs:List Md} (h:RdF encMd 5 C.B C.w0 o xs) {i:Nat} (h1:i<xs.length):Cells C H (elt o i 5) [.map (some (Mds.at xs i).1),.int .i64 (Mds.at xs i).2.1.a,.int .i64 (Mds.at xs i).2.1.b,.int .i64 (Mds.at xs i).2.1.c,.int .i64 (Mds.at xs i).2.2]:=RdF.cells h h1 _
theorem tail_at {xs:List Md} {i:Nat} {n:Nat} (h:n=xs.length):Mds.at ((xs.drop 1).take (n-1)) i=Mds.at xs (i+1)∨xs.length≤i+1:=by
 subst h
 rcases Nat.lt_or_ge (i+1) xs.length with g | g
 ·refine .inl ?_
  simp only [Mds.at,List.getD_eq_getElem?_getD]
  rw [List.getElem?_take_of_lt (by omega),List.getElem?_drop,Nat.add_comm]
 ·exact .inr g
structure FirstM (xs:List Md) (n:Nat) (x:Md):Prop where
 mem:x∈xs
 max:∀ j,j<n→j<xs.length→¬ gtM (Mds.at xs j).2 x.2
theorem gtM_trans {x y z:Sd × Int} (hx:OkM x) (hy:OkM y) (hz:OkM z) (h1:gtM x y) (h2:¬ gtM z y):¬ gtM z x:=fun h3=>by
 unfold gtM at h1 h2 h3
 have k1:=Int.mul_lt_mul_of_pos_right h1 hz.t.1
 have k2:=Int.mul_le_mul_of_nonneg_right (Int.not_lt.1 h2) (Int.le_of_lt hx.t.1)
 have k3:=Int.mul_lt_mul_of_pos_right h3 hy.t.1
 have e1:x.1.c*y.2*z.2=x.1.c*z.2*y.2:=by grind
 have e2:y.1.c*z.2*x.2=y.1.c*x.2*z.2:=by grind
 have e3:z.1.c*x.2*y.2=z.1.c*y.2*x.2:=by grind
 omega
theorem first_no {xs:List Md} {i:Nat} {x:Md} (h:FirstM xs (i+1) x) (hn:¬ gtM (Mds.at xs (i+1)).2 x.2):FirstM xs (i+1+1) x :=
 ⟨h.mem,fun j hj hl=>by
  rcases Nat.lt_or_ge j (i+1) with g | g
  ·exact h.max j g hl
  ·obtain rfl:j=i+1:=by omega
   exact hn⟩
theorem first_yes {xs:List Md} {i:Nat} {x:Md} (h:FirstM xs (i+1) x) (hk:∀ x∈xs,OkM x.2) (hi:i+1<xs.length) (hn:gtM (Mds.at xs (i+1)).2 x.2):FirstM xs (i+1+1) (Mds.at xs (i+1)) :=
 ⟨getD_mem hi _,fun j hj hl=>by
  rcases Nat.lt_or_ge j (i+1) with g | g
  ·exact gtM_trans (hk _ (getD_mem hi _)) (hk _ h.mem) (hk _ (getD_mem hl md0)) hn (h.max j g hl)
  ·obtain rfl:j=i+1:=by omega
   unfold gtM;omega⟩
theorem c_first (w:World) (a:Option Addr) (c:Nat) (xs:List Md) (hR:RdF encMd 5 w.heap.size w (.slice a xs.length c) xs) (hcap:xs.length≤c) (h0:0<xs.length) (hk:∀ x∈xs,OkM x.2) :
 RetE Tryz.prog 196 [.slice a xs.length c,.func (.func 197) #[] #[]].toArray w (fun r=>∃ x,FirstM xs xs.length x∧r=.agg (encMd x).toArray):=by
 refine RetE.of mixed tyTab Tryz.func196 rfl rfl ?_
 replace hR:RdF encMd 5 (fnCx mixed tyTab Tryz.f196.ntmps w).B (fnCx mixed tyTab Tryz.f196.ntmps w).w0 (.slice a xs.length c) xs:=hR
 have hle:=hR.sl.le
 have hT:=hR.sub (lo:=1) (hi:=xs.length) (mx:=c) (by omega) hcap (Nat.le_refl _)
 generalize hsv:(Value.slice (if c=1 then a else ofs a (1*5)) (xs.length-1) (c-1))=sv at hT
 have hTl:((xs.drop 1).take (xs.length-1)).length=xs.length-1:=by rw [List.length_take,List.length_drop];omega
 have hTs:IsSl sv (xs.length-1):=hTl▸hT.sl
 refine W.sreg (WO.alloc rfl rfl rfl (fun b1 hb1=>(WO.nil (W.sreg (WO.p rfl rfl (WO.indexAddr (i:=0) rfl rfl rfl hR.sl (by omega) rfl (WO.loadA rfl rfl (RdF.cellsM hR (i:=0) h0) rfl rfl (WO.alloc rfl rfl rfl (fun b2 hb2=>(WO.storeA rfl rfl rfl rfl Pick.head rfl rfl (WO.nil (W.seq (W.sreg (WO.p rfl rfl (WO.slSl (lo:=1) (hi:=xs.length) (mx:=c) rfl rfl (bnd.at (n:=1) rfl) bnd.no bnd.no (fun h => (by cases h)) (by omega) hcap (Nat.le_refl _) rfl ?_)))))))))))))))
 rw [hsv]
 refine WO.len rfl rfl hTs rfl (WO.p rfl rfl (WO.nil (W.block ?_)))
 refine W.loop2 (fun (i:Nat) (x:Md)=>i≤xs.length-1∧FirstM xs (i+1) x)
  (fun (i:Nat) (x:Md)=>[(14,.int .i64 (i:Int)),(13,.int .i64 ((xs.length-1:Nat):Int)),(12,sv),(5,.pointer (some ⟨b2,0,none⟩)),(4,.pointer (some ⟨b1,0,none⟩)),(1,.func (.func 197) #[] #[])])
  (fun (i:Nat) (x:Md)=>[pt b2 (.cells #[.map (some x.1),.int .i64 x.2.1.a,.int .i64 x.2.1.b,.int .i64 x.2.1.c,.int .i64 x.2.2] 103 (0,0)),pt b1 (.cells #[.map none,.int .i64 0,.int .i64 0,.int .i64 0,.int .i64 0] 103 (0,0))])
  (fun (i:Nat) (x:Md)=>xs.length-1-i) 0 (Mds.at xs 0)
  (by exact ⟨by omega,getD_mem h0 _,fun j hj _=>by obtain rfl:j=0:=(by omega);unfold gtM;omega⟩) ⟨rfl,rfl,rfl,rfl,rfl,rfl,trivial⟩ (by repeat (first | exact Sub.nil | refine Sub.cons (by repeat exact .head) ?_)) ?_
 rintro i x ⟨hi0,hF⟩
 refine W.sreg (WO.p rfl rfl (WO.nil (W.seq ?_)))
 refine W.cond_bl rfl (fun c1=>?_) (fun c1=>?_)
 ·refine W.skip (W.seq (W.block ?_))
  have ht:=(tail_at (xs:=xs) (i:=i) rfl).resolve_right (by omega)
  refine W.sreg (WO.indexAddr rfl rfl rfl hTs (by omega) rfl (WO.loadA rfl rfl (RdF.cellsM hT (i:=i) (by omega)) rfl rfl (WO.alloc rfl rfl rfl (fun b3 hb3=>(WO.storeA rfl rfl rfl rfl Pick.head rfl rfl (WO.nil (W.sreg (WO.p rfl rfl (WO.loadA rfl rfl (Cells.own Pick.head) rfl rfl (WO.loadA rfl rfl (Cells.own (Pick.tail (Pick.head))) rfl rfl (WO.callCR (first:=[]) (captured:=[]) rfl rfl Tryz.call197 (fun L w hi'=>by rw [ht];exact c_before w (Mds.at xs (i+1)) x (hk _ (getD_mem (by omega) _)) (hk _ hF.mem)) rfl (WO.nil ?_))))))))))))
  refine W.cond_bl rfl (fun c2=>?_) (fun c2=>?_)
  ·refine W.region (WO.loadA rfl rfl (Cells.own Pick.head) rfl rfl (WO.storeA rfl rfl rfl rfl (Pick.tail (Pick.head)) rfl rfl (WO.nil (W.region (WO.ar rfl rfl rfl (by unfold in64;omega) rfl (WO.p rfl rfl (WO.nil ?_)))))))
   refine' ⟨i+1,_,?hp,?hmu,⟨rfl,rfl,rfl,rfl,rfl,rfl,trivial⟩,?hS⟩
   case hS=>repeat (first | exact Sub.nil | refine Sub.cons (by repeat first | exact .head | apply Pick.tail) ?_)
   case hp=>exact ⟨by omega,by rw [ht];exact first_yes hF hk (by omega) (by assumption)⟩
   case hmu=>omega
  ·refine W.skip (W.region (WO.ar rfl rfl rfl (by unfold in64;omega) rfl (WO.p rfl rfl (WO.nil ?_))))
   refine' ⟨i+1,_,?hp,?hmu,⟨rfl,rfl,rfl,rfl,rfl,rfl,trivial⟩,?hS⟩
   case hS=>repeat (first | exact Sub.nil | refine Sub.cons (by repeat first | exact .head | apply Pick.tail) ?_)
   case hp=>exact ⟨by omega,first_no hF (by assumption)⟩
   case hmu=>omega
 ·refine W.exit (blk_same (W.sreg (WO.loadA rfl rfl (Cells.own Pick.head) rfl rfl (WO.storeA rfl rfl rfl rfl (Pick.tail (Pick.head)) rfl rfl (WO.nil (W.ret ?_))))))
  obtain rfl:i=xs.length-1:=by omega
  refine fin.ret (Res.one rfl (RV.cell rfl rfl rfl (Cells.own (by repeat exact .head)))) ⟨x,?_,rfl⟩
  rw [show xs.length-1+1=xs.length by omega] at hF;exact hF
end Go.Proofs.YtfchgmiiicidcaaGreat.Sp
