/-
  What is proved here: what the hull of a table of tanks without biases can have. Conditions: none; each contract states its own.
-/
import Derived.Test.YtoapkhkdnbcilaaGreatM5
import Derived.Test.YtoapkhkdnbcilaaGreatM2
import Derived.Test.YtoapkhkdnbcilaaGreatM4
import Derived.Deep.Strs
import Derived.OpenShut
set_option linter.unusedVariables false
set_option linter.unusedSimpArgs false
namespace Go.Proofs.YtoapkhkdnbcilaaGreat
open Go Go.TH
attribute [local irreducible] W WO pt
set_option maxRecDepth 10000
set_option maxHeartbeats 4000000
theorem c_hulls (w:World) (o lst:Value) (ws:Wss) (v:Int) (hw:OkW ws v) (hR:RdF encT 4 w.heap.size w o (tsW ws)) (hS:RdF encI 1 w.heap.size w lst [0]):Ct Tryz.prog 36 [tbV ws o,lst].toArray w fun r w'=>∃ Hq,(∃ x:Nat × Nat × Nat,r=.tuple #[.pointer (some ⟨x.1,0,none⟩),.pointer (some ⟨x.2.1,0,none⟩),.int .i64 0]∧Hq=[netP x.1 (hdW ws o) (mkF (gG ws.length (aW ws) (bW ws))),hgT x.2.1 x.1 ws.length (aW ws) x.2.2])∧Inv w [] Hq w':=by
 refine Ct.ofI (X:=Nat × Nat × Nat) (p:=fun x r=>r=.tuple #[.pointer (some ⟨x.1,0,none⟩),.pointer (some ⟨x.2.1,0,none⟩),.int .i64 0]) (Hx:=fun x=>[netP x.1 (hdW ws o) (mkF (gG ws.length (aW ws) (bW ws))),hgT x.2.1 x.1 ws.length (aW ws) x.2.2]) mixed tyTab Tryz.func36 rfl rfl ?_
 replace hR:RdF encT 4 (fnCx mixed tyTab Tryz.f36.ntmps w).B (fnCx mixed tyTab Tryz.f36.ntmps w).w0 o (tsW ws):=hR
 replace hS:RdF encI 1 (fnCx mixed tyTab Tryz.f36.ntmps w).B (fnCx mixed tyTab Tryz.f36.ntmps w).w0 lst [0]:=hS
 have hoc:=hR.sl.oc
 have hsc:=hS.sl.oc
 have hn:=hw.n
 have hts:=tsW_len ws
 have hs1:([0]:List Int).length=1:=rfl
 refine W.sreg (WO.boxA rfl rfl (fun b1 hb1=>(WO.p rfl rfl (WO.p rfl rfl (WO.p rfl rfl (WO.nil (W.seq (W.sreg (WO.loadA rfl rfl (Cells.own Pick.head) rfl rfl (WO.callR rfl Tryz.call29 (fun L w hi=>c_CheckTable9 w (ws.length:Int) 1 0 0 o (tsW ws) hw.tb (hR.later hi)) rfl (WO.p rfl rfl (WO.nil (W.sreg (WO.p rfl rfl (WO.neqF rfl rfl (by omega) rfl (WO.nil (W.cond_f rfl (W.skip (W.seq (W.sreg (WO.p rfl rfl ?_)))))))))))))))))))))
 refine' WO.len (n:=_) rfl rfl ?hs rfl ?_
 case hs=>exact hS.sl
 refine WO.p rfl rfl (WO.nil (W.block ?_))
 refine W.loop (fun (i:Nat)=>i≤1)
  (fun (i:Nat)=>[(1,lst),(2,.pointer (some ⟨b1,0,none⟩)),(20,lst),(21,.int .i64 (([0]:List Int).length:Int)),(22,.int .i64 (i:Int))])
  (fun (i:Nat)=>[pt b1 (.cells #[.int .i64 (ws.length:Int),.int .i64 1,.int .i64 0,.int .i64 0,o] 31 (0,0))])
  (fun (i:Nat)=>1-i) 0
  (by omega) ⟨rfl,rfl,rfl,rfl,rfl,trivial⟩ (by repeat (first | exact Sub.nil | refine Sub.cons (by repeat exact .head) ?_)) ?_
 rintro i hi0
 refine W.sreg (WO.p rfl rfl (WO.nil (W.seq ?_)))
 refine W.cond_bl rfl (fun c1=>?_) (fun c1=>?_)
 ·refine W.skip (W.seq (W.block ?_))
  have hi00:i=0:=by omega
  subst hi00
  refine W.sreg ?_
  refine' WO.indexAddr (n:=_) (i:=_) rfl rfl rfl ?hs ?h1 rfl ?_
  case hs=>exact hS.sl
  case h1=>(omega)
  refine' WO.load (v:=_) rfl rfl ?hc rfl ?_
  case hc=>(first | (refine hS.cell0 (i:=0) ?_ 0 ?_ <;> first | rfl | omega))
  refine WO.p rfl rfl (WO.nil (W.sreg (WO.p rfl rfl (WO.lssF rfl rfl (by decide) rfl (WO.p rfl rfl (WO.pg rfl rfl rfl (WO.go' rfl (WO.fieldL rfl rfl rfl (WO.go' rfl (WO.load rfl rfl (Cell.own Pick.head rfl) rfl (WO.go' rfl (WO.geqF rfl rfl (by decide) rfl (WO.p rfl rfl (WO.nil (W.cond_f rfl (W.skip (W.region (WO.ar rfl rfl rfl (by unfold in64;omega) rfl (WO.p rfl rfl (WO.nil ?_))))))))))))))))))))
  refine' ⟨0+1,?hp,?hmu,⟨rfl,rfl,rfl,rfl,rfl,trivial⟩,?hS⟩
  case hS=>repeat (first | exact Sub.nil | refine Sub.cons (by repeat exact .head) ?_)
  case hp=>omega
  case hmu=>omega
 ·refine W.exit (blk_same (W.sreg (WO.loadA rfl rfl (Cells.own Pick.head) rfl rfl (WO.call (Post:=fun r Hq=>∃ b:Nat,r=.pointer (some ⟨b,0,none⟩)∧Hq=[netP b (hdW ws o) (mkF (g2 ws ws.length ws.length))]) rfl Tryz.call32 (fun L w hi=>c_newNet w o ws v hw (hR.later hi)) rfl ?_))))
  rintro _ _ ⟨nb,rfl,rfl⟩
  rw [g2_gG]
  refine WO.p rfl rfl (WO.nil (W.sreg (WO.p rfl rfl (WO.call (Post:=fun r Hq=>∃ x:Nat × Nat,r=.tuple #[.pointer (some ⟨x.1,0,none⟩),.bool true]∧Hq=[hgT x.1 nb ws.length (aW ws) x.2,MpI x.2]) rfl Tryz.call33 (fun L w hi=>c_heights w nb ws.length (aW ws) (bW ws) (hdW ws o) (RdO.of (by repeat exact .head) hi) rfl (hd5 ws o) (okG hw) (aB hw) (bB hw)) rfl ?_))))
  rintro _ _ ⟨⟨hb,mb⟩,rfl,rfl⟩
  refine WO.p rfl rfl (WO.p rfl rfl (WO.p rfl rfl (WO.p rfl rfl (WO.p rfl rfl (WO.nil (W.seq (W.sreg (WO.p rfl rfl (WO.p rfl rfl (WO.nil (W.cond_f rfl (W.skip (W.seq (W.sreg (WO.p rfl rfl ?_)))))))))))))))
  refine' WO.len (n:=_) rfl rfl ?hs rfl ?_
  case hs=>exact hS.sl
  refine WO.p rfl rfl (WO.nil (W.block ?_))
  refine W.loop (fun (i:Nat)=>i≤1)
   (fun (i:Nat)=>[(2,.pointer (some ⟨b1,0,none⟩)),(10,.pointer (some (Addr.mk nb 0 none))),(11,.pointer (some (Addr.mk hb 0 none))),(44,lst),(45,.int .i64 (([0]:List Int).length:Int)),(46,.int .i64 (i:Int))])
   (fun (i:Nat)=>[pt b1 (.cells #[.int .i64 (ws.length:Int),.int .i64 1,.int .i64 0,.int .i64 0,o] 31 (0,0)),netP nb (hdW ws o) (mkF (gG ws.length (aW ws) (bW ws))),hgT hb nb ws.length (aW ws) mb])
   (fun (i:Nat)=>1-i) 0
   (by omega) ⟨rfl,rfl,rfl,rfl,rfl,rfl,trivial⟩ (by repeat (first | exact Sub.nil | refine Sub.cons (by repeat first | exact .head | apply Pick.tail) ?_)) ?_
  rintro i hi0
  refine W.sreg (WO.p rfl rfl (WO.nil (W.seq ?_)))
  refine W.cond_bl rfl (fun c2=>?_) (fun c2=>?_)
  ·refine W.skip (W.seq (W.block ?_))
   have hi00:i=0:=by omega
   subst hi00
   refine W.sreg ?_
   refine' WO.indexAddr (n:=_) (i:=_) rfl rfl rfl ?hs ?h1 rfl ?_
   case hs=>exact hS.sl
   case h1=>(omega)
   refine' WO.load (v:=_) rfl rfl ?hc rfl ?_
   case hc=>(first | (refine hS.cell0 (i:=0) ?_ 0 ?_ <;> first | rfl | omega))
   refine WO.alloc rfl rfl rfl (fun b2 hb2=>(WO.store1 rfl rfl rfl (by rfl) Pick.head rfl (WO.nil (W.sreg (WO.fieldL rfl rfl rfl (WO.load rfl rfl (Cell.own (Pick.tail (Pick.head)) rfl) rfl (WO.p rfl rfl (WO.callR rfl Tryz.call72 (fun L w hi=>c_ContH w o (tsW ws) b2 (hR.later hi) (by omega) (Cap.of (b:=b2) (by repeat exact .head) rfl hi) (by rw [tsW_get (by omega)])) rfl (WO.p rfl rfl (WO.nil (W.cond_f rfl (W.skip (W.region (WO.ar rfl rfl rfl (by unfold in64;omega) rfl (WO.p rfl rfl (WO.nil ?_))))))))))))))))
   refine' ⟨0+1,?hp,?hmu,⟨rfl,rfl,rfl,rfl,rfl,rfl,trivial⟩,?hS⟩
   case hS=>repeat (first | exact Sub.nil | refine Sub.cons (by repeat first | exact .head | apply Pick.tail) ?_)
   case hp=>omega
   case hmu=>omega
  ·refine W.exit (blk_same (W.sreg (WO.p rfl rfl (WO.p rfl rfl (WO.p rfl rfl (WO.p rfl rfl (WO.p rfl rfl (WO.nil (W.ret ?_)))))))))
   exact fin.ret (Res.three rfl (RV.tmp rfl) (RV.tmp rfl) (RV.tmp rfl)) ⟨(nb,hb,mb),rfl,fun h hs=>Sub.sat (.cons (by repeat first | exact .head | apply Pick.tail) (.cons (by repeat first | exact .head | apply Pick.tail) .nil)) hs⟩
theorem c_Spread (w:World) (o:Value) (ws:Wss) (v:Int) (hw:OkW ws v) (hR:RdF encT 4 w.heap.size w o (tsW ws)):Ret Tryz.prog 15 [tbV ws o,.int .i64 0].toArray w (.tuple #[.agg #[.int .i64 (-(1*((hv (aW ws) ws.length).getD 0))),.int .i64 (-(-1*((hv (bW ws) ws.length).getD 0)))],.int .i64 0]):=by
 refine Ret.of mixed tyTab Tryz.func15 rfl rfl ?_
 replace hR:RdF encT 4 (fnCx mixed tyTab Tryz.f15.ntmps w).B (fnCx mixed tyTab Tryz.f15.ntmps w).w0 o (tsW ws):=hR
 have hoc:=hR.sl.oc
 have hn:=hw.n
 refine W.sreg (WO.boxA rfl rfl (fun b1 hb1=>(WO.alloc rfl rfl rfl (fun b2 hb2=>(WO.p rfl rfl (WO.nil (W.sreg (WO.loadA rfl rfl (Cells.own (Pick.tail (Pick.head))) rfl rfl (WO.p rfl rfl ?_)))))))))
 refine' WO.buildSl (cs:=_) rfl rfl rfl rfl ?hf rfl rfl ?hl rfl (fun v3=>?_)
 case hf=>(conv=>lhs;simp [-List.getD_eq_getElem?_getD,fillL,vcl,wrl,TTab.pl?.lget']) <;> rfl
 case hl=>rfl
 refine WO.call (Post:=fun r Hq=>∃ x:Nat × Nat × Nat,r=.tuple #[.pointer (some ⟨x.1,0,none⟩),.pointer (some ⟨x.2.1,0,none⟩),.int .i64 0]∧Hq=[netP x.1 (hdW ws o) (mkF (gG ws.length (aW ws) (bW ws))),hgT x.2.1 x.1 ws.length (aW ws) x.2.2]) rfl Tryz.call36 (fun L w hi=>c_hulls w o _ ws v hw (hR.later hi) (RdF.of_ow (e:=3) encI_ok (by repeat exact .head) hi)) rfl ?_
 rintro _ _ ⟨⟨nb,hb,mb⟩,rfl,rfl⟩
 refine WO.p rfl rfl (WO.p rfl rfl (WO.p rfl rfl (WO.p rfl rfl (WO.p rfl rfl (WO.p rfl rfl (WO.p rfl rfl (WO.nil (W.seq (W.sreg (WO.p rfl rfl (WO.neqF rfl rfl (by omega) rfl (WO.nil (W.cond_f rfl (W.skip (W.sreg (WO.p rfl rfl (WO.call (Post:=fun r Hq=>∃ b:Nat,r=.pointer (some ⟨b,0,none⟩)∧Hq=[netP b (hdW ws o) (mkF (fun q r=>gG ws.length (aW ws) (bW ws) r q))]) rfl Tryz.call37 (fun L w hi=>c_turned w nb o ws _ hoc hw.n (fun q r h=>gG_none h) (RdO.of (by repeat exact .head) hi)) rfl ?_)))))))))))))))))
 rintro _ _ ⟨tb,rfl,rfl⟩
 rw [gG_turn]
 refine WO.call (Post:=fun r Hq=>∃ x:Nat × Nat,r=.tuple #[.pointer (some ⟨x.1,0,none⟩),.bool true]∧Hq=[hgT x.1 tb ws.length (bW ws) x.2,MpI x.2]) rfl Tryz.call33 (fun L w hi=>c_heights w tb ws.length (bW ws) (aW ws) (hdW ws o) (RdO.of (by repeat exact .head) hi) rfl (hd5 ws o) (okG' hw) (bB hw) (aB hw)) rfl ?_
 rintro _ _ ⟨⟨lb,mc⟩,rfl,rfl⟩
 refine WO.p rfl rfl (WO.p rfl rfl (WO.p rfl rfl (WO.p rfl rfl (WO.p rfl rfl (WO.nil (W.seq ?_))))))
 refine W.drawD 12 [.r 0 [],.r 3 [],.r 6 [],.r 9 [],.c 1 [],.r 2 [],.r 4 [],.g 5 [] (fun _=>True),.c 7 [],.r 8 [],.r 10 [],.g 11 [] (fun _=>True)] [] (A0:=[]) (Sub.refl _) (by kernel_rfl) ?_ ?_
 ·exact (ALok.r (ALok.r (ALok.r (ALok.r (ALok.c (ALok.r (ALok.r (ALok.g (ALok.c (ALok.r (ALok.r (ALok.g ALok.nil))))))))))))
 refine DT.r rfl rfl rfl (WO.p rfl rfl (WO.nil ⟨rfl,rfl⟩)) (DT.r rfl rfl rfl (WO.p rfl rfl (WO.nil ⟨rfl,rfl⟩)) (DT.r rfl rfl rfl (WO.p rfl rfl (WO.nil ⟨rfl,rfl⟩)) (DT.r rfl rfl rfl (WO.p rfl rfl (WO.nil ⟨rfl,rfl⟩)) (DT.c [_,_,_,_,_,_,_,_] rfl rfl rfl rfl ?_))))
 refine WO.call (Post:=fun r Hq=>∃ x:Value × Value,(r=.agg #[x.1,x.2]∧x.1.oneCell'=true∧x.2.oneCell'=true)∧Hq=[OwE encI 2 1 x.2 [-(1*((hv (aW ws) ws.length).getD 0))]]) rfl Tryz.call34 (fun L w hi=>c_truth w hb nb mb ws.length (aW ws) 1 o ws _ (.inl rfl) hw.n rfl (aB hw) (RdO.of (by repeat first | exact .head | apply Pick.tail) hi) (RdO.of (by repeat first | exact .head | apply Pick.tail) hi)) rfl ?_
 rintro _ _ ⟨⟨x1,x2⟩,⟨rfl,ho1,ho2⟩,rfl⟩
 refine WO.fact (OwE.sl (enc:=encI) (e:=2) (sz:=1) (v:=x2) (xs:=[-(1*((hv (aW ws) ws.length).getD 0))]) (by repeat exact .head)) (fun hx2=>?_)
 refine WO.nil ⟨_,[_],rfl,rfl,(Keep.r (Keep.r (Keep.r (Keep.r Keep.nil)))),?_⟩
 refine DT.r rfl rfl rfl (WO.field1 rfl rfl rfl rfl rfl (WO.nil ⟨rfl,rfl⟩)) ?_
 refine' DT.r rfl rfl rfl ?hq ?_
 case hq =>
  refine' WO.indexAddr (n:=_) (i:=_) rfl rfl rfl ?hs ?h1 rfl ?_
  case hs=>exact hx2
  case h1=>(simp)
  exact WO.nil ⟨rfl,rfl⟩
 refine' DT.g (Q:=OwE encI 2 1 x2 [-(1*((hv (aW ws) ws.length).getD 0))]) (by repeat exact .head) rfl rfl rfl ?hq ?_
 case hq =>
  refine' WO.load (v:=_) rfl rfl ?hc rfl ?_
  case hc=>(first | (refine OwE.cell0 (enc:=encI) (xs:=[-(1*((hv (aW ws) ws.length).getD 0))]) (i:=0) encI_ok Pick.head ?_ 0 ?_ <;> first | rfl | exact Nat.zero_lt_succ _))
  exact WO.nil ⟨rfl,rfl⟩
 refine DT.c [_,_,_,_,_,_,_,_,_] rfl rfl rfl rfl (WO.call (Post:=fun r Hq=>∃ x:Value × Value,(r=.agg #[x.1,x.2]∧x.1.oneCell'=true∧x.2.oneCell'=true)∧Hq=[OwE encI 2 1 x.2 [-(-1*((hv (bW ws) ws.length).getD 0))]]) rfl Tryz.call34 (fun L w hi=>c_truth w lb tb mc ws.length (bW ws) (-1) o ws _ (.inr rfl) hw.n rfl (bB hw) (RdO.of (by repeat first | exact .head | apply Pick.tail) hi) (RdO.of (by repeat first | exact .head | apply Pick.tail) hi)) rfl ?_)
 rintro _ _ ⟨⟨y1,y2⟩,⟨rfl,ho3,ho4⟩,rfl⟩
 refine WO.fact (OwE.sl (enc:=encI) (e:=2) (sz:=1) (v:=y2) (xs:=[-(-1*((hv (bW ws) ws.length).getD 0))]) (by repeat exact .head)) (fun hy2=>?_)
 refine WO.nil ⟨_,[_,_],rfl,rfl,(Keep.g (.inr ⟨_,by repeat (first | exact Pick.head | apply Pick.tail)⟩) (Keep.r (Keep.r (Keep.c (Keep.r (Keep.r (Keep.r (Keep.r Keep.nil)))))))),?_⟩
 refine DT.r rfl rfl rfl (WO.field1 rfl rfl rfl rfl rfl (WO.nil ⟨rfl,rfl⟩)) ?_
 refine' DT.r rfl rfl rfl ?hq ?_
 case hq =>
  refine' WO.indexAddr (n:=_) (i:=_) rfl rfl rfl ?hs ?h1 rfl ?_
  case hs=>exact hy2
  case h1=>(simp)
  exact WO.nil ⟨rfl,rfl⟩
 refine' DT.g (Q:=OwE encI 2 1 y2 [-(-1*((hv (bW ws) ws.length).getD 0))]) (by repeat exact .head) rfl rfl rfl ?hq ?_
 case hq =>
  refine' WO.load (v:=_) rfl rfl ?hc rfl ?_
  case hc=>(first | (refine OwE.cell0 (enc:=encI) (xs:=[-(-1*((hv (bW ws) ws.length).getD 0))]) (i:=0) encI_ok Pick.head ?_ 0 ?_ <;> first | rfl | exact Nat.zero_lt_succ _))
  exact WO.nil ⟨rfl,rfl⟩
 refine DT.nil [_,_,_,_,_,_,_,_,_,_] rfl ?_
 refine' WO.build (cs:=_) rfl rfl rfl ?hf rfl ?_
 case hf=>(conv=>lhs;simp [-List.getD_eq_getElem?_getD,fillL,vcl,wrl,TTab.pl?.lget']) <;> rfl
 refine WO.storeA rfl rfl rfl rfl (Pick.tail (Pick.tail (Pick.tail (Pick.tail (Pick.tail (Pick.tail (Pick.tail (Pick.tail (Pick.head))))))))) rfl rfl (WO.p rfl rfl (WO.nil (W.ret ?_)))
 exact fin.ret (Res.two rfl (RV.cell rfl rfl rfl (Cells.own (by repeat exact .head))) (RV.tmp rfl)) (by simp)
end Go.Proofs.YtoapkhkdnbcilaaGreat
namespace Go.Proofs.YtoapkhkdnbcilaaGreat
open Go Go.TH
attribute [local irreducible] W WO pt
set_option maxRecDepth 10000
set_option maxHeartbeats 2000000
theorem c_values9 (w:World) (lo hi:Int) (h:OkR lo hi):Ret Tryz.prog 28 [.agg #[.int .i64 lo,.int .i64 hi]].toArray w (.bool true):=by
 refine Ret.of mixed tyTab Tryz.func28 rfl rfl ?_
 have h1:=h.1
 have h2:=h.2.1
 have h3:=h.2.2
 refine W.sreg (WO.boxA rfl rfl (fun b1 hb1=>(WO.p rfl rfl (WO.nil (W.sreg (WO.field0 rfl rfl rfl (WO.load rfl rfl (Cell.own Pick.head rfl) rfl (WO.geqT rfl rfl (by omega) rfl (WO.p rfl rfl (WO.go' rfl (WO.field0 rfl rfl rfl (WO.go' rfl (WO.load rfl rfl (Cell.own Pick.head rfl) rfl (WO.go' rfl (WO.fieldL rfl rfl rfl (WO.go' rfl (WO.load rfl rfl (Cell.own Pick.head rfl) rfl (WO.go' rfl (WO.leqT rfl rfl h1 rfl (WO.p rfl rfl (WO.p rfl rfl (WO.go' rfl (WO.fieldL rfl rfl rfl (WO.go' rfl (WO.load rfl rfl (Cell.own Pick.head rfl) rfl (WO.go' rfl (WO.leqT rfl rfl (by omega) rfl (WO.p rfl rfl (WO.p rfl rfl (WO.nil (W.ret ?_)))))))))))))))))))))))))))))))
 exact fin.ret (Res.one rfl (RV.tmp rfl)) rfl
theorem Cells_drop {C:Cx Tryz.prog} {H:List HP} {p:Addr} {vs:List Value} {k:Nat} (h:Cells C H p vs):Cells C H (prt p k) (vs.drop k):=fun j v hv=>by
 rw [prt_prt,prt_eq]
 exact h (k+j) v (by rw [List.getElem?_drop] at hv;exact hv)
theorem ref_CheckTable9 (w:World) (T H lo hi:Int) (o:Value) (l:List Ts) (h:OkTb T H lo hi l) (hR:RdF encT 4 w.heap.size w o l):Ret Tryz.prog 11 [.agg #[.int .i64 T,.int .i64 H,.int .i64 lo,.int .i64 hi,o]].toArray w (.int .i64 0):=by
 refine Ret.of mixed tyTab Tryz.func11 rfl rfl ?_
 replace hR:RdF encT 4 (fnCx mixed tyTab Tryz.f11.ntmps w).B (fnCx mixed tyTab Tryz.f11.ntmps w).w0 o l:=hR
 have hoc:=hR.sl.oc
 have hle:=hR.sl.le
 have h1:=h.n
 have h2:=h.t
 have h3:=h.h
 refine W.sreg (WO.boxA rfl rfl (fun b1 hb1=>(WO.p rfl rfl (WO.nil (W.seq (W.sreg (WO.fieldL rfl rfl rfl (WO.load rfl rfl (Cell.own Pick.head rfl) rfl (WO.len rfl rfl hR.sl rfl (WO.gtrF rfl rfl (by omega) rfl (WO.nil (W.cond_f rfl (W.skip (W.seq (W.sreg (WO.field0 rfl rfl rfl (WO.load rfl rfl (Cell.own Pick.head rfl) rfl (WO.lssF rfl rfl (by omega) rfl (WO.p rfl rfl (WO.go' rfl (WO.field0 rfl rfl rfl (WO.go' rfl (WO.load rfl rfl (Cell.own Pick.head rfl) rfl (WO.go' rfl (WO.gtrF rfl rfl (by omega) rfl (WO.p rfl rfl (WO.p rfl rfl (WO.go' rfl (WO.fieldL rfl rfl rfl (WO.go' rfl (WO.load rfl rfl (Cell.own Pick.head rfl) rfl (WO.go' rfl ?_))))))))))))))))))))))))))))))))
 refine WO.lssF rfl rfl (by omega) rfl (WO.p rfl rfl (WO.p rfl rfl (WO.go' rfl (WO.fieldL rfl rfl rfl (WO.go' rfl (WO.load rfl rfl (Cell.own Pick.head rfl) rfl (WO.go' rfl (WO.gtrF rfl rfl (by omega) rfl (WO.p rfl rfl (WO.p rfl rfl (WO.go' rfl (WO.fieldL rfl rfl rfl (WO.go' rfl (WO.loadA rfl rfl (Cells.ownAt (n:=2) Pick.head rfl) rfl rfl (WO.go' rfl (WO.callR rfl Tryz.call28 (fun L w hi'=>c_values9 w lo hi h.b) rfl (WO.pg rfl rfl rfl (WO.p rfl rfl (WO.nil (W.cond_f rfl (W.skip (W.seq (W.sreg (WO.p rfl rfl (WO.nil (W.block ?_))))))))))))))))))))))))))
 refine W.loop (fun (i:Nat)=>i≤l.length)
  (fun (i:Nat)=>[(1,.pointer (some ⟨b1,0,none⟩)),(3,.int .i64 (i:Int))])
  (fun (i:Nat)=>[pt b1 (.cells #[.int .i64 T,.int .i64 H,.int .i64 lo,.int .i64 hi,o] 31 (0,0))])
  (fun (i:Nat)=>l.length-i) 0
  (by omega) ⟨rfl,rfl,trivial⟩ (by repeat (first | exact Sub.nil | refine Sub.cons (by repeat exact .head) ?_)) ?_
 rintro i hi0
 refine W.seq (W.sreg (WO.p rfl rfl (WO.fieldL rfl rfl rfl (WO.load rfl rfl (Cell.own Pick.head rfl) rfl (WO.len rfl rfl hR.sl rfl (WO.p rfl rfl (WO.nil ?_)))))))
 refine W.cond_bl rfl (fun c1=>?_) (fun c1=>?_)
 ·refine W.skip (W.seq (W.block (W.sreg (WO.fieldL rfl rfl rfl (WO.load rfl rfl (Cell.own Pick.head rfl) rfl (WO.p rfl rfl (WO.indexAddr rfl rfl rfl hR.sl (by omega) rfl (WO.loadA rfl rfl (cellsTs hR (i:=i) (by omega)) rfl rfl (WO.alloc rfl rfl rfl (fun b2 hb2=>(WO.storeA rfl rfl rfl rfl Pick.head rfl rfl (WO.nil (W.sreg (WO.field0 rfl rfl rfl (WO.load rfl rfl (Cell.own Pick.head rfl) rfl (WO.lssF rfl rfl (by have:=h.k i (by omega);omega) rfl ?_))))))))))))))))
  refine WO.p rfl rfl (WO.go' rfl (WO.field0 rfl rfl rfl (WO.go' rfl (WO.load rfl rfl (Cell.own Pick.head rfl) rfl (WO.go' rfl (WO.field0 rfl rfl rfl (WO.go' rfl (WO.load rfl rfl (Cell.own (Pick.tail (Pick.head)) rfl) rfl (WO.go' rfl (WO.geqF rfl rfl (by have:=h.k i (by omega);omega) rfl (WO.p rfl rfl (WO.p rfl rfl (WO.go' rfl (WO.fieldL rfl rfl rfl (WO.go' rfl (WO.load rfl rfl (Cell.own Pick.head rfl) rfl (WO.go' rfl (WO.lssF rfl rfl (by have:=h.k i (by omega);omega) rfl ?_))))))))))))))))))
  refine WO.p rfl rfl (WO.p rfl rfl (WO.go' rfl (WO.fieldL rfl rfl rfl (WO.go' rfl (WO.load rfl rfl (Cell.own Pick.head rfl) rfl (WO.go' rfl (WO.fieldL rfl rfl rfl (WO.go' rfl (WO.load rfl rfl (Cell.own (Pick.tail (Pick.head)) rfl) rfl (WO.go' rfl (WO.geqF rfl rfl (by have:=h.k i (by omega);omega) rfl (WO.p rfl rfl (WO.nil (W.cond_f rfl (W.skip (W.region (WO.p rfl rfl (WO.ar rfl rfl rfl (by unfold in64;omega) rfl (WO.p rfl rfl (WO.nil ?_))))))))))))))))))))
  refine' ⟨i+1,?hp,?hmu,⟨rfl,rfl,trivial⟩,?hS⟩
  case hS=>repeat (first | exact Sub.nil | refine Sub.cons (by repeat first | exact .head | apply Pick.tail) ?_)
  case hp=>omega
  case hmu=>omega
 ·refine W.exit (blk_same (W.seq (W.sreg (WO.p rfl rfl (WO.nil (W.block ?_))))))
  refine W.loop (fun (i:Nat)=>i≤l.length)
   (fun (i:Nat)=>[(1,.pointer (some ⟨b1,0,none⟩)),(5,.int .i64 (i:Int))])
   (fun (i:Nat)=>[pt b1 (.cells #[.int .i64 T,.int .i64 H,.int .i64 lo,.int .i64 hi,o] 31 (0,0))])
   (fun (i:Nat)=>l.length-i) 0
   (by omega) ⟨rfl,rfl,trivial⟩ (by repeat (first | exact Sub.nil | refine Sub.cons (by repeat exact .head) ?_)) ?_
  rintro i hi0
  refine W.seq (W.sreg (WO.p rfl rfl (WO.fieldL rfl rfl rfl (WO.load rfl rfl (Cell.own Pick.head rfl) rfl (WO.len rfl rfl hR.sl rfl (WO.p rfl rfl (WO.nil ?_)))))))
  refine W.cond_bl rfl (fun c2=>?_) (fun c2=>?_)
  ·refine W.skip (W.seq (W.block (W.sreg (WO.fieldL rfl rfl rfl (WO.load rfl rfl (Cell.own Pick.head rfl) rfl (WO.p rfl rfl (WO.indexAddr rfl rfl rfl hR.sl (by omega) rfl (WO.field rfl rfl rfl (WO.loadA rfl rfl (Cells_drop (k:=2) (cellsTs hR (i:=i) (by omega))) rfl rfl (WO.callR rfl Tryz.call28 (fun L w hi'=>c_values9 w _ _ (h.v i (by omega))) rfl (WO.p rfl rfl (WO.nil (W.cond_f rfl (W.skip (W.region (WO.p rfl rfl (WO.ar rfl rfl rfl (by unfold in64;omega) rfl (WO.p rfl rfl (WO.nil ?_)))))))))))))))))))
   refine' ⟨i+1,?hp,?hmu,⟨rfl,rfl,trivial⟩,?hS⟩
   case hS=>repeat (first | exact Sub.nil | refine Sub.cons (by repeat exact .head) ?_)
   case hp=>omega
   case hmu=>omega
  ·refine W.exit (blk_same (W.sreg (WO.p rfl rfl (WO.nil (W.ret ?_)))))
   exact fin.ret (Res.one rfl (RV.tmp rfl)) rfl
end Go.Proofs.YtoapkhkdnbcilaaGreat
namespace Go.Proofs.YtoapkhkdnbcilaaGreat
open Go Go.TH
attribute [local irreducible] W WO pt
set_option maxRecDepth 10000
set_option maxHeartbeats 4000000
theorem c_in9 (w:World) (lo hi x:Int) (h1:lo≤x) (h2:x≤hi):Ret Tryz.prog 31 [.agg #[.int .i64 lo,.int .i64 hi],.int .i64 x].toArray w (.bool true):=by
 refine Ret.of mixed tyTab Tryz.func31 rfl rfl (W.sreg (WO.boxA rfl rfl (fun b1 hb1=>(WO.p rfl rfl (WO.nil (W.sreg (WO.field0 rfl rfl rfl (WO.load rfl rfl (Cell.own Pick.head rfl) rfl (WO.p rfl rfl (WO.leqT rfl rfl h1 rfl (WO.p rfl rfl (WO.pg rfl rfl rfl (WO.go' rfl (WO.fieldL rfl rfl rfl (WO.go' rfl (WO.load rfl rfl (Cell.own Pick.head rfl) rfl (WO.go' rfl (WO.leqT rfl rfl h2 rfl (WO.p rfl rfl (WO.p rfl rfl (WO.nil (W.ret ?_))))))))))))))))))))))
 exact fin.ret (Res.one rfl (RV.tmp rfl)) rfl
theorem rep0 {n i:Nat}:(List.replicate n (0:Int)).getD i 0=0:=by
 rw [List.getD_eq_getElem?_getD,List.getElem?_replicate];split <;> rfl
theorem c_CheckTruth9 (w:World) (o bs hs:Value) (ws:Wss) (v:Int) (hw:OkW ws v) (hR:RdF encT 4 w.heap.size w o (tsW ws)) (hB:RdF encI 1 w.heap.size w bs (List.replicate ws.length 0)) (hH:RdF encI 1 w.heap.size w hs [v]):Ret Tryz.prog 12 [tbV ws o,.agg #[bs,hs]].toArray w (.int .i64 0):=by
 refine Ret.of mixed tyTab Tryz.func12 rfl rfl ?_
 replace hR:RdF encT 4 (fnCx mixed tyTab Tryz.f12.ntmps w).B (fnCx mixed tyTab Tryz.f12.ntmps w).w0 o (tsW ws):=hR
 replace hB:RdF encI 1 (fnCx mixed tyTab Tryz.f12.ntmps w).B (fnCx mixed tyTab Tryz.f12.ntmps w).w0 bs (List.replicate ws.length 0):=hB
 replace hH:RdF encI 1 (fnCx mixed tyTab Tryz.f12.ntmps w).B (fnCx mixed tyTab Tryz.f12.ntmps w).w0 hs [v]:=hH
 have hoc:=hR.sl.oc
 have hbc:=hB.sl.oc
 have hhc:=hH.sl.oc
 have hn:=hw.n
 have hts:=tsW_len ws
 have hbl:(List.replicate ws.length (0:Int)).length=ws.length:=List.length_replicate
 have hhl:([v]:List Int).length=1:=rfl
 have hone:∀ i,i<([v]:List Int).length → -1099511627776≤([v]:List Int).getD i 0∧([v]:List Int).getD i 0≤1099511627776:=fun i hx=>by
  have h0:i=0:=by omega
  subst h0
  have:=hw.lo 0 (by omega);have:=hw.hi 0 (by omega)
  show -1099511627776≤v∧v≤1099511627776
  omega
 have hv:0≤v∧v≤20000:=by have:=hw.lo 0 (by omega);have:=hw.hi 0 (by omega);omega
 refine W.sreg (WO.boxA rfl rfl (fun b1 hb1=>(WO.boxA rfl rfl (fun b2 hb2=>(WO.p rfl rfl (WO.nil (W.seq (W.sreg (WO.loadA rfl rfl (Cells.own (Pick.tail (Pick.head))) rfl rfl (WO.callR rfl Tryz.call29 (fun L w hi=>c_CheckTable9 w (ws.length:Int) 1 0 0 o (tsW ws) hw.tb (hR.later hi)) rfl (WO.p rfl rfl (WO.nil (W.sreg (WO.p rfl rfl (WO.neqF rfl rfl (by omega) rfl (WO.nil (W.cond_f rfl (W.skip (W.seq (W.block (W.sreg (WO.field0 rfl rfl rfl (WO.load rfl rfl (Cell.own Pick.head rfl) rfl (WO.len rfl rfl hB.sl rfl (WO.field0 rfl rfl rfl (WO.load rfl rfl (Cell.own (Pick.tail (Pick.head)) rfl) rfl (WO.neqF rfl rfl (by omega) rfl ?_)))))))))))))))))))))))))))
 refine WO.p rfl rfl (WO.go' rfl (WO.fieldL rfl rfl rfl (WO.go' rfl (WO.load rfl rfl (Cell.own Pick.head rfl) rfl (WO.go' rfl (WO.len rfl rfl hH.sl rfl (WO.go' rfl (WO.fieldL rfl rfl rfl (WO.go' rfl (WO.load rfl rfl (Cell.own (Pick.tail (Pick.head)) rfl) rfl (WO.go' rfl (WO.neqF rfl rfl (by omega) rfl (WO.p rfl rfl (WO.p rfl rfl (WO.nil (W.cond_f rfl (W.sreg (WO.field0 rfl rfl rfl (WO.load rfl rfl (Cell.own Pick.head rfl) rfl (WO.callR rfl Tryz.call30 (fun L w hi=>c_within9 w bs _ 1099511627776 (by omega) (hB.later hi) (fun i _=>by rw [rep0];omega)) rfl ?_))))))))))))))))))))
 refine WO.p rfl rfl (WO.p rfl rfl (WO.go' rfl (WO.fieldL rfl rfl rfl (WO.go' rfl (WO.load rfl rfl (Cell.own Pick.head rfl) rfl (WO.go' rfl (WO.callR rfl Tryz.call30 (fun L w hi=>c_within9 w hs _ 1099511627776 (by omega) (hH.later hi) hone) rfl (WO.pg rfl rfl rfl (WO.p rfl rfl (WO.p rfl rfl (WO.nil (W.cond_f rfl (W.skip (W.sreg (WO.p rfl rfl (WO.nil (W.seq (W.sreg (WO.field0 rfl rfl rfl (WO.load rfl rfl (Cell.own Pick.head rfl) rfl (WO.len rfl rfl hB.sl rfl (WO.p rfl rfl (WO.nil (W.block ?_))))))))))))))))))))))))
 refine W.loop (fun (i:Nat)=>i≤ws.length)
  (fun (i:Nat)=>[(2,.pointer (some ⟨b1,0,none⟩)),(3,.pointer (some ⟨b2,0,none⟩)),(6,.func (.func 31) #[] #[]),(43,bs),(44,.int .i64 ((List.replicate ws.length (0:Int)).length:Int)),(45,.int .i64 (i:Int))])
  (fun (i:Nat)=>[pt b1 (.cells #[.int .i64 (ws.length:Int),.int .i64 1,.int .i64 0,.int .i64 0,o] 31 (0,0)),pt b2 (.cells #[bs,hs] 56 (0,0))])
  (fun (i:Nat)=>ws.length-i) 0
  (by omega) ⟨rfl,rfl,rfl,rfl,rfl,rfl,trivial⟩ (by repeat (first | exact Sub.nil | refine Sub.cons (by repeat first | exact .head | apply Pick.tail) ?_)) ?_
 rintro i hi0
 refine W.sreg (WO.p rfl rfl (WO.nil (W.seq ?_)))
 refine W.cond_bl rfl (fun c1=>?_) (fun c1=>?_)
 ·refine W.skip (W.seq (W.block (W.sreg (WO.indexAddr rfl rfl rfl hB.sl (by omega) rfl ?_))))
  refine' WO.load (v:=_) rfl rfl ?hc rfl ?_
  case hc=>(first | (refine hB.cell0 (i:=i) ?_ 0 ?_ <;> first | rfl | omega))
  refine WO.p rfl rfl (WO.nil (W.sreg (WO.p rfl rfl (WO.fieldL rfl rfl rfl (WO.loadA rfl rfl (Cells.ownAt (n:=2) Pick.head rfl) rfl rfl (WO.p rfl rfl (WO.callCR (first:=[]) (captured:=[]) rfl rfl Tryz.call31 (fun L w hi'=>c_in9 w 0 0 _ (by rw [rep0];omega) (by rw [rep0];omega)) rfl (WO.p rfl rfl (WO.nil (W.cond_f rfl (W.skip (W.region (WO.ar rfl rfl rfl (by unfold in64;omega) rfl (WO.p rfl rfl (WO.nil ?_)))))))))))))))
  refine' ⟨i+1,?hp,?hmu,⟨rfl,rfl,rfl,rfl,rfl,rfl,trivial⟩,?hS⟩
  case hS=>repeat (first | exact Sub.nil | refine Sub.cons (by repeat exact .head) ?_)
  case hp=>omega
  case hmu=>omega
 ·refine W.exit (blk_same (W.seq (W.sreg (WO.fieldL rfl rfl rfl (WO.load rfl rfl (Cell.own Pick.head rfl) rfl (WO.len rfl rfl hR.sl rfl (WO.p rfl rfl (WO.nil (W.block ?_)))))))))
  refine W.loop (fun (i:Nat)=>i≤ws.length)
   (fun (i:Nat)=>[(2,.pointer (some ⟨b1,0,none⟩)),(3,.pointer (some ⟨b2,0,none⟩)),(6,.func (.func 31) #[] #[]),(57,o),(58,.int .i64 ((tsW ws).length:Int)),(59,.int .i64 (i:Int))])
   (fun (i:Nat)=>[pt b1 (.cells #[.int .i64 (ws.length:Int),.int .i64 1,.int .i64 0,.int .i64 0,o] 31 (0,0)),pt b2 (.cells #[bs,hs] 56 (0,0))])
   (fun (i:Nat)=>ws.length-i) 0
   (by omega) ⟨rfl,rfl,rfl,rfl,rfl,rfl,trivial⟩ (by repeat (first | exact Sub.nil | refine Sub.cons (by repeat exact .head) ?_)) ?_
  rintro i hi0
  refine W.sreg (WO.p rfl rfl (WO.nil (W.seq ?_)))
  refine W.cond_bl rfl (fun c2=>?_) (fun c2=>?_)
  ·refine W.skip (W.seq (W.block (W.sreg (WO.indexAddr rfl rfl rfl hR.sl (by omega) rfl (WO.loadA rfl rfl (cellsW hR (i:=i) (by omega)) rfl rfl (WO.alloc rfl rfl rfl (fun b3 hb3=>(WO.storeA rfl rfl rfl rfl Pick.head rfl rfl (WO.nil (W.seq ?_))))))))))
   refine W.drawD 16 [.r 0 [],.r 1 [],.b 2 [],.r 3 [],.b 4 [],.r 5 [],.b 6 [],.r 7 [],.b 8 [],.r 9 [],.b 10 [],.r 11 [],.b 12 [],.r 13 [],.b 14 [],.r 15 []] [] (A0:=[]) (Sub.refl _) (by kernel_rfl) ?_ ?_
   ·repeat constructor
   refine DT.r rfl rfl rfl (WO.p rfl rfl (WO.nil ⟨rfl,rfl⟩)) (DT.r rfl rfl rfl (WO.fieldL rfl rfl rfl (WO.nil ⟨rfl,rfl⟩)) (DT.b rfl rfl rfl (WO.loadA rfl rfl (Cells.ownAt (n:=2) Pick.head rfl) rfl rfl (WO.nil ⟨rfl,rfl⟩)) (DT.r rfl rfl rfl (WO.field0 rfl rfl rfl (WO.nil ⟨rfl,rfl⟩)) (DT.b rfl rfl rfl (WO.load rfl rfl (Cell.own (Pick.tail (Pick.tail (Pick.head))) rfl) rfl (WO.nil ⟨rfl,rfl⟩)) (DT.r rfl rfl rfl (WO.field0 rfl rfl rfl (WO.nil ⟨rfl,rfl⟩)) (DT.b rfl rfl rfl (WO.load rfl rfl (Cell.own Pick.head rfl) rfl (WO.nil ⟨rfl,rfl⟩)) (DT.r rfl rfl rfl (WO.indexAddr rfl rfl rfl hB.sl (by omega) rfl (WO.nil ⟨rfl,rfl⟩)) ?_)))))))
   refine' DT.b rfl rfl rfl ?hq ?_
   case hq =>
    refine' WO.load (v:=_) rfl rfl ?hc rfl ?_
    case hc=>(first | (refine hB.cell0 (i:=i) ?_ 0 ?_ <;> first | rfl | omega))
    exact WO.nil ⟨rfl,rfl⟩
   refine DT.r rfl rfl rfl (WO.fieldL rfl rfl rfl (WO.nil ⟨rfl,rfl⟩)) (DT.b rfl rfl rfl (WO.load rfl rfl (Cell.own (Pick.tail (Pick.tail (Pick.head))) rfl) rfl (WO.nil ⟨rfl,rfl⟩)) (DT.r rfl rfl rfl (WO.fieldL rfl rfl rfl (WO.nil ⟨rfl,rfl⟩)) (DT.b rfl rfl rfl (WO.load rfl rfl (Cell.own Pick.head rfl) rfl (WO.nil ⟨rfl,rfl⟩)) (DT.r rfl rfl rfl (WO.indexAddr rfl rfl rfl hH.sl (by simp) rfl (WO.nil ⟨rfl,rfl⟩)) ?_))))
   refine' DT.b rfl rfl rfl ?hq ?_
   case hq =>
    refine' WO.load (v:=_) rfl rfl ?hc rfl ?_
    case hc=>(first | (refine hH.cell0 (i:=0) ?_ 0 ?_ <;> first | rfl | omega))
    exact WO.nil ⟨rfl,rfl⟩
   refine DT.r rfl rfl rfl (WO.ar rfl rfl rfl (by (first | (rw [rep0];show in64 (0+v);unfold in64;omega))) rfl (WO.nil ⟨rfl,rfl⟩)) (DT.nil [_,_,_] rfl (WO.callCR (first:=[]) (captured:=[]) rfl rfl Tryz.call31 (fun L w hi'=>c_in9 w (ws.getD i (0,0)).1 (ws.getD i (0,0)).2 _ (by rw [rep0];show _≤0+v;have:=hw.lo i (by omega);omega) (by rw [rep0];show 0+v≤_;have:=hw.hi i (by omega);omega)) rfl (WO.p rfl rfl (WO.nil (W.cond_f rfl (W.skip (W.region (WO.ar rfl rfl rfl (by unfold in64;omega) rfl (WO.p rfl rfl (WO.nil ?_))))))))))
   refine' ⟨i+1,?hp,?hmu,⟨rfl,rfl,rfl,rfl,rfl,rfl,trivial⟩,?hS⟩
   case hS=>repeat (first | exact Sub.nil | refine Sub.cons (by repeat first | exact .head | apply Pick.tail) ?_)
   case hp=>omega
   case hmu=>omega
  ·refine W.exit (blk_same (W.sreg (WO.p rfl rfl (WO.nil (W.ret ?_)))))
   exact fin.ret (Res.one rfl (RV.tmp rfl)) rfl
end Go.Proofs.YtoapkhkdnbcilaaGreat
namespace Go.Proofs.YtoapkhkdnbcilaaGreat
open Go Go.TH
attribute [local irreducible] W WO pt
set_option maxRecDepth 10000
set_option maxHeartbeats 4000000
def enc8 (n:Int):List Value:=[.int .i8 n]
def tdL (ys:List Int) (d:Int):List Int:=(ys.take (d+1).toNat).map (fun y=>y.tmod 21)
theorem tdL_len (ys:List Int) (d:Int):(tdL ys d).length=min (d+1).toNat ys.length:=by unfold tdL;rw [List.length_map,List.length_take]
theorem tdL_at {ys:List Int} {d:Int} {i:Nat} (h:i<ys.length) (h2:(i:Int)≤d):(tdL ys d).take i++[(ys.getD i 0).tmod 21]=(tdL ys d).take (i+1):=by
 have hl:i<(tdL ys d).length:=by rw [tdL_len];omega
 rw [take_succ_getD hl 0]
 congr 2
 unfold tdL
 rw [List.getD_eq_getElem?_getD,List.getD_eq_getElem?_getD,List.getElem?_map,List.getElem?_take,if_pos (by omega)]
 rw [List.getElem?_eq_getElem h];rfl
theorem tdL_all {ys:List Int} {d:Int} {i:Nat} (h:ys.length≤i∨d<(i:Int)):(tdL ys d).take i=tdL ys d:=List.take_of_length_le (by rw [tdL_len];omega)
theorem tdL_in (ys:List Int) (d:Int):∀ x∈tdL ys d,-20≤x∧x≤20:=fun x hx=>by
 unfold tdL at hx
 obtain ⟨y,_,rfl⟩:=List.mem_map.1 hx
 have h1:=Int.tmod_lt_of_pos y (show (0:Int)<21 by omega)
 have h2:=Int.lt_tmod_of_pos y (show (0:Int)<21 by omega)
 omega
theorem c_trial10 (w:World) (m:Int) (o:Value) (rs:List (Int × Int × Int)) (hR:RdF Tr.encR 3 w.heap.size w o rs):Ret Tryz.prog 5 [.agg #[.int .i64 m,o]].toArray w (.bool (bl (Tr.chkT m rs=0))):=by
 refine Ret.of mixed tyTab Tryz.func5 rfl rfl ?_
 replace hR:RdF Tr.encR 3 (fnCx mixed tyTab Tryz.f5.ntmps w).B (fnCx mixed tyTab Tryz.f5.ntmps w).w0 o rs:=hR
 have ho:=hR.sl.oc
 refine W.sreg (WO.boxA rfl rfl (fun b1 hb1=>(WO.p rfl rfl (WO.nil (W.sreg (WO.fieldL rfl rfl rfl (WO.load rfl rfl (Cell.own Pick.head rfl) rfl (WO.len rfl rfl hR.sl rfl (WO.p rfl rfl (WO.p rfl rfl ?_))))))))))
 refine WO.guard_bl rfl rfl (fun c1=>?_) (fun c1=>?_)
 ·refine WO.go' rfl (WO.loadA rfl rfl (Cells.own Pick.head) rfl rfl (WO.go' rfl (WO.callR rfl Tryz.call19 (fun L w hi=>Tr.ref_CheckTest w m o rs (hR.later hi)) rfl (WO.pg rfl rfl rfl (WO.p rfl rfl (WO.p rfl rfl (WO.nil (W.ret ?_))))))))
  exact fin.ret (Res.one rfl (RV.tmp rfl)) (by rfl)
 ·refine WO.no rfl rfl (WO.no rfl rfl (WO.no rfl rfl (WO.p rfl rfl (WO.p rfl rfl (WO.nil (W.ret ?_))))))
  exact fin.ret (Res.one rfl (RV.tmp rfl)) (by exact congrArg Value.bool (bl_f.2 (fun h=>by have:=(Tr.VT.of h).n;omega)).symm)
theorem c_tide10 (w:World) (v:Value) (ys:List Int) (d:Int) (hY:RdF enc8 1 w.heap.size w v ys) (hn:ys.length≤10) (hb:∀ i,i<ys.length → -128≤ys.getD i 0∧ys.getD i 0≤127):Ct Tryz.prog 8 [v,.int .i64 d].toArray w fun r w'=>∃ Hq,(Hq=[OwE encI 2 1 r (tdL ys d)])∧Inv w [] Hq w':=by
 refine Ct.of mixed tyTab Tryz.func8 rfl rfl ?_
 replace hY:RdF enc8 1 (fnCx mixed tyTab Tryz.f8.ntmps w).B (fnCx mixed tyTab Tryz.f8.ntmps w).w0 v ys:=hY
 have hle:=hY.sl.le
 refine W.sreg (WO.p rfl rfl (WO.nil (W.sreg (WO.p rfl rfl (WO.nil (W.seq (W.sreg (WO.p rfl rfl (WO.nil (W.block (W.chg (owNil (enc:=encI) (e:=2) (sz:=1)) ?_)))))))))))
 refine W.loop2 (fun (i:Nat) (l:Value)=>i≤ys.length)
  (fun (i:Nat) (l:Value)=>[(6,.int .i64 (i:Int)),(5,l),(0,v),(1,.int .i64 d)])
  (fun (i:Nat) (l:Value)=>[OwE encI 2 1 l ((tdL ys d).take i)])
  (fun (i:Nat) (l:Value)=>ys.length-i) 0 (.slice none 0 0)
  (by omega) ⟨rfl,rfl,rfl,rfl,trivial⟩ (by repeat (first | exact Sub.nil | refine Sub.cons (by repeat exact .head) ?_)) ?_
 rintro i l hi0
 refine W.seq (W.sreg (WO.p rfl rfl (WO.p rfl rfl (WO.len rfl rfl hY.sl rfl (WO.p rfl rfl (WO.p rfl rfl ?_))))))
 refine WO.guard_bl rfl rfl (fun c1=>?_) (fun c1=>?_)
 ·refine WO.pg rfl rfl rfl (WO.pg rfl rfl rfl (WO.pg rfl rfl rfl (WO.p rfl rfl (WO.nil ?_))))
  refine W.cond_bl rfl (fun c2=>?_) (fun c2=>?_)
  ·refine W.skip (W.seq (W.block ?_))
   have hbi:=hb i (by omega)
   have htl:(tdL ys d).length≤10:=by rw [tdL_len];omega
   refine W.region (WO.p rfl rfl (WO.p rfl rfl (WO.p rfl rfl (WO.indexAddr rfl rfl rfl hY.sl (by omega) rfl ?_))))
   refine' WO.load (v:=_) rfl rfl ?hc rfl ?_
   case hc=>(first | (refine hY.cell0 (i:=i) ?_ 0 ?_ <;> first | rfl | omega))
   refine WO.conv64 rfl rfl rfl (by unfold in64;omega) rfl (WO.rem rfl rfl (by omega) rfl (WO.buildSl rfl rfl rfl rfl rfl rfl rfl rfl rfl (fun v1=>?_)))
   refine' WO.appendE (enc:=encI) (m:=1) (ys:=[(ys.getD i 0).tmod 21]) encI_ok rfl rfl rfl rfl rfl (by repeat first | exact .head | apply Pick.tail) (Tr.isSl_lit (by omega) (fun _=>⟨_,_,rfl⟩)) (by omega) rfl (OwC.cells .head) (by rw [List.length_take];omega) (by rw [List.length_take];omega) rfl (fun g c=>?_)
   rw [tdL_at (ys:=ys) (d:=d) (i:=i) (by omega) (by omega)]
   refine WO.p rfl rfl (WO.nil (W.region (WO.p rfl rfl (WO.ar rfl rfl rfl (by unfold in64;omega) rfl (WO.p rfl rfl (WO.nil ?_))))))
   refine' ⟨i+1,_,?hp,?hmu,⟨rfl,rfl,rfl,rfl,trivial⟩,?hS⟩
   case hS=>repeat (first | exact Sub.nil | refine Sub.cons (by repeat exact .head) ?_)
   case hp=>omega
   case hmu=>omega
  ·refine W.exit (blk_same ?_)
   rw [tdL_all (ys:=ys) (d:=d) (i:=i) (by omega)]
   refine W.sreg (WO.p rfl rfl (WO.p rfl rfl (WO.nil (W.ret ?_))))
   exact fin.ret (Res.one rfl (RV.tmp rfl)) rfl
 ·refine WO.no rfl rfl (WO.no rfl rfl (WO.no rfl rfl (WO.p rfl rfl (WO.nil (W.cond_f rfl (W.exit (blk_same ?_)))))))
  rw [tdL_all (ys:=ys) (d:=d) (i:=i) (by omega)]
  refine W.sreg (WO.p rfl rfl (WO.p rfl rfl (WO.nil (W.ret ?_))))
  exact fin.ret (Res.one rfl (RV.tmp rfl)) rfl
end Go.Proofs.YtoapkhkdnbcilaaGreat
namespace Go.Proofs.YtoapkhkdnbcilaaGreat.Tr
open Go Go.TH
set_option maxRecDepth 10000
section
variable {m:Int} {rs:List (Int × Int × Int)}
theorem with_out {i:Nat} (h:¬ i<rs.length):rs.getD i r0=r0:=by
 rw [List.getD_eq_getElem?_getD,List.getElem?_eq_none (by omega)];rfl
theorem ex_congr {rs':List (Int × Int × Int)} (h1:rs'.length=rs.length) (h2:tm rs'=tm rs):exW rs'=exW rs:=by
 funext i
 unfold exW
 have:exF rs' i=exF rs i:=by funext w q;unfold exF;rw [h2]
 rw [this,h1]
theorem raw_congr {rs':List (Int × Int × Int)} (h1:rs'.length=rs.length) (h2:tm rs'=tm rs):raw m rs'=raw m rs:=by
 funext i
 unfold raw
 rw [ex_congr h1 h2,h1]
theorem wts_of {rs':List (Int × Int × Int)} (h1:rs'.length=rs.length) (h2:raw m rs'=raw m rs):wts m rs'=wts m rs:=by
 funext i
 unfold wts gcdR
 rw [h2,h1]
theorem wsum_of {rs':List (Int × Int × Int)} (h:wts m rs'=wts m rs):∀ i,wsum m rs' i=wsum m rs i
 | 0=>rfl
 | i+1=>by
  show wsum m rs' i+wts m rs' i=wsum m rs i+wts m rs i
  rw [wsum_of h i,h]
theorem msum_of {rs':List (Int × Int × Int)} (h:wts m rs'=wts m rs) (g:Int→Int):∀ i,msum m rs' g i=msum m rs g i
 | 0=>rfl
 | i+1=>by
  show msum m rs' g i+wts m rs' i*g (i:Int)=msum m rs g i+wts m rs i*g (i:Int)
  rw [msum_of h g i,h]
def wdR (rs:List (Int × Int × Int)) (g n:Nat→Int) (i:Nat):Int × Int × Int:=(tm rs i,max 0 (g i-n i),min 20000 (g i+n i))
def wdL (rs:List (Int × Int × Int)) (g n:Nat→Int):List (Int × Int × Int):=(List.range rs.length).map (wdR rs g n)
theorem wdL_len (rs:List (Int × Int × Int)) (g n:Nat→Int):(wdL rs g n).length=rs.length:=by unfold wdL;simp
theorem wdL_at {g n:Nat→Int} {i:Nat} (h:i<rs.length):(wdL rs g n).getD i r0=wdR rs g n i:=rangeA_getD r0 h
theorem wdL_take {g n:Nat→Int} {i:Nat} (h:i<rs.length):(wdL rs g n).take i++[wdR rs g n i]=(wdL rs g n).take (i+1):=rangeA_take r0 h
theorem wdL_tm {g n:Nat→Int}:tm (wdL rs g n)=tm rs:=by
 funext i
 unfold tm
 by_cases h:i<rs.length
 ·rw [wdL_at h];rfl
 ·rw [with_out (rs:=wdL rs g n) (by rw [wdL_len];exact h),with_out h]
theorem wdL_wts {g n:Nat→Int}:wts m (wdL rs g n)=wts m rs:=wts_of (wdL_len _ _ _) (raw_congr (wdL_len _ _ _) wdL_tm)
theorem wdL_VT {g n:Nat→Int} (hv:VT m rs) (hg:∀ i,i<rs.length→0≤g i∧g i≤20000) (hb:∀ i,0≤n i):VT m (wdL rs g n):=by
 have hn:=hv.n
 refine ⟨by rw [wdL_len];exact hn,hv.m,fun i hi=>?_⟩
 rw [wdL_len] at hi
 have h1:=hv.ok i hi
 have h2:=hg i hi
 have h3:=hb i
 have e:prevAt (wdL rs g n) i=prevAt rs i:=by
  unfold prevAt
  split
  ·rfl
  ·exact congrFun wdL_tm (i-1)
 unfold goodR at h1 ⊢
 rw [e,wdL_at hi]
 show prevAt rs i+1≤(rs.getD i r0).1∧(rs.getD i r0).1≤60∧0≤max 0 (g i-n i)∧max 0 (g i-n i)≤min 20000 (g i+n i)∧min 20000 (g i+n i)≤20000
 omega
theorem td_zero (hv:VT m rs) (ys:List Int):Tidal (tdL ys (canV m rs))∧msum m rs (offT rs (tideV (tdL ys (canV m rs)))) rs.length=0:=by
 obtain ⟨D,h1,h2,_⟩:=can_spec hv
 have hn:=hv.n
 have hl:=tdL_len ys (canV m rs)
 refine ⟨⟨by rw [hl];omega,tdL_in ys _⟩,tide_zero hv ?_⟩
 have:=dgTo_in (tdL ys (canV m rs)) (tdL ys (canV m rs)).length
 omega
theorem gr_sum (hv:VT m rs) (ys:List Int) (v:Int):msum m rs (gT rs (tideV (tdL ys (canV m rs))) v) rs.length=v*wsum m rs rs.length:=by
 have h:=msum_add (m:=m) (rs:=rs) (offT rs (tideV (tdL ys (canV m rs)))) v rs.length
 rw [(td_zero hv ys).2,Int.zero_add] at h
 exact h
theorem red_le {n d v:Int} (hd:0<d) (h:n≤v*d):(red n d).1≤v*(red n d).2:=by
 obtain ⟨g1,g2,g3⟩:=red_mul (n:=n) hd
 refine Int.le_of_mul_le_mul_right (a:=gcd2 (ab n) d) ?_ g1
 rw [g2,Int.mul_assoc,g3];exact h
theorem red_ge {n d v:Int} (hd:0<d) (h:v*d≤n):v*(red n d).2≤(red n d).1:=by
 obtain ⟨g1,g2,g3⟩:=red_mul (n:=n) hd
 refine Int.le_of_mul_le_mul_right (a:=gcd2 (ab n) d) ?_ g1
 rw [g2,Int.mul_assoc,g3];exact h
def loQ (m:Int) (rs:List (Int × Int × Int)) (g n:Nat→Int):Int × Int:=meanQ m (wdL rs g n) (loT (wdL rs g n))
def hiQ (m:Int) (rs:List (Int × Int × Int)) (g n:Nat→Int):Int × Int:=meanQ m (wdL rs g n) (hiT (wdL rs g n))
theorem wd_span (hv:VT m rs) {T:Int→Int} {v:Int} {g n:Nat→Int} (he:∀ i:Nat,i<rs.length→g i=gT rs T v i) (hg:∀ i,i<rs.length→0≤g i∧g i≤20000) (hb:∀ i,0≤n i) (hs:msum m rs (gT rs T v) rs.length=v*wsum m rs rs.length) :
 isS (loQ m rs g n).1 (loQ m rs g n).2∧isS (hiQ m rs g n).1 (hiQ m rs g n).2∧(loQ m rs g n).1≤v*(loQ m rs g n).2∧v*(hiQ m rs g n).2≤(hiQ m rs g n).1:=by
 have hv':=wdL_VT (n:=n) hv hg hb
 have hn:=hv'.n
 have hw:=wsum_lt hv' (i:=(wdL rs g n).length) (Nat.le_refl _)
 have hl:=wdL_len rs g n
 have hs':msum m (wdL rs g n) (gT rs T v) (wdL rs g n).length=v*wsum m (wdL rs g n) (wdL rs g n).length:=by
  rw [hl,msum_of wdL_wts,wsum_of wdL_wts,hs]
 refine ⟨mean_isS hv' (loT_in hv'),mean_isS hv' (hiT_in hv'),red_le (by omega) ?_,red_ge (by omega) ?_⟩
 ·rw [← hs']
  refine msum_mono hv' (fun i hi=>?_) (Nat.le_refl _)
  rw [hl] at hi
  unfold loT
  rw [Int.toNat_natCast,wdL_at hi,← he i hi]
  have:=hg i hi;have:=hb i
  show max 0 (g i-n i)≤g i
  omega
 ·rw [← hs']
  refine msum_mono hv' (fun i hi=>?_) (Nat.le_refl _)
  rw [hl] at hi
  unfold hiT
  rw [Int.toNat_natCast,wdL_at hi,← he i hi]
  have:=hg i hi;have:=hb i
  show g i≤min 20000 (g i+n i)
  omega
theorem up_le {a b v:Int} (hb:1≤b) (ha:0≤a) (h:a≤v*b):0≤(a+b-1).tdiv b∧(a+b-1).tdiv b≤v:=by
 refine ⟨Int.tdiv_nonneg (by omega) (by omega),?_⟩
 rw [Int.tdiv_eq_ediv_of_nonneg (by omega)]
 refine Int.lt_add_one_iff.1 (Int.ediv_lt_of_lt_mul (by omega) ?_)
 rw [Int.add_mul];omega
theorem dn_ge {a b v:Int} (hb:1≤b) (ha:0≤a) (h:v*b≤a) (h2:a≤20000*b):v≤a.tdiv b∧a.tdiv b≤20000:=by
 rw [Int.tdiv_eq_ediv_of_nonneg ha]
 exact ⟨Int.le_ediv_of_mul_le (by omega) h,Int.ediv_le_of_le_mul (by omega) h2⟩
end
end Go.Proofs.YtoapkhkdnbcilaaGreat.Tr
namespace Go.Proofs.YtoapkhkdnbcilaaGreat
open Go Go.TH
attribute [local irreducible] W WO pt
set_option maxRecDepth 10000
set_option maxHeartbeats 8000000
abbrev MV:=Int × Value
abbrev mv0:MV:=(0,undef)
def encM (p:MV):List Value:=[.int .i64 p.1,p.2]
def encU1 (n:Int):List Value:=[.int .u8 n]
structure RdM (B:Nat) (w:World) (v:Value) (ms:List MV) (R:List (List (Int × Int × Int))):Prop where
 out:RdF encM 2 B w v ms
 len:ms.length=R.length
 row:∀ i,i<R.length→RdF Tr.encR 3 B w (ms.getD i mv0).2 (R.getD i [])
theorem RdM.later {C:Cx Tryz.prog} {H L:List HP} {w:World} {v:Value} {ms:List MV} {R:List (List (Int × Int × Int))} (h:RdM C.B C.w0 v ms R) (hi:Inv C.w0 C.M (L++H) w):RdM w.heap.size w v ms R :=
 ⟨h.out.later hi,h.len,fun i hl=>(h.row i hl).later hi⟩
theorem RdM.sl {B:Nat} {w:World} {v:Value} {ms:List MV} {R:List (List (Int × Int × Int))} (h:RdM B w v ms R):IsSl v R.length:=h.len▸h.out.sl
theorem RdM.cells {C:Cx Tryz.prog} {H:List HP} {v:Value} {ms:List MV} {R:List (List (Int × Int × Int))} (h:RdM C.B C.w0 v ms R) {i:Nat} (h1:i<R.length):Cells C H (elt v i 2) [.int .i64 (ms.getD i mv0).1,(ms.getD i mv0).2]:=RdF.cells h.out (by rw [h.len];exact h1) mv0
theorem RdM.cell0 {C:Cx Tryz.prog} {H:List HP} {v:Value} {ms:List MV} {R:List (List (Int × Int × Int))} (h:RdM C.B C.w0 v ms R) {i:Nat} (h1:i<R.length):Cell C H (elt v i 2) (.int .i64 (ms.getD i mv0).1):=h.out.cell0 (i:=i) (by rw [h.len];exact h1) mv0 rfl
theorem RdM.cell1 {C:Cx Tryz.prog} {H:List HP} {v:Value} {ms:List MV} {R:List (List (Int × Int × Int))} (h:RdM C.B C.w0 v ms R) {i:Nat} (h1:i<R.length):Cell C H (prt (elt v i 2) 1) (ms.getD i mv0).2:=h.out.cellAt (i:=i) (j:=1) (by rw [h.len];exact h1) mv0 rfl
theorem gdL {α:Type} {l r:List α} {i:Nat} {z:α} (h:i<l.length):(l++r).getD i z=l.getD i z:=by
 rw [List.getD_eq_getElem?_getD,List.getElem?_append_left h,← List.getD_eq_getElem?_getD]
theorem gdR {α:Type} {l:List α} {x z:α}:(l++[x]).getD l.length z=x:=by
 rw [List.getD_eq_getElem?_getD,List.getElem?_append_right (Nat.le_refl _),Nat.sub_self];rfl
theorem gdR' {α:Type} {l:List α} {x z:α} {n:Nat} (h:n=l.length):(l++[x]).getD n z=x:=by subst h;exact gdR
theorem tsW_snoc (ws:Wss) (a b:Int):tsW ws++[⟨(ws.length:Int),0,a,b⟩]=tsW (ws++[(a,b)]):=by
 refine Tr.ext_getD ts0 (by simp [tsW_len]) fun i hi=>?_
 simp only [List.length_append,tsW_len,List.length_singleton] at hi
 rw [tsW_get (by simpa using hi)]
 by_cases h:i<ws.length
 ·rw [gdL (by rw [tsW_len];exact h),tsW_get h,gdL h]
 ·obtain rfl:i=ws.length:=by omega
  rw [gdR' (tsW_len ws).symm,gdR]
def WsTo (v:Int) (ws:Wss):Prop:=∀ j,j<ws.length→0≤(ws.getD j (0,0)).1∧(ws.getD j (0,0)).1≤v∧v≤(ws.getD j (0,0)).2∧(ws.getD j (0,0)).2≤20000
theorem WsTo.snoc {v:Int} {ws:Wss} (h:WsTo v ws) {a b:Int} (h1:0≤a∧a≤v) (h2:v≤b∧b≤20000):WsTo v (ws++[(a,b)]):=fun j hj=>by
 rw [List.length_append,List.length_singleton] at hj
 by_cases hx:j<ws.length
 ·rw [gdL hx];exact h j hx
 ·obtain rfl:j=ws.length:=by omega
  rw [gdR];exact ⟨h1.1,h1.2,h2.1,h2.2⟩
theorem WsTo.ok {v:Int} {ws:Wss} (h:WsTo v ws) (hn:1≤ws.length∧ws.length≤6):OkW ws v:=⟨hn,fun i hi=>⟨(h i hi).1,(h i hi).2.1⟩,fun i hi=>⟨(h i hi).2.2.1,(h i hi).2.2.2⟩⟩
def nkW (ws:List Int) (i k:Nat):Int:=if 0<ws.length then ws.getD ((i+k)%ws.length) 0 else 0
theorem nk_in {ws:List Int} (h:∀ j,j<ws.length→0≤ws.getD j 0∧ws.getD j 0≤255) (i k:Nat):0≤nkW ws i k∧nkW ws i k≤255:=by
 unfold nkW
 split
 ·exact h _ (Nat.mod_lt _ (by omega))
 ·omega
theorem cellG {C:Cx Tryz.prog} {H:List HP} {v:Value} {rs:List (Int × Int × Int)} {g:Int→Int} {k:Nat} (p:∃ H',Pick (OwE encI 2 1 v (Tr.runL rs g)) H H') (hk:k<rs.length):Cell C H (elt v k 1) (.int .i64 (g (k:Int))):=by
 obtain ⟨H',p⟩:=p
 have h:=OwE.cell0 (C:=C) encI_ok p (i:=k) (by rw [Tr.runL_len];exact hk) 0 (u:=.int .i64 ((Tr.runL rs g).getD k 0)) rfl
 rw [Tr.runL_at hk] at h
 exact h
theorem lo_fin {ws:Wss} {v:Int} (h:OkW ws v) : -(1*((hv (aW ws) ws.length).getD 0))≤v∧∀ i,i<ws.length→(ws.getD i (0,0)).1 ≤ -(1*((hv (aW ws) ws.length).getD 0)):=by
 obtain ⟨x,hx⟩:=hv_some (aW ws) (c:=ws.length) (by have:=h.n;omega)
 obtain ⟨⟨i,hi,e⟩,hl⟩:=hv_le (aW ws) _ x hx
 rw [hx]
 show -(1*x)≤v∧∀ i,i<ws.length→(ws.getD i (0,0)).1 ≤ -(1*x)
 have h1:=h.lo i hi
 unfold aW at e hl
 exact ⟨by omega,fun j hj=>by have:=hl j hj;omega⟩
theorem hi_fin {ws:Wss} {v:Int} (h:OkW ws v):v ≤ -(-1*((hv (bW ws) ws.length).getD 0))∧∀ i,i<ws.length → -(-1*((hv (bW ws) ws.length).getD 0))≤(ws.getD i (0,0)).2:=by
 obtain ⟨x,hx⟩:=hv_some (bW ws) (c:=ws.length) (by have:=h.n;omega)
 obtain ⟨⟨i,hi,e⟩,hl⟩:=hv_le (bW ws) _ x hx
 rw [hx]
 show v ≤ -(-1*x)∧∀ i,i<ws.length → -(-1*x)≤(ws.getD i (0,0)).2
 have h1:=h.hi i hi
 unfold bW at e hl
 exact ⟨by omega,fun j hj=>by have:=hl j hj;omega⟩
theorem can_le {m:Int} {rs:List (Int × Int × Int)} (hv:Tr.VT m rs) : -1≤Tr.canV m rs∧Tr.canV m rs≤3:=by
 obtain ⟨D,h1,h2,_⟩:=Tr.can_spec hv
 have:=hv.n
 omega
theorem lt_or {P:Prop} {j k:Nat} (h:j<k+1) (h1:j<k→P) (h2:k=j→P):P:=by
 rcases Nat.lt_or_ge j k with g | g
 ·exact h1 g
 ·exact h2 (by omega)
theorem mul_sp {v d:Int} (hv:0≤v∧v≤20000) (hd:1≤d∧d≤10000000000):0≤v*d∧v*d≤200000000000000 :=
 ⟨Int.mul_nonneg hv.1 (by omega),Int.mul_le_mul (c:=20000) (d:=10000000000) hv.2 hd.2 (by omega) (by omega)⟩
theorem nk_0 {ws:List Int} {i k:Nat} (h:¬ 0<(ws.length:Int)):nkW ws i k=0:=by unfold nkW;rw [if_neg (by omega)]
theorem nk_1 {ws:List Int} {i k:Nat} (h:0<(ws.length:Int)):nkW ws i k=ws.getD ((i+k)%ws.length) 0:=by unfold nkW;rw [if_pos (by omega)]
theorem ix_mod {i k n:Nat}:((i:Int)+(k:Int)).tmod (n:Int)=(((i+k)%n:Nat):Int):=by
 rw [show (i:Int)+(k:Int)=((i+k:Nat):Int) by omega,Int.tmod_eq_emod_of_nonneg (by omega)];rfl
theorem wd_0 {rs:List (Int × Int × Int)} {g:Nat→Int} {wo:List Int} {i k:Nat} (h:¬ 0<(wo.length:Int)):(Tr.tm rs k,max 0 (g k),min 20000 (g k))=Tr.wdR rs g (nkW wo i) k:=by
 unfold Tr.wdR;rw [nk_0 h];simp
theorem wd_1 {rs:List (Int × Int × Int)} {g:Nat→Int} {wo:List Int} {i k:Nat} (h:0<(wo.length:Int)):(Tr.tm rs k,max 0 (g k-wo.getD ((i+k)%wo.length) 0),min 20000 (g k+wo.getD ((i+k)%wo.length) 0))=Tr.wdR rs g (nkW wo i) k:=by
 unfold Tr.wdR;rw [nk_1 h]
abbrev dT (m:Int) (rs:List (Int × Int × Int)) (ys:List Int):List Int:=tdL ys (Tr.canV m rs)
abbrev gF (m:Int) (rs:List (Int × Int × Int)) (ys:List Int) (v:Int):Int→Int:=Tr.gT rs (Tr.tideV (dT m rs ys)) v
theorem cellTs {C:Cx Tryz.prog} {H:List HP} {v u:Value} {ws:Wss} {q j:Nat} (p:∃ H',Pick (OwE encT 53 4 v (tsW ws)) H H') (hq:q<(tsW ws).length) (hu:lget (encT ((tsW ws).getD q ts0)) j=some u):Cell C H (prt (elt v q 4) j) u:=by
 obtain ⟨H',p⟩:=p
 exact OwE.cellAt encT_ok p hq ts0 hu
theorem cellTs1 {C:Cx Tryz.prog} {H:List HP} {v u:Value} {ws:Wss} {q:Nat} (p:∃ H',Pick (OwE encT 53 4 v (tsW ws)) H H') (hq:q<(tsW ws).length) (hu:lget (encT ((tsW ws).getD q ts0)) 3=some u):Cell C H (prt (prt (elt v q 4) 2) 1) u:=by
 have h:=cellTs (C:=C) p hq hu
 rw [prt_eq (prt (elt v q 4) 2) 1,prt_prt]
 exact h
theorem k_Table (w:World) (o:Value) (ws:Wss) (v:Int) {n:Nat} (hl:ws.length=n) (hw:OkW ws v) (hR:RdF encT 4 w.heap.size w o (tsW ws)):Ret Tryz.prog 11 [.agg #[.int .i64 (n:Int),.int .i64 1,.int .i64 0,.int .i64 0,o]].toArray w (.int .i64 0):=by
 subst hl;exact ref_CheckTable9 w _ 1 0 0 o (tsW ws) hw.tb hR
theorem k_Truth (w:World) (o bs hs:Value) (ws:Wss) (v:Int) {n:Nat} (hl:ws.length=n) (hw:OkW ws v) (hR:RdF encT 4 w.heap.size w o (tsW ws)) (hB:RdF encI 1 w.heap.size w bs (List.replicate n 0)) (hH:RdF encI 1 w.heap.size w hs [v]):Ret Tryz.prog 12 [.agg #[.int .i64 (n:Int),.int .i64 1,.int .i64 0,.int .i64 0,o],.agg #[bs,hs]].toArray w (.int .i64 0):=by
 subst hl;exact c_CheckTruth9 w o bs hs ws v hw hR hB hH
theorem k_True (w:World) (o:Value) (ws:Wss) (v:Int) {n:Nat} (hl:ws.length=n) (hw:OkW ws v) (hR:RdF encT 4 w.heap.size w o (tsW ws)):RetE Tryz.prog 13 [.agg #[.int .i64 (n:Int),.int .i64 1,.int .i64 0,.int .i64 0,o]].toArray w (fun r=>∃ x y:Value,r=.tuple #[.agg #[x,y],.int .i64 0]∧x.oneCell'=true∧y.oneCell'=true):=by
 subst hl;exact c_Truth9 w o ws v hw hR
theorem k_Ring (w:World) (o:Value) (ws:Wss) (v:Int) {n:Nat} (hl:ws.length=n) (hw:OkW ws v) (hR:RdF encT 4 w.heap.size w o (tsW ws)):Ret Tryz.prog 14 [.agg #[.int .i64 (n:Int),.int .i64 1,.int .i64 0,.int .i64 0,o]].toArray w (.tuple #[.slice none 0 0,.int .i64 5]):=by
 subst hl;exact c_Ring9 w o ws v hw hR
def loF (ws:Wss):Int := -(1*((hv (aW ws) ws.length).getD 0))
def hiF (ws:Wss):Int := -(-1*((hv (bW ws) ws.length).getD 0))
theorem k_Spread (w:World) (o:Value) (ws:Wss) (v:Int) {n:Nat} (hl:ws.length=n) (hw:OkW ws v) (hR:RdF encT 4 w.heap.size w o (tsW ws)):Ret Tryz.prog 15 [.agg #[.int .i64 (n:Int),.int .i64 1,.int .i64 0,.int .i64 0,o],.int .i64 0].toArray w (.tuple #[.agg #[.int .i64 (loF ws),.int .i64 (hiF ws)],.int .i64 0]):=by
 subst hl;exact c_Spread w o ws v hw hR
theorem fin_lo {ws:Wss} {v:Int} (h:OkW ws v):loF ws≤v∧∀ i,i<ws.length→((tsW ws).getD i ts0).lo≤loF ws:=⟨(lo_fin h).1,fun i hi=>by rw [tsW_get hi];exact (lo_fin h).2 i hi⟩
theorem fin_hi {ws:Wss} {v:Int} (h:OkW ws v):v≤hiF ws∧∀ i,i<ws.length→hiF ws≤((tsW ws).getD i ts0).hi:=⟨(hi_fin h).1,fun i hi=>by rw [tsW_get hi];exact (hi_fin h).2 i hi⟩
end Go.Proofs.YtoapkhkdnbcilaaGreat
namespace Go.Proofs.YtoapkhkdnbcilaaGreat
open Go Go.TH Go.ChangeShapes Go.WideShapes Go.ChangeAt Go.RowKit
set_option maxRecDepth 100000
section
variable {H:Type} {enc:TypeId × Value→H} {w:World}
theorem cells2:Tryz.prog.cellsOf 2=1:=by kernel_rfl
theorem cells3:Tryz.prog.cellsOf 3=1:=by kernel_rfl
theorem cells5:Tryz.prog.cellsOf 5=1:=by kernel_rfl
theorem cells28:Tryz.prog.cellsOf 28=2:=by kernel_rfl
theorem cells33:Tryz.prog.cellsOf 33=1:=by kernel_rfl
theorem cells35:Tryz.prog.cellsOf 35=2:=by kernel_rfl
theorem cells36:Tryz.prog.cellsOf 36=1:=by kernel_rfl
theorem cells44:Tryz.prog.cellsOf 44=3:=by kernel_rfl
theorem cells74:Tryz.prog.cellsOf 74=1:=by kernel_rfl
theorem wf64 {z:Int} (h:(Lit.int .i64 z).wf=true):in64 z:=by
 simp [Lit.wf,IntKind.min,IntKind.max,IntKind.signed,IntKind.bits] at h
 unfold in64;omega
theorem rd_int {n:Nat} {c:List Value} {y:DataW H × List MemPlace} (h:DataW.trod enc Tryz.prog w 0 (fun _=>true) true n 2 c=some y):∃ z:Int,c=encI z∧in64 z:=by
 obtain ⟨z,rfl,_,hw⟩:=DataW.trod_int Tryz.underlying2 h
 exact ⟨z,rfl,wf64 hw⟩
theorem rd_int3 {n:Nat} {c:List Value} {y:DataW H × List MemPlace} (h:DataW.trod enc Tryz.prog w 0 (fun _=>true) true n 3 c=some y):∃ z:Int,c=encI z∧in64 z:=by
 obtain ⟨z,rfl,_,hw⟩:=DataW.trod_int Tryz.underlying3 h
 exact ⟨z,rfl,wf64 hw⟩
theorem rd_i8 {n:Nat} {c:List Value} {y:DataW H × List MemPlace} (h:DataW.trod enc Tryz.prog w 0 (fun _=>true) true n 74 c=some y):∃ z:Int,c=enc8 z ∧ -128≤z∧z≤127:=by
 obtain ⟨z,rfl,_,hw⟩:=DataW.trod_int Tryz.underlying74 h
 simp [Lit.wf,IntKind.min,IntKind.max,IntKind.signed,IntKind.bits] at hw
 exact ⟨z,rfl,by omega,by omega⟩
theorem rd_u8 {n:Nat} {c:List Value} {y:DataW H × List MemPlace} (h:DataW.trod enc Tryz.prog w 0 (fun _=>true) true n 5 c=some y):∃ z:Int,c=encU1 z∧0≤z∧z≤255:=by
 obtain ⟨z,rfl,_,hw⟩:=DataW.trod_int Tryz.underlying5 h
 simp [Lit.wf,IntKind.min,IntKind.max,IntKind.signed,IntKind.bits] at hw
 exact ⟨z,rfl,by omega,by omega⟩
theorem rd_run {n:Nat} {c:List Value} {y:DataW H × List MemPlace} (hl:c.length=3) (h:DataW.trod enc Tryz.prog w 0 (fun _=>true) true n 44 c=some y):∃ z:Int × Int × Int,c=Tr.encR z∧True:=by
 obtain ⟨y0,y1,m,_,_,h0,h1⟩:=trod_struct2 Tryz.underlying44 h
 rw [cells2] at h0
 rw [cells28] at h1
 match c,hl with
 | [a,b,d],_ =>
  simp at h0 h1
  obtain ⟨u,hu,_⟩:=rd_int h0
  obtain ⟨z0,z1,k,_,_,g0,g1⟩:=trod_struct2 Tryz.underlying28 h1
  rw [cells2] at g0 g1
  simp at g0 g1
  obtain ⟨v,hv,_⟩:=rd_int g0
  obtain ⟨x,hx,_⟩:=rd_int g1
  simp [encI] at hu hv hx
  subst hu;subst hv;subst hx
  exact ⟨(u,v,x),rfl,trivial⟩
theorem rd_trial {n:Nat} {c:List Value} {y:DataW H × List MemPlace} (hl:c.length=2) (h:DataW.trod enc Tryz.prog w 0 (fun _=>true) true n 35 c=some y):∃ z:MV,c=encM z∧∃ rs:List (Int × Int × Int),RdF Tr.encR 3 w.heap.size w z.2 rs:=by
 obtain ⟨y0,y1,m,_,_,h0,h1⟩:=trod_struct2 Tryz.underlying35 h
 rw [cells3] at h0
 rw [cells33] at h1
 match c,hl with
 | [a,b],_ =>
  simp at h0 h1
  obtain ⟨u,hu,_⟩:=rd_int3 h0
  simp [encI] at hu
  subst hu
  obtain ⟨o,rs,ho,hr,_⟩:=open_rd (en:=Tr.encR) (Q:=fun _=>True) Tryz.underlying33 cells44 (by omega) (fun n c y hl hy=>rd_run hl hy) h1
  simp at ho
  subst ho
  exact ⟨(u,b),rfl,rs,hr⟩
theorem open_sl {α:Type} {en:α→List Value} {sz T e:Nat} {Q:α→Prop} {base:Nat} {v:Value} {d:DataW H} {ps:List MemPlace} (hT:Tryz.prog.underlying T=some (.slice e)) (hc:Tryz.prog.cellsOf e=sz) (hz:0<sz) (hd:∀ n c y,c.length=sz→DataW.trod enc Tryz.prog w 0 (fun _=>true) true n e c=some y→∃ z,c=en z∧Q z)
 (hv:Value.okWide Tryz.prog w .any base T v) (h:DataW.Trod enc Tryz.prog w 0 (fun _=>true) true T v d ps):∃ xs:List α,RdF en sz w.heap.size w v xs∧∀ x∈xs,Q x:=by
 obtain ⟨a0,len,cap,rfl⟩:=okWide_slice hT hv
 obtain ⟨fuel,hf⟩:=h
 obtain ⟨o,xs,ho,hr,hq⟩:=open_rd (en:=en) (Q:=Q) hT hc hz hd hf
 simp [Value.cells] at ho
 subst ho
 exact ⟨xs,hr,hq⟩
theorem ex_rows {α β:Type} {R:α→β→Prop} {a0:α} {b0:β}:∀ (l:List α),(∀ z∈l,∃ y,R z y)→∃ ys:List β,l.length=ys.length∧∀ i,i<ys.length→R (l.getD i a0) (ys.getD i b0)
 | [],_=>⟨[],rfl,fun i h=>by simp at h⟩
 | x::xs,h=>by
  obtain ⟨y,hy⟩:=h x (by simp)
  obtain ⟨ys,h1,h2⟩:=ex_rows (a0:=a0) (b0:=b0) xs (fun z hz=>h z (by simp [hz]))
  refine ⟨y::ys,by simp [h1],fun i hi=>?_⟩
  cases i with
  | zero=>exact hy
  | succ i=>exact h2 i (by simpa using hi)
theorem open_trials {base:Nat} {v:Value} {d:DataW H} {ps:List MemPlace} (hv:Value.okWide Tryz.prog w .any base 22 v) (h:DataW.Trod enc Tryz.prog w 0 (fun _=>true) true 22 v d ps):∃ (ms:List MV) (R:List (List (Int × Int × Int))),RdM w.heap.size w v ms R:=by
 obtain ⟨ms,hr,hq⟩:=open_sl (en:=encM) (Q:=fun z:MV=>∃ rs:List (Int × Int × Int),RdF Tr.encR 3 w.heap.size w z.2 rs) Tryz.underlying22 cells35 (by omega) (fun n c y hl hy=>rd_trial hl hy) hv h
 obtain ⟨R,h1,h2⟩:=ex_rows (a0:=mv0) (b0:=[]) ms hq
 exact ⟨ms,R,hr,h1,h2⟩
theorem open_bytes {base:Nat} {v:Value} {d:DataW H} {ps:List MemPlace} (hv:Value.okWide Tryz.prog w .any base 25 v) (h:DataW.Trod enc Tryz.prog w 0 (fun _=>true) true 25 v d ps):∃ xs:List Int,RdF encU1 1 w.heap.size w v xs∧∀ j,j<xs.length→0≤xs.getD j 0∧xs.getD j 0≤255:=by
 obtain ⟨xs,hr,hq⟩:=open_sl (Q:=fun x:Int=>0≤x∧x≤255) Tryz.underlying25 cells5 (by omega) (fun n c y hl hy=>rd_u8 hy) hv h
 exact ⟨xs,hr,fun j hj=>hq _ (getD_mem hj 0)⟩
theorem open_tides {base:Nat} {v:Value} {d:DataW H} {ps:List MemPlace} (hv:Value.okWide Tryz.prog w .any base 24 v) (h:DataW.Trod enc Tryz.prog w 0 (fun _=>true) true 24 v d ps):∃ (rv:List Value) (TD:List (List Int)),RdR enc8 1 w.heap.size w v rv TD∧∀ i,i<TD.length→∀ j,j<(TD.getD i []).length → -128≤(TD.getD i []).getD j 0∧(TD.getD i []).getD j 0≤127:=by
 obtain ⟨a0,len,cap,rfl⟩:=okWide_slice Tryz.underlying24 hv
 obtain ⟨fuel,hf⟩:=h
 obtain ⟨o,rv,rows,ho,hr3,hq3⟩:=open_rdr (en:=enc8) (Q:=fun x:Int => -128≤x∧x≤127) Tryz.underlying24 cells36 Tryz.underlying36 cells74 (by omega) (fun n c y hl hy=>rd_i8 hy) hf
 simp [Value.cells] at ho
 subst ho
 exact ⟨rv,rows,hr3,fun i hi j hj=>hq3 _ (getD_mem hi []) _ (getD_mem hj 0)⟩
theorem open_u16 {base:Nat} {v:Value} {d:DataW H} {ps:List MemPlace} (hv:Value.okWide Tryz.prog w .any base 23 v) (h:DataW.Trod enc Tryz.prog w 0 (fun _=>true) true 23 v d ps):∃ z:Int,v=.int .u16 z∧0≤z∧z≤65535:=by
 obtain ⟨z,rfl,_,_,hw⟩:=open_int Tryz.underlying23 hv h
 simp [Lit.wf,IntKind.min,IntKind.max,IntKind.signed,IntKind.bits] at hw
 exact ⟨z,rfl,by omega,by omega⟩
end
end Go.Proofs.YtoapkhkdnbcilaaGreat
namespace Go.Proofs.YtoapkhkdnbcilaaGreat
open Go Go.TH
attribute [local irreducible] W WO pt
set_option maxRecDepth 10000
set_option maxHeartbeats 16000000
theorem law_TwoTrials (hW:∀ w,Ret Tryz.prog 4 ([]:List Value).toArray w (.bool true)) (w:World) (o tv wv:Value) (ms:List MV) (R:List (List (Int × Int × Int))) (rv:List Value) (TD:List (List Int)) (wo:List Int) (s:Int) (hs:0≤s∧s≤65535) (hM:RdM w.heap.size w o ms R) (hT:RdR enc8 1 w.heap.size w tv rv TD) (hU:RdF encU1 1 w.heap.size w wv wo) (hb8:∀ i,i<TD.length→∀ j,j<(TD.getD i []).length → -128≤(TD.getD i []).getD j 0∧(TD.getD i []).getD j 0≤127) (hbu:∀ j,j<wo.length→0≤wo.getD j 0∧wo.getD j 0≤255):Ret Tryz.prog 3 [o,.int .u16 s,tv,wv].toArray w (.bool true):=by
 refine Ret.of mixed tyTab Tryz.func3 rfl rfl ?_
 replace hT:RdR enc8 1 (fnCx mixed tyTab Tryz.f3.ntmps w).B (fnCx mixed tyTab Tryz.f3.ntmps w).w0 tv rv TD:=hT
 replace hU:RdF encU1 1 (fnCx mixed tyTab Tryz.f3.ntmps w).B (fnCx mixed tyTab Tryz.f3.ntmps w).w0 wv wo:=hU
 replace hM:RdM (fnCx mixed tyTab Tryz.f3.ntmps w).B (fnCx mixed tyTab Tryz.f3.ntmps w).w0 o ms R:=hM
 have hlm:=hM.sl.le
 have hlt:=hT.sl.le
 have hlu:=hU.sl.le
 have hom:=hM.sl.oc
 have hot:=hT.sl.oc
 have hou:=hU.sl.oc
 obtain ⟨v,hv⟩:∃ v,s.tmod 20001=v:=⟨_,rfl⟩
 have hv1:=Int.tmod_lt_of_pos s (show (0:Int)<20001 by omega)
 have hv2:=Int.tmod_nonneg 20001 hs.1
 rw [hv] at hv1 hv2
 refine W.sreg (WO.p rfl rfl (WO.nil (W.seq (W.sreg (WO.p rfl rfl ?_)))))
 refine' WO.len (n:=_) rfl rfl ?hs rfl ?_
 case hs=>(first | exact hM.sl)
 refine WO.p rfl rfl (WO.p rfl rfl ?_)
 refine WO.guard_bl rfl rfl (fun c1=>?_) (fun c1=>?_)
 ·refine WO.no rfl rfl (WO.no rfl rfl (WO.no rfl rfl (WO.p rfl rfl (WO.p rfl rfl (WO.no rfl rfl (WO.no rfl rfl (WO.no rfl rfl (WO.no rfl rfl (WO.no rfl rfl (WO.p rfl rfl (WO.nil (W.cond_t rfl (W.sreg (WO.callR rfl Tryz.call4 (fun L w hi=>hW w) rfl (WO.p rfl rfl (WO.nil (W.ret ?_)))))))))))))))))
  exact fin.ret (Res.one rfl (RV.tmp rfl)) rfl
 ·refine WO.pg rfl rfl rfl (WO.go' rfl ?_)
  refine' WO.len (n:=_) rfl rfl ?hs rfl ?_
  case hs=>(first | exact hM.sl)
  refine WO.pg rfl rfl rfl (WO.p rfl rfl (WO.p rfl rfl ?_))
  refine WO.guard_bl rfl rfl (fun c2=>?_) (fun c2=>?_)
  ·refine WO.no rfl rfl (WO.no rfl rfl (WO.no rfl rfl (WO.no rfl rfl (WO.no rfl rfl (WO.p rfl rfl (WO.nil (W.cond_t rfl (W.sreg (WO.callR rfl Tryz.call4 (fun L w hi=>hW w) rfl (WO.p rfl rfl (WO.nil (W.ret ?_))))))))))))
   exact fin.ret (Res.one rfl (RV.tmp rfl)) rfl
  ·refine WO.pg rfl rfl rfl (WO.go' rfl ?_)
   refine' WO.len (n:=_) rfl rfl ?hs rfl ?_
   case hs=>(first | exact hT.sl)
   refine WO.pg rfl rfl rfl (WO.go' rfl ?_)
   refine' WO.len (n:=_) rfl rfl ?hs rfl ?_
   case hs=>(first | exact hM.sl)
   refine WO.pg rfl rfl rfl (WO.p rfl rfl (WO.nil ?_))
   refine W.cond_bl rfl (fun c3=>?_) (fun c3=>?_)
   ·refine W.sreg (WO.callR rfl Tryz.call4 (fun L w hi=>hW w) rfl (WO.p rfl rfl (WO.nil (W.ret ?_))))
    exact fin.ret (Res.one rfl (RV.tmp rfl)) rfl
   ·refine W.skip (W.sreg (WO.p rfl rfl (WO.conv64 rfl rfl rfl (by unfold in64;omega) rfl (WO.rem rfl rfl (by omega) rfl ?_))))
    rw [hv]
    refine WO.p rfl rfl (WO.nil (W.sreg (WO.p rfl rfl ?_)))
    refine' WO.len (n:=_) rfl rfl ?hs rfl ?_
    case hs=>(first | exact hM.sl)
    refine' WO.build (cs:=_) rfl rfl rfl ?hf rfl ?_
    case hf=>(conv=>lhs;simp [-List.getD_eq_getElem?_getD,fillL,vcl,wrl,TTab.pl?.lget']) <;> rfl
    refine WO.alloc rfl rfl rfl (fun b1 hb1=>(WO.storeA rfl rfl rfl rfl Pick.head rfl rfl (WO.nil (W.seq (W.sreg (WO.p rfl rfl (WO.nil (W.block (W.chg (owNil (enc:=encT) (e:=53) (sz:=4)) ?_)))))))))
    refine W.loop3 (fun (i:Nat) (l:Value) (ws:Wss)=>i≤R.length∧ws.length=i∧WsTo v ws)
     (fun (i:Nat) (l:Value) (ws:Wss)=>[(11,.int .i64 (i:Int)),(10,.pointer (some ⟨b1,0,none⟩)),(9,.int .i64 v),(0,o),(2,tv),(3,wv)])
     (fun (i:Nat) (l:Value) (ws:Wss)=>[pt b1 (.cells #[.int .i64 (R.length:Int),.int .i64 1,.int .i64 0,.int .i64 0,l] 31 (0,0)),OwE encT 53 4 l (tsW ws)])
     (fun (i:Nat) (l:Value) (ws:Wss)=>R.length-i) 0 (.slice none 0 0) []
     (by exact ⟨by omega,rfl,fun j hj=>by simp at hj⟩) ⟨rfl,rfl,rfl,rfl,rfl,rfl,trivial⟩ (by repeat (first | exact Sub.nil | refine Sub.cons (by repeat first | exact .head | apply Pick.tail) ?_)) ?_
    rintro i l ws ⟨hi0,hwl,hws⟩
    refine W.seq (W.sreg (WO.p rfl rfl (WO.p rfl rfl ?_)))
    refine' WO.len (n:=_) rfl rfl ?hs rfl ?_
    case hs=>(first | exact hM.sl)
    refine WO.p rfl rfl (WO.nil ?_)
    refine W.cond_bl rfl (fun c4=>?_) (fun c4=>?_)
    ·refine W.skip (W.seq (W.block (W.seq (W.sreg (WO.p rfl rfl (WO.p rfl rfl ?_))))))
     refine' WO.indexAddr (n:=_) (i:=_) rfl rfl rfl ?hs ?h1 rfl ?_
     case hs=>(first | exact hM.sl)
     case h1=>(omega)
     refine' WO.loadA (vs:=_) rfl rfl ?hc ?hl rfl ?_
     case hc=>exact hM.cells (i:=i) (by omega)
     case hl=>rfl
     refine WO.callR rfl Tryz.call5 (fun L w hi=>c_trial10 w (ms.getD i mv0).1 _ (R.getD i []) ((hM.row i (by omega)).later hi)) rfl (WO.p rfl rfl (WO.p rfl rfl ?_))
     refine WO.guard_nbl rfl rfl (fun c5=>?_) (fun c5=>?_)
     ·refine WO.no rfl rfl (WO.no rfl rfl (WO.no rfl rfl (WO.no rfl rfl (WO.no rfl rfl (WO.no rfl rfl (WO.p rfl rfl (WO.nil (W.cond_t rfl (W.sreg (WO.callR rfl Tryz.call4 (fun L w hi=>hW w) rfl (WO.p rfl rfl (WO.nil (W.ret ?_)))))))))))))
      exact fin.ret (Res.one rfl (RV.tmp rfl)) rfl
     ·refine WO.pg rfl rfl rfl (WO.pg rfl rfl rfl (WO.go' rfl ?_))
      refine' WO.indexAddr (n:=_) (i:=_) rfl rfl rfl ?hs ?h1 rfl ?_
      case hs=>(first | exact hT.sl)
      case h1=>(omega)
      refine WO.go' rfl ?_
      refine' WO.load (v:=_) rfl rfl ?hc rfl ?_
      case hc=>((refine hT.cellV (i:=i) ?_;omega))
      refine WO.go' rfl ?_
      refine' WO.len (n:=_) rfl rfl ?hs rfl ?_
      case hs=>(first | exact (hT.row i (by omega)).sl)
      refine WO.pg rfl rfl rfl (WO.p rfl rfl (WO.nil ?_))
      refine W.cond_bl rfl (fun c6=>?_) (fun c6=>?_)
      ·refine W.sreg (WO.callR rfl Tryz.call4 (fun L w hi=>hW w) rfl (WO.p rfl rfl (WO.nil (W.ret ?_))))
       exact fin.ret (Res.one rfl (RV.tmp rfl)) rfl
      ·refine W.skip ?_
       have hV:Tr.VT (ms.getD i mv0).1 (R.getD i []):=Tr.VT.of (by assumption)
       have hn5:=hV.n
       have hcl:=can_le hV
       refine W.sreg (WO.p rfl rfl (WO.p rfl rfl ?_))
       refine' WO.indexAddr (n:=_) (i:=_) rfl rfl rfl ?hs ?h1 rfl ?_
       case hs=>(first | exact hM.sl)
       case h1=>(omega)
       refine' WO.loadA (vs:=_) rfl rfl ?hc ?hl rfl ?_
       case hc=>exact hM.cells (i:=i) (by omega)
       case hl=>rfl
       refine WO.callR (r:=.tuple #[.int .i64 (Tr.canV (ms.getD i mv0).1 (R.getD i [])),.int .i64 0]) rfl Tryz.call6 (fun L w hi=>by have h:=Tr.c_Cancels w (ms.getD i mv0).1 _ (R.getD i []) ((hM.row i (by omega)).later hi);rw [hV.to] at h;exact h) rfl (WO.p rfl rfl (WO.p rfl rfl (WO.p rfl rfl (WO.p rfl rfl (WO.p rfl rfl (WO.nil (W.seq (W.sreg (WO.p rfl rfl (WO.neqF rfl rfl (by omega) rfl (WO.p rfl rfl (WO.pg rfl rfl rfl (WO.go' rfl (WO.gtrF rfl rfl (by omega) rfl (WO.p rfl rfl (WO.nil (W.cond_f rfl (W.skip (W.sreg (WO.p rfl rfl (WO.p rfl rfl ?_)))))))))))))))))))))
       refine' WO.indexAddr (n:=_) (i:=_) rfl rfl rfl ?hs ?h1 rfl ?_
       case hs=>(first | exact hM.sl)
       case h1=>(omega)
       refine WO.field0 rfl rfl rfl ?_
       refine' WO.load (v:=_) rfl rfl ?hc rfl ?_
       case hc=>((refine hM.cell0 (i:=i) ?_;omega))
       refine' WO.build (cs:=_) rfl rfl rfl ?hf rfl ?_
       case hf=>(conv=>lhs;simp [-List.getD_eq_getElem?_getD,fillL,vcl,wrl,TTab.pl?.lget']) <;> rfl
       refine WO.alloc rfl rfl rfl (fun b2 hb2=>(WO.storeA rfl rfl rfl rfl Pick.head rfl rfl (WO.nil (W.seq ?_))))
       refine W.drawD 11 [.r 0 [],.r 1 [],.r 2 [],.b 3 [],.r 4 [],.r 5 [],.r 6 [],.r 7 [],.b 8 [],.r 9 [],.c 10 []] [] (A0:=[]) (Sub.refl _) (by kernel_rfl) ?_ ?_
       ·repeat constructor
       refine DT.r rfl rfl rfl (WO.p rfl rfl (WO.nil ⟨rfl,rfl⟩)) (DT.r rfl rfl rfl (WO.p rfl rfl (WO.nil ⟨rfl,rfl⟩)) ?_)
       refine' DT.r rfl rfl rfl ?hq ?_
       case hq =>
        refine' WO.indexAddr (n:=_) (i:=_) rfl rfl rfl ?hs ?h1 rfl ?_
        case hs=>(first | exact hM.sl)
        case h1=>(omega)
        exact WO.nil ⟨rfl,rfl⟩
       refine' DT.b rfl rfl rfl ?hq ?_
       case hq =>
        refine' WO.loadA (vs:=_) rfl rfl ?hc ?hl rfl ?_
        case hc=>exact hM.cells (i:=i) (by omega)
        case hl=>rfl
        exact WO.nil ⟨rfl,rfl⟩
       refine DT.r rfl rfl rfl (WO.p rfl rfl (WO.nil ⟨rfl,rfl⟩)) (DT.r rfl rfl rfl (WO.p rfl rfl (WO.nil ⟨rfl,rfl⟩)) (DT.r rfl rfl rfl (WO.p rfl rfl (WO.nil ⟨rfl,rfl⟩)) ?_))
       refine' DT.r rfl rfl rfl ?hq ?_
       case hq =>
        refine' WO.indexAddr (n:=_) (i:=_) rfl rfl rfl ?hs ?h1 rfl ?_
        case hs=>(first | exact hT.sl)
        case h1=>(omega)
        exact WO.nil ⟨rfl,rfl⟩
       refine' DT.b rfl rfl rfl ?hq ?_
       case hq =>
        refine' WO.load (v:=_) rfl rfl ?hc rfl ?_
        case hc=>((refine hT.cellV (i:=i) ?_;omega))
        exact WO.nil ⟨rfl,rfl⟩
       refine DT.r rfl rfl rfl (WO.p rfl rfl (WO.nil ⟨rfl,rfl⟩)) (DT.c [_,_,_] rfl rfl rfl rfl (WO.call (Post:=fun r Hq=>Hq=[OwE encI 2 1 r (dT (ms.getD i mv0).1 (R.getD i []) (TD.getD i []))]) rfl Tryz.call8 (fun L w hi=>c_tide10 w _ _ _ ((hT.row i (by omega)).later hi) (by omega) (hb8 i (by omega))) rfl ?_))
       rintro xv _ rfl
       refine WO.nil ⟨_,[_],rfl,rfl,(Keep.r (Keep.b (Keep.r (Keep.r (Keep.r (Keep.r (Keep.b (Keep.r (Keep.r (Keep.r Keep.nil)))))))))),?_⟩
       refine DT.nil [_,_,_,_] rfl (WO.call (Post:=fun r Hq=>Hq=[OwE encI 2 1 r (Tr.runL (R.getD i []) (gF (ms.getD i mv0).1 (R.getD i []) (TD.getD i []) v))]) rfl Tryz.call7 (fun L w hi=>Tr.law_Ground w (ms.getD i mv0).1 v _ xv (R.getD i []) (dT (ms.getD i mv0).1 (R.getD i []) (TD.getD i [])) ((hM.row i (by omega)).later hi) (RdF.of_ow (e:=2) encI_ok (by repeat exact .head) hi) hV (Tr.td_zero hV _).1 ⟨by omega,by omega⟩) rfl ?_)
       rintro gv _ rfl
       refine WO.p rfl rfl (WO.nil (W.seq (W.fact (OwE.sl (enc:=encI) (e:=2) (sz:=1) (xs:=Tr.runL (R.getD i []) (gF (ms.getD i mv0).1 (R.getD i []) (TD.getD i []) v)) (by repeat exact .head)) (fun hgv=>?_))))
       rw [Tr.runL_len] at hgv
       refine W.sreg (WO.p rfl rfl (WO.nil (W.block (W.chg (owNil (enc:=Tr.encR) (e:=44) (sz:=3)) ?_))))
       refine W.loop2 (fun (k:Nat) (l2:Value)=>k≤(R.getD i []).length∧∀ j:Nat,j<k→0≤gF (ms.getD i mv0).1 (R.getD i []) (TD.getD i []) v (j:Int)∧gF (ms.getD i mv0).1 (R.getD i []) (TD.getD i []) v (j:Int)≤20000)
        (fun (k:Nat) (l2:Value)=>[(16,.int .i64 (k:Int)),(15,gv),(14,.pointer (some ⟨b2,0,none⟩)),(11,.int .i64 (i:Int)),(10,.pointer (some ⟨b1,0,none⟩)),(9,.int .i64 v),(0,o),(2,tv),(3,wv)])
        (fun (k:Nat) (l2:Value)=>[pt b1 (.cells #[.int .i64 (R.length:Int),.int .i64 1,.int .i64 0,.int .i64 0,l] 31 (0,0)),pt b2 (.cells #[.int .i64 (ms.getD i mv0).1,l2] 35 (0,0)),OwE encT 53 4 l (tsW ws),OwE encI 2 1 gv (Tr.runL (R.getD i []) (gF (ms.getD i mv0).1 (R.getD i []) (TD.getD i []) v)),OwE Tr.encR 44 3 l2 ((Tr.wdL (R.getD i []) (fun k:Nat=>gF (ms.getD i mv0).1 (R.getD i []) (TD.getD i []) v (k:Int)) (nkW wo i)).take k)])
        (fun (k:Nat) (l2:Value)=>(R.getD i []).length-k) 0 (.slice none 0 0)
        (by exact ⟨by omega,fun j hj=>by omega⟩) ⟨rfl,rfl,rfl,rfl,rfl,rfl,rfl,rfl,rfl,trivial⟩ (by repeat (first | exact Sub.nil | refine Sub.cons (by repeat first | exact .head | apply Pick.tail) ?_)) ?_
       rintro k l2 ⟨hk0,hgk⟩
       refine W.seq (W.sreg (WO.p rfl rfl (WO.p rfl rfl ?_)))
       refine' WO.len (n:=_) rfl rfl ?hs rfl ?_
       case hs=>(first | exact hgv)
       refine WO.p rfl rfl (WO.nil ?_)
       refine W.cond_bl rfl (fun c7=>?_) (fun c7=>?_)
       ·refine W.skip (W.seq (W.block (W.seq (W.sreg (WO.p rfl rfl (WO.p rfl rfl ?_))))))
        refine' WO.indexAddr (n:=_) (i:=_) rfl rfl rfl ?hs ?h1 rfl ?_
        case hs=>(first | exact hgv)
        case h1=>(omega)
        refine' WO.load (v:=_) rfl rfl ?hc rfl ?_
        case hc=>(first | (refine cellG (rs:=R.getD i []) (g:=gF (ms.getD i mv0).1 (R.getD i []) (TD.getD i []) v) (k:=k) ?_ ?_;exact ⟨_,(by repeat first | exact .head | apply Pick.tail)⟩;omega))
        refine WO.p rfl rfl (WO.p rfl rfl ?_)
        refine WO.guard_bl rfl rfl (fun c8=>?_) (fun c8=>?_)
        ·refine WO.no rfl rfl (WO.no rfl rfl (WO.no rfl rfl (WO.no rfl rfl (WO.no rfl rfl (WO.p rfl rfl (WO.nil (W.cond_t rfl (W.sreg (WO.callR rfl Tryz.call4 (fun L w hi=>hW w) rfl (WO.p rfl rfl (WO.nil (W.ret ?_))))))))))))
         exact fin.ret (Res.one rfl (RV.tmp rfl)) rfl
        ·refine WO.pg rfl rfl rfl (WO.pg rfl rfl rfl (WO.go' rfl ?_))
         refine' WO.indexAddr (n:=_) (i:=_) rfl rfl rfl ?hs ?h1 rfl ?_
         case hs=>(first | exact hgv)
         case h1=>(omega)
         refine WO.go' rfl ?_
         refine' WO.load (v:=_) rfl rfl ?hc rfl ?_
         case hc=>(first | (refine cellG (rs:=R.getD i []) (g:=gF (ms.getD i mv0).1 (R.getD i []) (TD.getD i []) v) (k:=k) ?_ ?_;exact ⟨_,(by repeat first | exact .head | apply Pick.tail)⟩;omega))
         refine WO.pg rfl rfl rfl (WO.p rfl rfl (WO.nil ?_))
         refine W.cond_bl rfl (fun c9=>?_) (fun c9=>?_)
         ·refine W.sreg (WO.callR rfl Tryz.call4 (fun L w hi=>hW w) rfl (WO.p rfl rfl (WO.nil (W.ret ?_))))
          exact fin.ret (Res.one rfl (RV.tmp rfl)) rfl
         ·refine W.skip (W.sreg (WO.p rfl rfl (WO.nil (W.seq (W.sreg (WO.p rfl rfl ?_))))))
          refine' WO.len (n:=_) rfl rfl ?hs rfl ?_
          case hs=>(first | exact hU.sl)
          refine WO.p rfl rfl (WO.nil ?_)
          refine W.cond_bl rfl (fun c10=>?_) (fun c10=>?_)
          ·refine W.region (WO.p rfl rfl (WO.p rfl rfl (WO.p rfl rfl (WO.ar rfl rfl rfl (by unfold in64;omega) rfl (WO.p rfl rfl ?_)))))
           refine' WO.len (n:=_) rfl rfl ?hs rfl ?_
           case hs=>(first | exact hU.sl)
           refine WO.rem rfl rfl (by omega) rfl ?_
           rw [ix_mod]
           have hml:=Nat.mod_lt (i+k) (show 0<wo.length by omega)
           have hmu:=hbu _ hml
           refine' WO.indexAddr (n:=_) (i:=_) rfl rfl rfl ?hs ?h1 rfl ?_
           case hs=>(first | exact hU.sl)
           case h1=>(omega)
           refine' WO.load (v:=_) rfl rfl ?hc rfl ?_
           case hc=>(first | (refine hU.cell0 (i:=(i+k)%wo.length) ?_ 0 ?_ <;> first | rfl | omega))
           refine WO.conv64 rfl rfl rfl (by unfold in64;omega) rfl (WO.p rfl rfl (WO.nil ?_))
           refine W.drawD 28 [.r 0 [],.b 1 [],.r 2 [],.r 3 [],.r 4 [],.r 5 [],.b 6 [],.r 7 [],.r 8 [],.r 9 [],.b 10 [],.r 11 [],.r 12 [],.r 13 [],.b 14 [],.r 15 [],.r 16 [],.r 17 [],.r 18 [],.r 19 [],.r 20 [],.b 21 [],.r 22 [],.r 23 [],.r 24 [],.r 25 [],.r 26 [],.c 27 []] [] (A0:=[]) (Sub.refl _) (by kernel_rfl) ?_ ?_
           ·repeat constructor
           refine DT.r rfl rfl rfl (WO.fieldL rfl rfl rfl (WO.nil ⟨rfl,rfl⟩)) (DT.b rfl rfl rfl (WO.load rfl rfl (Cell.own (Pick.tail (Pick.head)) rfl) rfl (WO.nil ⟨rfl,rfl⟩)) (DT.r rfl rfl rfl (WO.p rfl rfl (WO.nil ⟨rfl,rfl⟩)) (DT.r rfl rfl rfl (WO.p rfl rfl (WO.nil ⟨rfl,rfl⟩)) ?_)))
           refine' DT.r rfl rfl rfl ?hq ?_
           case hq =>
            refine' WO.indexAddr (n:=_) (i:=_) rfl rfl rfl ?hs ?h1 rfl ?_
            case hs=>(first | exact hM.sl)
            case h1=>(omega)
            exact WO.nil ⟨rfl,rfl⟩
           refine DT.r rfl rfl rfl (WO.field rfl rfl rfl (WO.nil ⟨rfl,rfl⟩)) ?_
           refine' DT.b rfl rfl rfl ?hq ?_
           case hq =>
            refine' WO.load (v:=_) rfl rfl ?hc rfl ?_
            case hc=>((refine hM.cell1 (i:=i) ?_;omega))
            exact WO.nil ⟨rfl,rfl⟩
           refine DT.r rfl rfl rfl (WO.p rfl rfl (WO.nil ⟨rfl,rfl⟩)) ?_
           refine' DT.r rfl rfl rfl ?hq ?_
           case hq =>
            refine' WO.indexAddr (n:=_) (i:=_) rfl rfl rfl ?hs ?h1 rfl ?_
            case hs=>(first | exact (hM.row i (by omega)).sl)
            case h1=>(omega)
            exact WO.nil ⟨rfl,rfl⟩
           refine DT.r rfl rfl rfl (WO.field0 rfl rfl rfl (WO.nil ⟨rfl,rfl⟩)) ?_
           refine' DT.b rfl rfl rfl ?hq ?_
           case hq =>
            refine' WO.load (v:=_) rfl rfl ?hc rfl ?_
            case hc=>(first | (refine (hM.row i (by omega)).cell0 (i:=k) ?_ Tr.r0 ?_ <;> first | rfl | omega))
            exact WO.nil ⟨rfl,rfl⟩
           refine DT.r rfl rfl rfl (WO.p rfl rfl (WO.nil ⟨rfl,rfl⟩)) (DT.r rfl rfl rfl (WO.p rfl rfl (WO.nil ⟨rfl,rfl⟩)) ?_)
           refine' DT.r rfl rfl rfl ?hq ?_
           case hq =>
            refine' WO.indexAddr (n:=_) (i:=_) rfl rfl rfl ?hs ?h1 rfl ?_
            case hs=>(first | exact hgv)
            case h1=>(omega)
            exact WO.nil ⟨rfl,rfl⟩
           refine' DT.b rfl rfl rfl ?hq ?_
           case hq =>
            refine' WO.load (v:=_) rfl rfl ?hc rfl ?_
            case hc=>(first | (refine cellG (rs:=R.getD i []) (g:=gF (ms.getD i mv0).1 (R.getD i []) (TD.getD i []) v) (k:=k) ?_ ?_;exact ⟨_,(by repeat first | exact .head | apply Pick.tail)⟩;omega))
            exact WO.nil ⟨rfl,rfl⟩
           refine DT.r rfl rfl rfl (WO.p rfl rfl (WO.nil ⟨rfl,rfl⟩)) (DT.r rfl rfl rfl (WO.ar rfl rfl rfl (by unfold in64;omega) rfl (WO.nil ⟨rfl,rfl⟩)) (DT.r rfl rfl rfl (WO.max2 rfl rfl rfl (WO.nil ⟨rfl,rfl⟩)) (DT.r rfl rfl rfl (WO.p rfl rfl (WO.nil ⟨rfl,rfl⟩)) (DT.r rfl rfl rfl (WO.p rfl rfl (WO.nil ⟨rfl,rfl⟩)) ?_))))
           refine' DT.r rfl rfl rfl ?hq ?_
           case hq =>
            refine' WO.indexAddr (n:=_) (i:=_) rfl rfl rfl ?hs ?h1 rfl ?_
            case hs=>(first | exact hgv)
            case h1=>(omega)
            exact WO.nil ⟨rfl,rfl⟩
           refine' DT.b rfl rfl rfl ?hq ?_
           case hq =>
            refine' WO.load (v:=_) rfl rfl ?hc rfl ?_
            case hc=>(first | (refine cellG (rs:=R.getD i []) (g:=gF (ms.getD i mv0).1 (R.getD i []) (TD.getD i []) v) (k:=k) ?_ ?_;exact ⟨_,(by repeat first | exact .head | apply Pick.tail)⟩;omega))
            exact WO.nil ⟨rfl,rfl⟩
           refine DT.r rfl rfl rfl (WO.p rfl rfl (WO.nil ⟨rfl,rfl⟩)) (DT.r rfl rfl rfl (WO.ar rfl rfl rfl (by unfold in64;omega) rfl (WO.nil ⟨rfl,rfl⟩)) (DT.r rfl rfl rfl (WO.min2 rfl rfl rfl (WO.nil ⟨rfl,rfl⟩)) ?_))
           refine' DT.r rfl rfl rfl ?hq ?_
           case hq =>
            refine' WO.build (cs:=_) rfl rfl rfl ?hf rfl ?_
            case hf=>(conv=>lhs;simp [-List.getD_eq_getElem?_getD,fillL,vcl,wrl,TTab.pl?.lget']) <;> rfl
            exact WO.nil ⟨rfl,rfl⟩
           refine' DT.r rfl rfl rfl ?hq ?_
           case hq =>
            refine' WO.build (cs:=_) rfl rfl rfl ?hf rfl ?_
            case hf=>(conv=>lhs;simp [-List.getD_eq_getElem?_getD,fillL,vcl,wrl,TTab.pl?.lget']) <;> rfl
            exact WO.nil ⟨rfl,rfl⟩
           refine DT.c [_,_,_,_,_] rfl rfl rfl rfl ?_
           refine' WO.buildSl (cs:=_) rfl rfl rfl rfl ?hf rfl rfl ?hl rfl (fun v3=>?_)
           case hf=>(conv=>lhs;simp [-List.getD_eq_getElem?_getD,fillL,vcl,wrl,TTab.pl?.lget']) <;> rfl
           case hl=>rfl
           refine WO.nil ⟨_,[_],rfl,rfl,(Keep.r (Keep.r (Keep.r (Keep.r (Keep.r (Keep.b (Keep.r (Keep.r (Keep.r (Keep.r (Keep.r (Keep.r (Keep.b (Keep.r (Keep.r (Keep.r (Keep.b (Keep.r (Keep.r (Keep.r (Keep.b (Keep.r (Keep.r (Keep.r (Keep.r (Keep.b (Keep.r Keep.nil))))))))))))))))))))))))))),?_⟩
           refine DT.nil [_,_,_,_,_,_] rfl ?_
           first | (refine' WO.appendE (enc:=Tr.encR) (m:=1) (ys:=[(Tr.tm (R.getD i []) k,max 0 (gF (ms.getD i mv0).1 (R.getD i []) (TD.getD i []) v (k:Int)),min 20000 (gF (ms.getD i mv0).1 (R.getD i []) (TD.getD i []) v (k:Int)))]) Tr.encR_ok rfl rfl rfl rfl rfl (by repeat first | exact .head | apply Pick.tail) (Tr.isSl_lit (by omega) (fun _=>⟨_,_,rfl⟩)) (by omega) rfl (OwC.cells .head) (by rw [List.length_take,Tr.wdL_len];omega) (by rw [List.length_take,Tr.wdL_len];omega) rfl (fun ga gc=>?_)) | (refine' WO.appendE (enc:=Tr.encR) (m:=1) (ys:=[(Tr.tm (R.getD i []) k,max 0 (gF (ms.getD i mv0).1 (R.getD i []) (TD.getD i []) v (k:Int)-wo.getD ((i+k)%wo.length) 0),min 20000 (gF (ms.getD i mv0).1 (R.getD i []) (TD.getD i []) v (k:Int)+wo.getD ((i+k)%wo.length) 0))]) Tr.encR_ok rfl rfl rfl rfl rfl (by repeat first | exact .head | apply Pick.tail) (Tr.isSl_lit (by omega) (fun _=>⟨_,_,rfl⟩)) (by omega) rfl (OwC.cells .head) (by rw [List.length_take,Tr.wdL_len];omega) (by rw [List.length_take,Tr.wdL_len];omega) rfl (fun ga gc=>?_))
           rw [wd_1 (rs:=R.getD i []) (g:=(fun k:Nat=>gF (ms.getD i mv0).1 (R.getD i []) (TD.getD i []) v (k:Int))) (wo:=wo) (i:=i) (k:=k) (by assumption)]
           rw [Tr.wdL_take (rs:=R.getD i []) (g:=(fun k:Nat=>gF (ms.getD i mv0).1 (R.getD i []) (TD.getD i []) v (k:Int))) (n:=nkW wo i) (i:=k) (by omega)]
           refine WO.fieldL rfl rfl rfl (WO.store1 rfl rfl rfl (by rfl) (Pick.tail (Pick.tail (Pick.tail (Pick.head)))) rfl (WO.nil (W.region (WO.p rfl rfl (WO.ar rfl rfl rfl (by unfold in64;omega) rfl (WO.p rfl rfl (WO.nil ?_)))))))
           refine' ⟨k+1,_,?hp,?hmu,⟨rfl,rfl,rfl,rfl,rfl,rfl,rfl,rfl,rfl,trivial⟩,?hS⟩
           case hS=>repeat (first | exact Sub.nil | refine Sub.cons (by repeat first | exact .head | apply Pick.tail) ?_)
           case hp=>exact ⟨by omega,fun j hj=>lt_or hj (hgk j) (fun e=>e▸(by omega))⟩
           case hmu=>omega
          ·refine W.skip ?_
           refine W.drawD 28 [.r 0 [],.b 1 [],.r 2 [],.r 3 [],.r 4 [],.r 5 [],.b 6 [],.r 7 [],.r 8 [],.r 9 [],.b 10 [],.r 11 [],.r 12 [],.r 13 [],.b 14 [],.r 15 [],.r 16 [],.r 17 [],.r 18 [],.r 19 [],.r 20 [],.b 21 [],.r 22 [],.r 23 [],.r 24 [],.r 25 [],.r 26 [],.c 27 []] [] (A0:=[]) (Sub.refl _) (by kernel_rfl) ?_ ?_
           ·repeat constructor
           refine DT.r rfl rfl rfl (WO.fieldL rfl rfl rfl (WO.nil ⟨rfl,rfl⟩)) (DT.b rfl rfl rfl (WO.load rfl rfl (Cell.own (Pick.tail (Pick.head)) rfl) rfl (WO.nil ⟨rfl,rfl⟩)) (DT.r rfl rfl rfl (WO.p rfl rfl (WO.nil ⟨rfl,rfl⟩)) (DT.r rfl rfl rfl (WO.p rfl rfl (WO.nil ⟨rfl,rfl⟩)) ?_)))
           refine' DT.r rfl rfl rfl ?hq ?_
           case hq =>
            refine' WO.indexAddr (n:=_) (i:=_) rfl rfl rfl ?hs ?h1 rfl ?_
            case hs=>(first | exact hM.sl)
            case h1=>(omega)
            exact WO.nil ⟨rfl,rfl⟩
           refine DT.r rfl rfl rfl (WO.field rfl rfl rfl (WO.nil ⟨rfl,rfl⟩)) ?_
           refine' DT.b rfl rfl rfl ?hq ?_
           case hq =>
            refine' WO.load (v:=_) rfl rfl ?hc rfl ?_
            case hc=>((refine hM.cell1 (i:=i) ?_;omega))
            exact WO.nil ⟨rfl,rfl⟩
           refine DT.r rfl rfl rfl (WO.p rfl rfl (WO.nil ⟨rfl,rfl⟩)) ?_
           refine' DT.r rfl rfl rfl ?hq ?_
           case hq =>
            refine' WO.indexAddr (n:=_) (i:=_) rfl rfl rfl ?hs ?h1 rfl ?_
            case hs=>(first | exact (hM.row i (by omega)).sl)
            case h1=>(omega)
            exact WO.nil ⟨rfl,rfl⟩
           refine DT.r rfl rfl rfl (WO.field0 rfl rfl rfl (WO.nil ⟨rfl,rfl⟩)) ?_
           refine' DT.b rfl rfl rfl ?hq ?_
           case hq =>
            refine' WO.load (v:=_) rfl rfl ?hc rfl ?_
            case hc=>(first | (refine (hM.row i (by omega)).cell0 (i:=k) ?_ Tr.r0 ?_ <;> first | rfl | omega))
            exact WO.nil ⟨rfl,rfl⟩
           refine DT.r rfl rfl rfl (WO.p rfl rfl (WO.nil ⟨rfl,rfl⟩)) (DT.r rfl rfl rfl (WO.p rfl rfl (WO.nil ⟨rfl,rfl⟩)) ?_)
           refine' DT.r rfl rfl rfl ?hq ?_
           case hq =>
            refine' WO.indexAddr (n:=_) (i:=_) rfl rfl rfl ?hs ?h1 rfl ?_
            case hs=>(first | exact hgv)
            case h1=>(omega)
            exact WO.nil ⟨rfl,rfl⟩
           refine' DT.b rfl rfl rfl ?hq ?_
           case hq =>
            refine' WO.load (v:=_) rfl rfl ?hc rfl ?_
            case hc=>(first | (refine cellG (rs:=R.getD i []) (g:=gF (ms.getD i mv0).1 (R.getD i []) (TD.getD i []) v) (k:=k) ?_ ?_;exact ⟨_,(by repeat first | exact .head | apply Pick.tail)⟩;omega))
            exact WO.nil ⟨rfl,rfl⟩
           refine DT.r rfl rfl rfl (WO.p rfl rfl (WO.nil ⟨rfl,rfl⟩)) (DT.r rfl rfl rfl (WO.ar rfl rfl rfl (by unfold in64;omega) rfl (WO.nil ⟨rfl,rfl⟩)) (DT.r rfl rfl rfl (WO.max2 rfl rfl rfl (WO.nil ⟨rfl,rfl⟩)) (DT.r rfl rfl rfl (WO.p rfl rfl (WO.nil ⟨rfl,rfl⟩)) (DT.r rfl rfl rfl (WO.p rfl rfl (WO.nil ⟨rfl,rfl⟩)) ?_))))
           refine' DT.r rfl rfl rfl ?hq ?_
           case hq =>
            refine' WO.indexAddr (n:=_) (i:=_) rfl rfl rfl ?hs ?h1 rfl ?_
            case hs=>(first | exact hgv)
            case h1=>(omega)
            exact WO.nil ⟨rfl,rfl⟩
           refine' DT.b rfl rfl rfl ?hq ?_
           case hq =>
            refine' WO.load (v:=_) rfl rfl ?hc rfl ?_
            case hc=>(first | (refine cellG (rs:=R.getD i []) (g:=gF (ms.getD i mv0).1 (R.getD i []) (TD.getD i []) v) (k:=k) ?_ ?_;exact ⟨_,(by repeat first | exact .head | apply Pick.tail)⟩;omega))
            exact WO.nil ⟨rfl,rfl⟩
           refine DT.r rfl rfl rfl (WO.p rfl rfl (WO.nil ⟨rfl,rfl⟩)) (DT.r rfl rfl rfl (WO.ar rfl rfl rfl (by unfold in64;omega) rfl (WO.nil ⟨rfl,rfl⟩)) (DT.r rfl rfl rfl (WO.min2 rfl rfl rfl (WO.nil ⟨rfl,rfl⟩)) ?_))
           refine' DT.r rfl rfl rfl ?hq ?_
           case hq =>
            refine' WO.build (cs:=_) rfl rfl rfl ?hf rfl ?_
            case hf=>(conv=>lhs;simp [-List.getD_eq_getElem?_getD,fillL,vcl,wrl,TTab.pl?.lget']) <;> rfl
            exact WO.nil ⟨rfl,rfl⟩
           refine' DT.r rfl rfl rfl ?hq ?_
           case hq =>
            refine' WO.build (cs:=_) rfl rfl rfl ?hf rfl ?_
            case hf=>(conv=>lhs;simp [-List.getD_eq_getElem?_getD,fillL,vcl,wrl,TTab.pl?.lget']) <;> rfl
            exact WO.nil ⟨rfl,rfl⟩
           refine DT.c [_,_,_,_,_] rfl rfl rfl rfl ?_
           refine' WO.buildSl (cs:=_) rfl rfl rfl rfl ?hf rfl rfl ?hl rfl (fun v4=>?_)
           case hf=>(conv=>lhs;simp [-List.getD_eq_getElem?_getD,fillL,vcl,wrl,TTab.pl?.lget']) <;> rfl
           case hl=>rfl
           refine WO.nil ⟨_,[_],rfl,rfl,(Keep.r (Keep.r (Keep.r (Keep.r (Keep.r (Keep.b (Keep.r (Keep.r (Keep.r (Keep.r (Keep.r (Keep.r (Keep.b (Keep.r (Keep.r (Keep.r (Keep.b (Keep.r (Keep.r (Keep.r (Keep.b (Keep.r (Keep.r (Keep.r (Keep.r (Keep.b (Keep.r Keep.nil))))))))))))))))))))))))))),?_⟩
           refine DT.nil [_,_,_,_,_,_] rfl ?_
           first | (refine' WO.appendE (enc:=Tr.encR) (m:=1) (ys:=[(Tr.tm (R.getD i []) k,max 0 (gF (ms.getD i mv0).1 (R.getD i []) (TD.getD i []) v (k:Int)),min 20000 (gF (ms.getD i mv0).1 (R.getD i []) (TD.getD i []) v (k:Int)))]) Tr.encR_ok rfl rfl rfl rfl rfl (by repeat first | exact .head | apply Pick.tail) (Tr.isSl_lit (by omega) (fun _=>⟨_,_,rfl⟩)) (by omega) rfl (OwC.cells .head) (by rw [List.length_take,Tr.wdL_len];omega) (by rw [List.length_take,Tr.wdL_len];omega) rfl (fun ga gc=>?_)) | (refine' WO.appendE (enc:=Tr.encR) (m:=1) (ys:=[(Tr.tm (R.getD i []) k,max 0 (gF (ms.getD i mv0).1 (R.getD i []) (TD.getD i []) v (k:Int)-wo.getD ((i+k)%wo.length) 0),min 20000 (gF (ms.getD i mv0).1 (R.getD i []) (TD.getD i []) v (k:Int)+wo.getD ((i+k)%wo.length) 0))]) Tr.encR_ok rfl rfl rfl rfl rfl (by repeat first | exact .head | apply Pick.tail) (Tr.isSl_lit (by omega) (fun _=>⟨_,_,rfl⟩)) (by omega) rfl (OwC.cells .head) (by rw [List.length_take,Tr.wdL_len];omega) (by rw [List.length_take,Tr.wdL_len];omega) rfl (fun ga gc=>?_))
           rw [wd_0 (rs:=R.getD i []) (g:=(fun k:Nat=>gF (ms.getD i mv0).1 (R.getD i []) (TD.getD i []) v (k:Int))) (wo:=wo) (i:=i) (k:=k) (by assumption)]
           rw [Tr.wdL_take (rs:=R.getD i []) (g:=(fun k:Nat=>gF (ms.getD i mv0).1 (R.getD i []) (TD.getD i []) v (k:Int))) (n:=nkW wo i) (i:=k) (by omega)]
           refine WO.fieldL rfl rfl rfl (WO.store1 rfl rfl rfl (by rfl) (Pick.tail (Pick.tail (Pick.tail (Pick.head)))) rfl (WO.nil (W.region (WO.p rfl rfl (WO.ar rfl rfl rfl (by unfold in64;omega) rfl (WO.p rfl rfl (WO.nil ?_)))))))
           refine' ⟨k+1,_,?hp,?hmu,⟨rfl,rfl,rfl,rfl,rfl,rfl,rfl,rfl,rfl,trivial⟩,?hS⟩
           case hS=>repeat (first | exact Sub.nil | refine Sub.cons (by repeat first | exact .head | apply Pick.tail) ?_)
           case hp=>exact ⟨by omega,fun j hj=>lt_or hj (hgk j) (fun e=>e▸(by omega))⟩
           case hmu=>omega
       ·refine W.exit (blk_same ?_)
        obtain hkn:k=(R.getD i []).length:=by omega
        subst hkn
        rw [List.take_of_length_le (by rw [Tr.wdL_len];exact Nat.le_refl _)]
        have hsp:=Tr.wd_span (n:=nkW wo i) (g:=fun k:Nat=>gF (ms.getD i mv0).1 (R.getD i []) (TD.getD i []) v (k:Int)) hV (fun _ _=>rfl) hgk (fun k=>(nk_in hbu i k).1) (Tr.gr_sum hV _ v)
        have hV2:=Tr.wdL_VT (n:=nkW wo i) hV hgk (fun k=>(nk_in hbu i k).1)
        obtain ⟨P,hP⟩:∃ P,Tr.loQ (ms.getD i mv0).1 (R.getD i []) (fun k:Nat=>gF (ms.getD i mv0).1 (R.getD i []) (TD.getD i []) v (k:Int)) (nkW wo i)=P:=⟨_,rfl⟩
        obtain ⟨Q,hQ⟩:∃ Q,Tr.hiQ (ms.getD i mv0).1 (R.getD i []) (fun k:Nat=>gF (ms.getD i mv0).1 (R.getD i []) (TD.getD i []) v (k:Int)) (nkW wo i)=Q:=⟨_,rfl⟩
        rw [hP,hQ] at hsp
        obtain ⟨hPs,hQs,hPv,hQv⟩:=hsp
        have hP1:=hPs.1.1
        have hP2:=hPs.1.2
        have hQ1:=hQs.1.1
        have hQ2:=hQs.1.2
        have hup:=Tr.up_le hP1.1 hP2.1 hPv
        have hdn:=Tr.dn_ge hQ1.1 hQ2.1 hQv hQ2.2
        refine W.sreg (WO.loadA rfl rfl (Cells.own (Pick.tail (Pick.head))) rfl rfl (WO.callR (r:=.tuple #[.agg #[.int .i64 P.1,.int .i64 P.2,.int .i64 Q.1,.int .i64 Q.2],.int .i64 0]) rfl Tryz.call9 (fun L w hi=>by have h:=Tr.c_Span w (ms.getD i mv0).1 _ (Tr.wdL (R.getD i []) (fun k:Nat=>gF (ms.getD i mv0).1 (R.getD i []) (TD.getD i []) v (k:Int)) (nkW wo i)) (RdF.of_ow (e:=44) Tr.encR_ok (by repeat first | exact .head | apply Pick.tail) hi);rw [← Tr.spanR_0 hV2.to] at h;rw [← hP,← hQ];exact h) rfl (WO.p rfl rfl (WO.p rfl rfl (WO.p rfl rfl (WO.alloc rfl rfl rfl (fun b5 hb5=>(WO.storeA rfl rfl rfl rfl Pick.head rfl rfl (WO.p rfl rfl ?_)))))))))
        refine WO.nil (W.seq (W.sreg (WO.p rfl rfl (WO.neqF rfl rfl (by omega) rfl (WO.p rfl rfl (WO.go' rfl (WO.field0 rfl rfl rfl (WO.go' rfl (WO.loadA rfl rfl (Cells.ownAt (n:=2) Pick.head rfl) rfl rfl (WO.go' rfl (WO.callR (r:=.bool true) rfl Tryz.call10 (fun L w hi=>by have h:=Tr.ref_IsSpeed w P.1 P.2;rw [Tr.isSB_t.2 hPs] at h;exact h) rfl (WO.pg rfl rfl rfl (WO.p rfl rfl (WO.p rfl rfl (WO.go' rfl (WO.fieldL rfl rfl rfl (WO.go' rfl (WO.loadA rfl rfl (Cells.ownAt (n:=2) Pick.head rfl) rfl rfl (WO.go' rfl ?_)))))))))))))))))))
        refine WO.callR (r:=.bool true) rfl Tryz.call10 (fun L w hi=>by have h:=Tr.ref_IsSpeed w Q.1 Q.2;rw [Tr.isSB_t.2 hQs] at h;exact h) rfl (WO.pg rfl rfl rfl (WO.p rfl rfl (WO.p rfl rfl (WO.go' rfl (WO.field0 rfl rfl rfl (WO.go' rfl (WO.field0 rfl rfl rfl (WO.go' rfl (WO.load rfl rfl (Cell.own Pick.head rfl) rfl (WO.pg rfl rfl rfl (WO.go' rfl (WO.field0 rfl rfl rfl (WO.go' rfl (WO.fieldL rfl rfl rfl (WO.go' rfl (WO.load rfl rfl (Cell.own Pick.head rfl) rfl (WO.go' rfl (WO.ar rfl rfl rfl (by (first | (unfold in64;have:=mul_sp (v:=v) (d:=P.2) (by omega) hPs.1.1;omega))) rfl (WO.go' rfl (WO.gtrF rfl rfl (by omega) rfl ?_))))))))))))))))))))
        refine WO.p rfl rfl (WO.p rfl rfl (WO.go' rfl (WO.fieldL rfl rfl rfl (WO.go' rfl (WO.field0 rfl rfl rfl (WO.go' rfl (WO.load rfl rfl (Cell.own Pick.head rfl) rfl (WO.pg rfl rfl rfl (WO.go' rfl (WO.fieldL rfl rfl rfl (WO.go' rfl (WO.fieldL rfl rfl rfl (WO.go' rfl (WO.load rfl rfl (Cell.own Pick.head rfl) rfl (WO.go' rfl (WO.ar rfl rfl rfl (by (first | (unfold in64;have:=mul_sp (v:=v) (d:=Q.2) (by omega) hQs.1.1;omega))) rfl (WO.go' rfl (WO.lssF rfl rfl (by omega) rfl (WO.p rfl rfl (WO.nil (W.cond_f rfl (W.skip (W.sreg ?_)))))))))))))))))))))))
        refine WO.field0 rfl rfl rfl (WO.field0 rfl rfl rfl (WO.load rfl rfl (Cell.own Pick.head rfl) rfl (WO.field0 rfl rfl rfl (WO.fieldL rfl rfl rfl (WO.load rfl rfl (Cell.own Pick.head rfl) rfl (WO.ar rfl rfl rfl (by unfold in64;omega) rfl (WO.ar rfl rfl rfl (by unfold in64;omega) rfl (WO.field0 rfl rfl rfl (WO.fieldL rfl rfl rfl (WO.load rfl rfl (Cell.own Pick.head rfl) rfl (WO.quo rfl rfl (by omega) (by unfold in64;omega) rfl (WO.p rfl rfl (WO.nil ?_)))))))))))))
        refine W.drawD 14 [.r 0 [],.b 1 [],.r 2 [],.r 3 [],.r 4 [],.r 5 [],.b 6 [],.r 7 [],.r 8 [],.b 9 [],.r 10 [],.r 11 [],.r 12 [],.c 13 []] [] (A0:=[]) (Sub.refl _) (by kernel_rfl) ?_ ?_
        ·repeat constructor
        refine DT.r rfl rfl rfl (WO.fieldL rfl rfl rfl (WO.nil ⟨rfl,rfl⟩)) (DT.b rfl rfl rfl (WO.load rfl rfl (Cell.own (Pick.tail (Pick.head)) rfl) rfl (WO.nil ⟨rfl,rfl⟩)) (DT.r rfl rfl rfl (WO.p rfl rfl (WO.nil ⟨rfl,rfl⟩)) (DT.r rfl rfl rfl (WO.p rfl rfl (WO.nil ⟨rfl,rfl⟩)) (DT.r rfl rfl rfl (WO.fieldL rfl rfl rfl (WO.nil ⟨rfl,rfl⟩)) (DT.r rfl rfl rfl (WO.field0 rfl rfl rfl (WO.nil ⟨rfl,rfl⟩)) (DT.b rfl rfl rfl (WO.load rfl rfl (Cell.own Pick.head rfl) rfl (WO.nil ⟨rfl,rfl⟩)) (DT.r rfl rfl rfl (WO.fieldL rfl rfl rfl (WO.nil ⟨rfl,rfl⟩)) (DT.r rfl rfl rfl (WO.fieldL rfl rfl rfl (WO.nil ⟨rfl,rfl⟩)) ?_))))))))
        refine DT.b rfl rfl rfl (WO.load rfl rfl (Cell.own Pick.head rfl) rfl (WO.nil ⟨rfl,rfl⟩)) (DT.r rfl rfl rfl (WO.quo rfl rfl (by omega) (by unfold in64;omega) rfl (WO.nil ⟨rfl,rfl⟩)) ?_)
        refine' DT.r rfl rfl rfl ?hq ?_
        case hq =>
         refine' WO.build (cs:=_) rfl rfl rfl ?hf rfl ?_
         case hf=>(conv=>lhs;simp [-List.getD_eq_getElem?_getD,fillL,vcl,wrl,TTab.pl?.lget']) <;> rfl
         exact WO.nil ⟨rfl,rfl⟩
        refine' DT.r rfl rfl rfl ?hq ?_
        case hq =>
         refine' WO.build (cs:=_) rfl rfl rfl ?hf rfl ?_
         case hf=>(conv=>lhs;simp [-List.getD_eq_getElem?_getD,fillL,vcl,wrl,TTab.pl?.lget']) <;> rfl
         exact WO.nil ⟨rfl,rfl⟩
        refine DT.c [_,_,_,_,_,_] rfl rfl rfl rfl ?_
        refine' WO.buildSl (cs:=_) rfl rfl rfl rfl ?hf rfl rfl ?hl rfl (fun v6=>?_)
        case hf=>(conv=>lhs;simp [-List.getD_eq_getElem?_getD,fillL,vcl,wrl,TTab.pl?.lget']) <;> rfl
        case hl=>rfl
        refine WO.nil ⟨_,[_],rfl,rfl,(Keep.r (Keep.r (Keep.r (Keep.b (Keep.r (Keep.r (Keep.b (Keep.r (Keep.r (Keep.r (Keep.r (Keep.b (Keep.r Keep.nil))))))))))))),?_⟩
        refine DT.nil [_,_,_,_,_,_,_] rfl ?_
        refine' WO.appendE (enc:=encT) (m:=1) (ys:=[⟨(i:Int),0,(P.1+P.2-1).tdiv P.2,Q.1.tdiv Q.2⟩]) encT_ok rfl rfl rfl rfl rfl (by repeat first | exact .head | apply Pick.tail) (Tr.isSl_lit (by omega) (fun _=>⟨_,_,rfl⟩)) (by omega) rfl (OwC.cells .head) (by rw [tsW_len];omega) (by rw [tsW_len];omega) rfl (fun ga gc=>?_)
        rw [show tsW ws++[(⟨(i:Int),0,(P.1+P.2-1).tdiv P.2,Q.1.tdiv Q.2⟩:Ts)]=tsW (ws++[((P.1+P.2-1).tdiv P.2,Q.1.tdiv Q.2)]) from by rw [← hwl];exact tsW_snoc ws _ _]
        refine WO.fieldL rfl rfl rfl (WO.store1 rfl rfl rfl (by rfl) (Pick.tail (Pick.tail (Pick.tail (Pick.head)))) rfl (WO.nil (W.region (WO.p rfl rfl (WO.ar rfl rfl rfl (by unfold in64;omega) rfl (WO.p rfl rfl (WO.nil ?_)))))))
        refine' ⟨i+1,_,ws++[((P.1+P.2-1).tdiv P.2,Q.1.tdiv Q.2)],?hp,?hmu,⟨rfl,rfl,rfl,rfl,rfl,rfl,trivial⟩,?hS⟩
        case hS=>repeat (first | exact Sub.nil | refine Sub.cons (by repeat exact .head) ?_)
        case hp=>exact ⟨by omega,by rw [List.length_append,List.length_singleton];omega,hws.snoc hup hdn⟩
        case hmu=>omega
    ·refine W.exit (blk_same (W.seq ?_))
     have hl:ws.length=R.length:=by omega
     have hok:OkW ws v:=hws.ok (by omega)
     have hflo:=fin_lo hok
     have hfhi:=fin_hi hok
     have hts:=tsW_len ws
     refine W.sreg (WO.loadA rfl rfl (Cells.own Pick.head) rfl rfl (WO.callR rfl Tryz.call11 (fun L w hi=>k_Table w _ ws v hl hok (RdF.of_ow (e:=53) encT_ok (by repeat first | exact .head | apply Pick.tail) hi)) rfl (WO.neqF rfl rfl (by omega) rfl (WO.nil (W.cond_f rfl (W.skip (W.sreg (WO.p rfl rfl ?_))))))))
     refine' WO.len (n:=_) rfl rfl ?hs rfl ?_
     case hs=>(first | exact hM.sl)
     refine WO.makeI rfl rfl rfl rfl (by omega) (by omega) rfl (fun lb=>(WO.p rfl rfl ?_))
     refine' WO.buildSl (cs:=_) rfl rfl rfl rfl ?hf rfl rfl ?hl rfl (fun v7=>?_)
     case hf=>(conv=>lhs;simp [-List.getD_eq_getElem?_getD,fillL,vcl,wrl,TTab.pl?.lget']) <;> rfl
     case hl=>rfl
     refine' WO.build (cs:=_) rfl rfl rfl ?hf rfl ?_
     case hf=>(conv=>lhs;simp [-List.getD_eq_getElem?_getD,fillL,vcl,wrl,TTab.pl?.lget']) <;> rfl
     refine WO.alloc rfl rfl rfl (fun b8 hb8=>(WO.storeA rfl rfl rfl rfl Pick.head rfl rfl (WO.nil (W.seq (W.sreg (WO.loadA rfl rfl (Cells.own (Pick.tail (Pick.tail (Pick.tail (Pick.head))))) rfl rfl (WO.loadA rfl rfl (Cells.own Pick.head) rfl rfl (WO.callR rfl Tryz.call12 (fun L w hi=>k_Truth w _ _ _ ws v hl hok (RdF.of_ow (e:=53) encT_ok (by repeat first | exact .head | apply Pick.tail) hi) (RdF.of_ow (e:=2) encI_ok (by repeat first | exact .head | apply Pick.tail) hi) (RdF.of_ow (e:=2) encI_ok (by repeat first | exact .head | apply Pick.tail) hi)) rfl (WO.neqF rfl rfl (by omega) rfl (WO.nil (W.cond_f rfl (W.skip (W.sreg ?_)))))))))))))
     refine WO.loadA rfl rfl (Cells.own (Pick.tail (Pick.tail (Pick.tail (Pick.head))))) rfl rfl (WO.callE rfl Tryz.call13 (fun L w hi=>k_True w _ ws v hl hok (RdF.of_ow (e:=53) encT_ok (by repeat first | exact .head | apply Pick.tail) hi)) rfl ?_)
     rintro _ ⟨tx,ty,rfl,htx,hty⟩
     refine WO.p rfl rfl (WO.p rfl rfl (WO.p rfl rfl (WO.alloc rfl rfl rfl (fun b9 hb9=>(WO.storeA rfl rfl rfl rfl Pick.head rfl (by rw [List.all_cons,htx,List.all_cons,hty];rfl) (WO.p rfl rfl (WO.nil (W.sreg (WO.loadA rfl rfl (Cells.own (Pick.tail (Pick.tail (Pick.tail (Pick.tail (Pick.head)))))) rfl rfl (WO.callR rfl Tryz.call14 (fun L w hi=>k_Ring w _ ws v hl hok (RdF.of_ow (e:=53) encT_ok (by repeat first | exact .head | apply Pick.tail) hi)) rfl (WO.p rfl rfl (WO.p rfl rfl (WO.p rfl rfl (WO.p rfl rfl (WO.p rfl rfl (WO.nil (W.sreg (WO.loadA rfl rfl (Cells.own (Pick.tail (Pick.tail (Pick.tail (Pick.tail (Pick.head)))))) rfl rfl ?_))))))))))))))))))
     refine WO.callR rfl Tryz.call15 (fun L w hi=>k_Spread w _ ws v hl hok (RdF.of_ow (e:=53) encT_ok (by repeat first | exact .head | apply Pick.tail) hi)) rfl (WO.p rfl rfl (WO.p rfl rfl (WO.p rfl rfl (WO.alloc rfl rfl rfl (fun b10 hb10=>(WO.storeA rfl rfl rfl rfl Pick.head rfl rfl (WO.p rfl rfl (WO.nil (W.seq (W.sreg (WO.p rfl rfl (WO.neqF rfl rfl (by omega) rfl (WO.p rfl rfl (WO.pg rfl rfl rfl (WO.go' rfl (WO.neqF rfl rfl (by omega) rfl (WO.p rfl rfl (WO.p rfl rfl (WO.pg rfl rfl rfl (WO.go' rfl (WO.neqF rfl rfl (by omega) rfl ?_)))))))))))))))))))))
     refine WO.p rfl rfl (WO.p rfl rfl (WO.pg rfl rfl rfl (WO.go' rfl (WO.field0 rfl rfl rfl (WO.go' rfl (WO.load rfl rfl (Cell.own Pick.head rfl) rfl (WO.go' rfl (WO.lssF rfl rfl (by omega) rfl (WO.p rfl rfl (WO.p rfl rfl (WO.pg rfl rfl rfl (WO.go' rfl (WO.fieldL rfl rfl rfl (WO.go' rfl (WO.load rfl rfl (Cell.own Pick.head rfl) rfl (WO.go' rfl (WO.gtrF rfl rfl (by omega) rfl (WO.p rfl rfl (WO.nil (W.cond_f rfl (W.skip (W.seq (W.sreg (WO.p rfl rfl (WO.nil (W.block ?_))))))))))))))))))))))))))
     refine W.loop (fun (q:Nat)=>q≤(tsW ws).length)
      (fun (q:Nat)=>[(27,.int .i64 (q:Int)),(25,.pointer (some ⟨b10,0,none⟩)),(10,.pointer (some ⟨b1,0,none⟩))])
      (fun (q:Nat)=>[pt b1 (.cells #[.int .i64 (R.length:Int),.int .i64 1,.int .i64 0,.int .i64 0,l] 31 (0,0)),pt b10 (.cells #[.int .i64 (loF ws),.int .i64 (hiF ws)] 28 (0,0)),OwE encT 53 4 l (tsW ws)])
      (fun (q:Nat)=>(tsW ws).length-q) 0
      (by omega) ⟨rfl,rfl,rfl,trivial⟩ (by repeat (first | exact Sub.nil | refine Sub.cons (by repeat first | exact .head | apply Pick.tail) ?_)) ?_
     rintro q hq0
     refine W.seq (W.fact (OwE.sl (enc:=encT) (e:=53) (sz:=4) (xs:=tsW ws) (by repeat first | exact .head | apply Pick.tail)) (fun hsl=>(W.sreg (WO.p rfl rfl (WO.fieldL rfl rfl rfl (WO.load rfl rfl (Cell.own Pick.head rfl) rfl ?_))))))
     refine' WO.len (n:=_) rfl rfl ?hs rfl ?_
     case hs=>exact hsl
     refine WO.p rfl rfl (WO.nil ?_)
     refine W.cond_bl rfl (fun c11=>?_) (fun c11=>?_)
     ·refine W.skip (W.seq (W.block (W.seq ?_)))
      refine W.drawD 20 [.r 0 [],.b 1 [],.r 2 [],.b 3 [],.r 4 [],.r 5 [],.r 6 [],.r 7 [],.b 8 [],.r 9 [],.r 10 [],.r 11 [],.b 12 [],.r 13 [],.b 14 [],.r 15 [],.r 16 [],.r 17 [],.r 18 [],.b 19 []] [] (A0:=[]) (Sub.refl _) (by kernel_rfl) ?_ ?_
      ·repeat constructor
      refine DT.r rfl rfl rfl (WO.field0 rfl rfl rfl (WO.nil ⟨rfl,rfl⟩)) (DT.b rfl rfl rfl (WO.load rfl rfl (Cell.own (Pick.tail (Pick.head)) rfl) rfl (WO.nil ⟨rfl,rfl⟩)) (DT.r rfl rfl rfl (WO.fieldL rfl rfl rfl (WO.nil ⟨rfl,rfl⟩)) (DT.b rfl rfl rfl (WO.load rfl rfl (Cell.own Pick.head rfl) rfl (WO.nil ⟨rfl,rfl⟩)) (DT.r rfl rfl rfl (WO.p rfl rfl (WO.nil ⟨rfl,rfl⟩)) ?_))))
      refine' DT.r rfl rfl rfl ?hq ?_
      case hq =>
       refine' WO.indexAddr (n:=_) (i:=_) rfl rfl rfl ?hs ?h1 rfl ?_
       case hs=>exact hsl
       case h1=>(omega)
       exact WO.nil ⟨rfl,rfl⟩
      refine DT.r rfl rfl rfl (WO.field rfl rfl rfl (WO.nil ⟨rfl,rfl⟩)) (DT.r rfl rfl rfl (WO.field0 rfl rfl rfl (WO.nil ⟨rfl,rfl⟩)) ?_)
      refine' DT.b rfl rfl rfl ?hq ?_
      case hq =>
       refine' WO.load (v:=_) rfl rfl ?hc rfl ?_
       case hc=>(first | (refine cellTs (ws:=ws) (q:=q) (j:=2) ?_ ?_ ?_;exact ⟨_,(by repeat first | exact .head | apply Pick.tail)⟩;omega;rfl))
       exact WO.nil ⟨rfl,rfl⟩
      refine DT.r rfl rfl rfl (WO.lssF rfl rfl (by have:=hflo.2 q (by omega);omega) rfl (WO.nil ⟨rfl,rfl⟩)) (DT.r rfl rfl rfl (WO.p rfl rfl (WO.nil ⟨rfl,rfl⟩)) (DT.r rfl rfl rfl (WO.go' rfl (WO.fieldL rfl rfl rfl (WO.nil ⟨rfl,rfl⟩))) (DT.b rfl rfl rfl (WO.go' rfl (WO.load rfl rfl (Cell.own (Pick.tail (Pick.head)) rfl) rfl (WO.nil ⟨rfl,rfl⟩))) (DT.r rfl rfl rfl (WO.go' rfl (WO.fieldL rfl rfl rfl (WO.nil ⟨rfl,rfl⟩))) (DT.b rfl rfl rfl (WO.go' rfl (WO.load rfl rfl (Cell.own Pick.head rfl) rfl (WO.nil ⟨rfl,rfl⟩))) (DT.r rfl rfl rfl (WO.pg rfl rfl rfl (WO.nil ⟨rfl,rfl⟩)) ?_))))))
      refine' DT.r rfl rfl rfl ?hq ?_
      case hq =>
       refine WO.go' rfl ?_
       refine' WO.indexAddr (n:=_) (i:=_) rfl rfl rfl ?hs ?h1 rfl ?_
       case hs=>exact hsl
       case h1=>(omega)
       exact WO.nil ⟨rfl,rfl⟩
      refine DT.r rfl rfl rfl (WO.go' rfl (WO.field rfl rfl rfl (WO.nil ⟨rfl,rfl⟩))) (DT.r rfl rfl rfl (WO.go' rfl (WO.field rfl rfl rfl (WO.nil ⟨rfl,rfl⟩))) ?_)
      refine' DT.b rfl rfl rfl ?hq ?_
      case hq =>
       refine WO.go' rfl ?_
       refine' WO.load (v:=_) rfl rfl ?hc rfl ?_
       case hc=>(first | (refine cellTs1 (ws:=ws) (q:=q) ?_ ?_ ?_;exact ⟨_,(by repeat first | exact .head | apply Pick.tail)⟩;omega;rfl))
       exact WO.nil ⟨rfl,rfl⟩
      refine DT.nil [_,_,_] rfl (WO.go' rfl (WO.gtrF rfl rfl (by have:=hfhi.2 q (by omega);omega) rfl (WO.p rfl rfl (WO.nil (W.cond_f rfl (W.skip (W.region (WO.p rfl rfl (WO.ar rfl rfl rfl (by unfold in64;omega) rfl (WO.p rfl rfl (WO.nil ?_)))))))))))
      refine' ⟨q+1,?hp,?hmu,⟨rfl,rfl,rfl,trivial⟩,?hS⟩
      case hS=>repeat (first | exact Sub.nil | refine Sub.cons (by repeat exact .head) ?_)
      case hp=>omega
      case hmu=>omega
     ·refine W.exit (blk_same (W.sreg (WO.callR rfl Tryz.call4 (fun L w hi=>hW w) rfl (WO.p rfl rfl (WO.nil (W.ret ?_))))))
      exact fin.ret (Res.one rfl (RV.tmp rfl)) rfl
end Go.Proofs.YtoapkhkdnbcilaaGreat
namespace Go.TX
open Go Go.TH
noncomputable section
variable {ρ:Ren} {N:Nat} {env:Tr SV} {a:Act} {P:Program} {D:Nat→Prop} {st st':St} {w:World}

/-! ### Parts of values -/
def ptS (P:Program) (T:TypeId) (l:List SV) (o:Nat):Option SV:=match isAggB P T with
  | some true=>match szv P T with
    | some n=>subK l o n fun vs=>some (.agg vs)
    | none=>none
  | some false=>nth l o
  | none=>none
theorem ptS_ok {T:Nat} {l:List SV} {us:List Value} {o:Nat} {v:SV} (hl:RelL ρ l us) (h:ptS P T l o=some v):∃ u,(part T us.toArray o).run P w=.ok u w∧Rel ρ v u:=by
  unfold ptS at h
  split at h
  · rename_i hagg
    split at h
    · rename_i n hn
      obtain ⟨h1,h2⟩:=subK_some h
      simp only [Option.some.injEq] at h2
      subst h2
      refine ⟨.agg ((us.drop o).take n).toArray,?_,by rw [Rel];exact ⟨_,(hl.drop o).take n,rfl⟩⟩
      simp only [part,Sem.run_bind,run_isAgg hagg,Result.andThen_ok,if_true,TH.run_sizeOf hn]
      simp [List.extract_eq_take_drop]
    · cases h
  · rename_i hagg
    rw [nth_eq] at h
    obtain ⟨u,hu,hr⟩:=hl.at h
    refine ⟨u,?_,hr⟩
    simp only [part,Sem.run_bind,run_isAgg hagg,Result.andThen_ok]
    simp [hu]
  · cases h
def fdS (P:Program) (T f:Nat) (x:SV):Option SV:=match x with
  | .agg l=>match P.underlying T with
    | some (.struct fs)=>match fs[f]? with
      | some fd=>ptS P fd.type l fd.offset
      | none=>none
    | _=>none
  | _=>none
theorem fdS_ok {T f:Nat} {x v:SV} {u:Value} (hx:Rel ρ x u) (h:fdS P T f x=some v):∃ z,(Instr.field T u f).run P w=.ok z w∧Rel ρ v z:=by
  cases x <;> simp only [fdS] at h <;> try (cases h;done)
  rename_i l
  rw [Rel] at hx
  obtain ⟨us,hl,rfl⟩:=hx
  split at h
  · rename_i fs hu
    split at h
    · rename_i fd hf
      obtain ⟨z,h1,h2⟩:=ptS_ok (w:=w) hl h
      refine ⟨z,?_,h2⟩
      simp [Instr.field,run_underlying hu,hf,asAgg,h1]
    · cases h
  · cases h
def ixS (P:Program) (T:Nat) (x i:SV):Option SV:=match x with
  | .agg l=>match i with
    | .raw (.int _ (.ofNat i))=>match arT P T with
      | some (len,e,sz)=>bif Nat.blt i len then ptS P e l (i*sz) else none
      | none=>none
    | _=>none
  | .raw u=>match i with
    | .raw z=>match pv P (Instr.index T u z) with
      | some (.int k n)=>some (.raw (.int k n))
      | _=>none
    | _=>none
  | _=>none
theorem ixS_ok {T:Nat} {x i v:SV} {u z:Value} (hx:Rel ρ x u) (hi:Rel ρ i z) (h:ixS P T x i=some v):∃ q,(Instr.index T u z).run P w=.ok q w∧Rel ρ v q:=by
  unfold ixS at h
  split at h
  · rename_i l
    rw [Rel] at hx
    obtain ⟨us,hl,rfl⟩:=hx
    split at h
    · rename_i k i'
      rw [Rel] at hi
      subst hi
      split at h
      · rename_i len e sz har
        have hA:=arT_ok har
        cases h1:Nat.blt i' len with
        | false=>rw [h1] at h;cases h
        | true =>
          rw [h1,cond_true] at h
          have h1:=Nat.blt_eq.mp h1
          obtain ⟨q,h2,h3⟩:=ptS_ok (w:=w) hl h
          refine ⟨q,?_,h3⟩
          have g1:(i':Int)<(len:Int):=by omega
          simp [Instr.index,asIntOf,run_underlying hA.u,g1,h1,TH.run_sizeOf hA.size,h2]
      · cases h
    · cases h
  · rename_i u0
    rw [Rel] at hx
    subst hx
    split at h
    · rename_i z0
      rw [Rel] at hi
      subst hi
      split at h
      · rename_i k n hp
        simp only [Option.some.injEq] at h
        exact ⟨_,pv_run hp w,by rw [← h,Rel]⟩
      · cases h
    · cases h
  · cases h
def exS (x:SV) (i:Nat):Option SV:=match x with
  | .tup l=>nth l i
  | _=>none
theorem exS_ok {x v:SV} {i:Nat} {u:Value} (hx:Rel ρ x u) (h:exS x i=some v):∃ z,(Instr.extract u i).run P w=.ok z w∧Rel ρ v z:=by
  cases x <;> simp only [exS] at h <;> try (cases h;done)
  rename_i l
  rw [Rel] at hx
  obtain ⟨us,hl,rfl⟩:=hx
  rw [nth_eq] at h
  obtain ⟨z,hz,hr⟩:=hl.at h
  exact ⟨z,by simp [Instr.extract,hz],hr⟩

/-! ### Lengths -/
def lnS (P:Program) (T:Nat) (x:SV) (st:St):Option (SV × St):=match P.underlying T with
  | some (.slice _)=>match x with
    | .sl _ _ n _=>some (.raw (.int .i64 (.ofNat n)),st)
    | .sl0=>some (.raw (.int .i64 0),st)
    | .raw (.slice _ n _)=>some (.raw (.int .i64 (.ofNat n)),st)
    | _=>none
  | some (.map _ _)=>match x with
    | .raw (.map none)=>some (.raw (.int .i64 0),st)
    | .map b=>match st with
      | ⟨h,nx,bs,R,W⟩=>match h.get b with
        | some (.map es _)=>insK bs b R fun R'=>natK (llen es) fun n=>some (.raw (.int .i64 (.ofNat n)),⟨h,nx,bs,R',W⟩)
        | _=>none
    | _=>none
  | _=>none
theorem MRel.len {es:List SEnt}:∀ {ms:List MapEntry},MRel ρ es ms→ms.length=es.length:=by
  induction es with
  | nil=>intro ms h;rw [MRel] at h;rw [h];rfl
  | cons e es ih=>intro ms h;rw [MRel] at h;obtain ⟨m,r,rfl,_,_,_,h5⟩:=h;simp [ih h5]
theorem lnS_ok {T ty:Nat} {x v:SV} {u:Value} (hx:Rel ρ x u) (h:lnS P T x st=some (v,st')) (hs:Sim ρ D st w) (hD:∀ x,x∈st'.R∨st.base≤x→D x):Did P ρ D st st' w v (Builtin.len_ #[T] ty #[u]):=by
  unfold lnS at h
  split at h
  · rename_i e hu
    split at h <;> try (cases h;done)
    · simp only [Option.some.injEq,Prod.mk.injEq] at h
      obtain ⟨e1,e2⟩:=h
      subst e2
      rw [Rel] at hx
      obtain ⟨_,_,_,_,_,rfl⟩:=hx
      exact Did.pure hs (by simp [Builtin.len_,run_underlying hu,goInt];rfl) (by rw [← e1,Rel];first | done | rfl)
    · simp only [Option.some.injEq,Prod.mk.injEq] at h
      obtain ⟨e1,e2⟩:=h
      subst e2
      rw [Rel] at hx
      obtain ⟨_,_,rfl⟩:=hx
      exact Did.pure hs (by simp [Builtin.len_,run_underlying hu,goInt];rfl) (by rw [← e1,Rel];first | done | rfl)
    · simp only [Option.some.injEq,Prod.mk.injEq] at h
      obtain ⟨e1,e2⟩:=h
      subst e2
      rw [Rel] at hx
      subst hx
      exact Did.pure hs (by simp [Builtin.len_,run_underlying hu,goInt];rfl) (by rw [← e1,Rel];first | done | rfl)
  · rename_i kt et hu
    split at h <;> try (cases h;done)
    · simp only [Option.some.injEq,Prod.mk.injEq] at h
      obtain ⟨e1,e2⟩:=h
      subst e2
      rw [Rel] at hx
      subst hx
      exact Did.pure hs (by simp [Builtin.len_,run_underlying hu,goInt];rfl) (by rw [← e1,Rel];first | done | rfl)
    · rename_i b
      cases st with
      | mk hh nx bs R W =>
        simp only at h
        split at h
        · rename_i es c hg
          rw [insK_eq,natK_eq] at h
          simp only [Option.some.injEq,Prod.mk.injEq] at h
          obtain ⟨e1,e2⟩:=h
          rw [Rel] at hx
          obtain ⟨B,s,hb,rfl⟩:=hx
          have hd:D b:=hD b (by rw [← e2];exact ins_has _ _ _)
          obtain ⟨b',s',ob,q1,q2,ms,rfl,q4⟩:=hs.live b _ hd hg
          rw [hb] at q1;cases q1
          refine ⟨.int .i64 (ms.length:Int),w,ρ,?_,?_,by rw [← e2];exact Step.touch hs (ins_sub _ _ _) fun _ h=>h⟩
          · simp [Builtin.len_,run_underlying hu,goInt,getObj,Sem.run,q2]
          · rw [← e1,Rel,q4.len,llen_eq];rfl
        · cases h
  · cases h

/-! ### Numbers -/
def kEq:IntKind→IntKind→Bool
  | .i8,.i8=>true | .i16,.i16=>true | .i32,.i32=>true | .i64,.i64=>true
  | .u8,.u8=>true | .u16,.u16=>true | .u32,.u32=>true | .u64,.u64=>true
  | _,_=>false
theorem kEq_eq {k k':IntKind} (h:kEq k k'=true):k=k':=by cases k <;> cases k' <;> first | rfl | cases h
def kmax:IntKind→Nat
  | .i8=>127 | .i16=>32767 | .i32=>2147483647 | .i64=>9223372036854775807
  | .u8=>255 | .u16=>65535 | .u32=>4294967295 | .u64=>18446744073709551615
def ksg:IntKind→Bool
  | .i8=>true | .i16=>true | .i32=>true | .i64=>true
  | _=>false
def wrapF (k:IntKind) (n:Int):Int:=match n with
  | .ofNat m=>bif Nat.ble m (kmax k) then .ofNat m else k.wrap n
  | .negSucc m=>bif ksg k&&Nat.ble m (kmax k) then .negSucc m else k.wrap n
theorem fits_of {k:IntKind} {m:Nat} (h:m≤kmax k):Fits k m:=by
  cases k <;> simp only [kmax] at h <;> simp [Fits,room,IntKind.bits,IntKind.signed] <;> omega
theorem wrap_pos {k:IntKind} {m:Nat} (h:m≤kmax k):k.wrap (m:Int)=m:=wrap_nat (fits_of h)
theorem kbits (k:IntKind) (hk:ksg k=true):k.signed=true∧(2 ^ k.bits:Int)=2*2 ^ (k.bits-1)∧((kmax k:Nat):Int)+1=2 ^ (k.bits-1):=by
  cases k <;> first | (cases hk;done) | exact ⟨rfl,rfl,rfl⟩
theorem wrap_neg {k:IntKind} {m:Nat} (hk:ksg k=true) (h:m≤kmax k):k.wrap (Int.negSucc m)=Int.negSucc m:=by
  obtain ⟨h1,h2,h3⟩:=kbits k hk
  unfold IntKind.wrap
  rw [h2]
  generalize (2 ^ (k.bits-1):Int)=H at *
  have e:Int.negSucc m%(2*H)=Int.negSucc m+2*H:=by
    rw [← Int.add_emod_right]
    exact Int.emod_eq_of_lt (by rw [Int.negSucc_eq];omega) (by rw [Int.negSucc_eq];omega)
  simp only [e,h1,Bool.true_and]
  rw [if_pos (by rw [decide_eq_true_eq,Int.negSucc_eq];omega)]
  omega
theorem wrapF_eq (k:IntKind) (n:Int):wrapF k n=k.wrap n:=by
  cases n with
  | ofNat m =>
    simp only [wrapF]
    cases h:Nat.ble m (kmax k) with
    | false=>rfl
    | true=>exact (wrap_pos (Nat.ble_eq.mp h)).symm
  | negSucc m =>
    simp only [wrapF]
    cases h:ksg k&&Nat.ble m (kmax k) with
    | false=>rfl
    | true =>
      rw [Bool.and_eq_true] at h
      exact (wrap_neg h.1 (Nat.ble_eq.mp h.2)).symm
def ilt:Int→Int→Bool
  | .ofNat m,.ofNat n=>Nat.blt m n
  | .ofNat _,.negSucc _=>false
  | .negSucc _,.ofNat _=>true
  | .negSucc m,.negSucc n=>Nat.blt n m
theorem ilt_eq (x y:Int):ilt x y=decide (x<y):=by
  rw [Bool.eq_iff_iff,decide_eq_true_eq]
  cases x <;> cases y <;> simp only [ilt,Nat.blt_eq,Bool.false_eq_true,true_iff,false_iff,Int.ofNat_eq_natCast,Int.negSucc_eq] <;> omega
def ieq:Int→Int→Bool
  | .ofNat m,.ofNat n=>Nat.beq m n
  | .negSucc m,.negSucc n=>Nat.beq m n
  | _,_=>false
theorem ieq_eq (x y:Int):ieq x y=decide (x=y):=by
  rw [Bool.eq_iff_iff,decide_eq_true_eq]
  cases x <;> cases y <;> simp [ieq]
  omega
def intV (k:IntKind) (n:Int):Option SV:=intK n fun n'=>some (.raw (.int k n'))
theorem intV_eq (k:IntKind) (n:Int):intV k n=some (.raw (.int k n)):=by simp only [intV,intK_eq]
def boolV (b:Bool):Option SV:=match b with
  | true=>some (.raw (.bool true))
  | false=>some (.raw (.bool false))
theorem boolV_eq (b:Bool):boolV b=some (.raw (.bool b)):=by cases b <;> rfl
def isZ:Int→Bool
  | .ofNat 0=>true
  | _=>false
theorem isZ_eq {n:Int} (h:isZ n=false):n≠0:=by
  rintro rfl;cases h
/-- two numbers -/
def ibS (op:BinOp) (k:IntKind) (x:Int) (k':IntKind) (y:Int):Option SV:=match op with
  | .add=>bif kEq k k' then intV k (wrapF k (Int.add x y)) else none
  | .sub=>bif kEq k k' then intV k (wrapF k (Int.sub x y)) else none
  | .mul=>bif kEq k k' then intV k (wrapF k (Int.mul x y)) else none
  | .quo=>bif kEq k k' then (bif isZ y then none else intV k (wrapF k (Int.tdiv x y))) else none
  | .rem=>bif kEq k k' then (bif isZ y then none else intV k (Int.tmod x y)) else none
  | .lss=>bif kEq k k' then boolV (ilt x y) else none
  | .gtr=>bif kEq k k' then boolV (ilt y x) else none
  | .leq=>bif kEq k k' then boolV (!ilt y x) else none
  | .geq=>bif kEq k k' then boolV (!ilt x y) else none
  | .eql=>bif kEq k k' then boolV (ieq x y) else none
  | .neq=>bif kEq k k' then boolV (!ieq x y) else none
  | .and=>bif kEq k k' then (match x with
    | .ofNat m=>match y with
      | .ofNat n=>bif Nat.ble m (kmax k)&&Nat.ble n (kmax k) then intV k (.ofNat (Nat.land m n)) else none
      | _=>none
    | _=>none) else none
  | .or=>bif kEq k k' then (match x with
    | .ofNat m=>match y with
      | .ofNat n=>bif Nat.ble m (kmax k)&&Nat.ble n (kmax k) then intV k (.ofNat (Nat.lor m n)) else none
      | _=>none
    | _=>none) else none
  | .xor=>bif kEq k k' then (match x with
    | .ofNat m=>match y with
      | .ofNat n=>bif Nat.ble m (kmax k)&&Nat.ble n (kmax k) then intV k (.ofNat (Nat.xor m n)) else none
      | _=>none
    | _=>none) else none
  | .andNot=>bif kEq k k' then (match x with
    | .ofNat m=>match y with
      | .ofNat n=>bif Nat.ble m (kmax k)&&Nat.ble n (kmax k) then intV k (.ofNat (Nat.xor m (Nat.land m n))) else none
      | _=>none
    | _=>none) else none
  | .shl=>match x with
    | .ofNat m=>match y with
      | .ofNat s=>bif Nat.ble s k.bits then intV k (wrapF k (.ofNat (Nat.shiftLeft m s))) else none
      | _=>none
    | _=>none
  | .shr=>match x with
    | .ofNat m=>match y with
      | .ofNat s=>bif Nat.ble s k.bits then intV k (.ofNat (Nat.shiftRight m s)) else none
      | _=>none
    | _=>none
end
end Go.TX
namespace Go.TH
open Go
section
variable {P:Program} {C:Cx P} {E:Env} {H:List HP}
variable {ops:Array Oper} {K:KP} {rest:List Oper} {d:Nat} {ty:TypeId} {pos:String} {af:Array Edge} {x y:Operand} {T T':TypeId} {k:IntKind} {a b:Nat}
theorem bv_andNot {n:Nat} (x y:BitVec n):x&&&~~~y=x^^^(x&&&y):=by
  apply BitVec.eq_of_getLsbD_eq
  intro i hi
  simp [hi]
  cases x[i] <;> cases y[i] <;> rfl
end
end Go.TH
namespace Go.TX
open Go Go.TH
noncomputable section
variable {ρ:Ren} {N:Nat} {env:Tr SV} {a:Act} {P:Program} {D:Nat→Prop} {st st':St} {w:World}

/-- a test and the operator -/
def opT (op:BinOp) (T:TypeId) (xo yo:Operand) (u z:Value):Sem Value:=do eqGuard op T xo yo u z;binOp op T u z
theorem ble2 {m n k:Nat} (h:(Nat.ble m k&&Nat.ble n k)=true):m≤k∧n≤k:=by
  rw [Bool.and_eq_true] at h
  exact ⟨Nat.ble_eq.mp h.1,Nat.ble_eq.mp h.2⟩
def arF (op:BinOp) (x y:Int):Option Int:=match op with | .add=>some (x+y) | .sub=>some (x-y) | .mul=>some (x*y) | _=>none
def cmF (op:BinOp) (x y:Int):Option Bool:=match op with | .lss=>some (ilt x y) | .gtr=>some (ilt y x) | .leq=>some (!ilt y x) | .geq=>some (!ilt x y) | .eql=>some (ieq x y) | .neq=>some (!ieq x y) | _=>none
def dvF (op:BinOp) (k:IntKind) (x y:Int):Option Int:=match op with | .quo=>some (k.wrap (x.tdiv y)) | .rem=>some (x.tmod y) | _=>none
def btF (op:BinOp) (m n:Nat):Option Nat:=match op with | .and=>some (m&&&n) | .or=>some (m|||n) | .xor=>some (m^^^n) | .andNot=>some (m^^^(m&&&n)) | _=>none
def shF (op:BinOp) (k:IntKind) (m s:Nat):Option Int:=match op with | .shl=>some (k.wrap ((m<<<s:Nat):Int)) | .shr=>some ((m>>>s:Nat):Int) | _=>none
theorem op_arith {op:BinOp} {k:IntKind} {x y n:Int} (h:arF op x y=some n) (T:TypeId) (xo yo:Operand):(opT op T xo yo (.int k x) (.int k y)).run P w=.ok (.int k (k.wrap n)) w:=by
  cases op <;> simp only [arF,Option.some.injEq,reduceCtorEq] at h <;> subst h <;> simp [opT,eqGuard,binOp,Op.intArith]
theorem op_cmp {op:BinOp} {k:IntKind} {x y:Int} {b:Bool} (h:cmF op x y=some b) (T:TypeId) (xo yo:Operand) :
    (opT op T xo yo (.int k x) (.int k y)).run P w=.ok (.bool b) w:=by
  cases op <;> simp only [cmF,Option.some.injEq,reduceCtorEq] at h <;> subst h <;> simp [opT,eqGuard,binOp,Op.intCmp,ilt_eq,ieq_eq]
  · by_cases q:x=y <;> simp [q]
  · by_cases q:x=y <;> simp [q]
  · rw [Bool.eq_iff_iff];simp
  · rw [Bool.eq_iff_iff];simp
theorem op_div {op:BinOp} {k:IntKind} {x y n:Int} (hy:y≠0) (h:dvF op k x y=some n) (T:TypeId) (xo yo:Operand):(opT op T xo yo (.int k x) (.int k y)).run P w=.ok (.int k n) w:=by
  cases op <;> simp only [dvF,Option.some.injEq,reduceCtorEq] at h <;> subst h <;> simp [opT,eqGuard,binOp,Op.intDiv,hy]
theorem op_bits {op:BinOp} {k:IntKind} {m n r:Nat} (hm:m≤kmax k) (hn:n≤kmax k) (h:btF op m n=some r) (T:TypeId) (xo yo:Operand) :
    (opT op T xo yo (.int k (m:Int)) (.int k (n:Int))).run P w=.ok (.int k (r:Int)) w:=by
  have ha:=fits_of hm
  have hb:=fits_of hn
  cases op <;> simp only [btF,Option.some.injEq,reduceCtorEq] at h <;> subst h
  · simp [opT,eqGuard,binOp,Op.intBits,mod_fits ha,mod_fits hb]
    exact_mod_cast wrap_nat (k:=k) (a:=m&&&n) ha.and
  · simp [opT,eqGuard,binOp,Op.intBits,mod_fits ha,mod_fits hb]
    exact_mod_cast wrap_nat (k:=k) (a:=m|||n) (ha.or hb)
  · simp [opT,eqGuard,binOp,Op.intBits,mod_fits ha,mod_fits hb]
    exact_mod_cast wrap_nat (k:=k) (a:=m^^^n) (ha.xor hb)
  · simp [opT,eqGuard,binOp,Op.intBits,bv_andNot,mod_fits ha,mod_fits hb]
    exact_mod_cast wrap_nat (k:=k) (a:=m^^^(m&&&n)) (ha.xor ha.and)
theorem op_shift {op:BinOp} {k k':IntKind} {m s:Nat} {r:Int} (hs:s≤k.bits) (h:shF op k m s=some r) (T:TypeId) (xo yo:Operand) :
    (opT op T xo yo (.int k (m:Int)) (.int k' (s:Int))).run P w=.ok (.int k r) w:=by
  have h0:¬ ((s:Int)<0):=by omega
  cases op <;> simp only [shF,Option.some.injEq,reduceCtorEq] at h <;> subst h
  · simp [opT,eqGuard,binOp,Op.shift,h0,Nat.min_eq_left hs,Nat.shiftLeft_eq]
  · simp [opT,eqGuard,binOp,Op.shift,h0,Nat.min_eq_left hs,Nat.shiftRight_eq_div_pow]
    rw [Int.fdiv_eq_ediv_of_nonneg _ (by exact_mod_cast Nat.zero_le (2 ^ s))]
theorem kEq_of {α:Type} {k k':IntKind} {x:Option α} {v:α} (h:(bif kEq k k' then x else none)=some v):k=k'∧x=some v:=by
  cases hk:kEq k k' with
  | false=>rw [hk] at h;cases h
  | true=>rw [hk] at h;exact ⟨kEq_eq hk,h⟩
theorem bif_of {α:Type} {b:Bool} {x:Option α} {v:α} (h:(bif b then x else none)=some v):b=true∧x=some v:=by
  cases b with
  | false=>cases h
  | true=>exact ⟨rfl,h⟩
theorem bif_no {α:Type} {b:Bool} {x:Option α} {v:α} (h:(bif b then none else x)=some v):b=false∧x=some v:=by
  cases b with
  | true=>cases h
  | false=>exact ⟨rfl,h⟩
theorem two_of {α:Type} {x y:Int} {f:Nat→Nat→Option α} {v:α} (h:(match x with | .ofNat m=>(match y with | .ofNat n=>f m n | _=>none) | _=>none)=some v):∃ m n:Nat,x=(m:Int)∧y=(n:Int)∧f m n=some v:=by
  cases x <;> cases y <;> simp only [reduceCtorEq] at h
  exact ⟨_,_,rfl,rfl,h⟩
theorem ibS_ok {op:BinOp} {k k':IntKind} {x y:Int} {v:SV} (h:ibS op k x k' y=some v) (T:TypeId) (xo yo:Operand):∃ u,(opT op T xo yo (.int k x) (.int k' y)).run P w=.ok u w∧v=.raw u:=by
  have arith:∀ {n:Int},k=k'∧intV k (wrapF k n)=some v→arF op x y=some n→∃ u,(opT op T xo yo (.int k x) (.int k' y)).run P w=.ok u w∧v=.raw u:=by
    rintro n ⟨rfl,g⟩ hn
    rw [intV_eq,wrapF_eq,Option.some.injEq] at g
    exact ⟨_,op_arith hn T xo yo,g.symm⟩
  have cmp:∀ {b:Bool},k=k'∧boolV b=some v→cmF op x y=some b→∃ u,(opT op T xo yo (.int k x) (.int k' y)).run P w=.ok u w∧v=.raw u:=by
    rintro b ⟨rfl,g⟩ hb
    rw [boolV_eq,Option.some.injEq] at g
    exact ⟨_,op_cmp hb T xo yo,g.symm⟩
  have bits:∀ {f:Nat→Nat→Nat},(k=k'∧∃ m n:Nat,x=(m:Int)∧y=(n:Int)∧(bif Nat.ble m (kmax k)&&Nat.ble n (kmax k) then intV k (.ofNat (f m n)) else none)=some v)→(∀ m n,btF op m n=some (f m n)) →
      ∃ u,(opT op T xo yo (.int k x) (.int k' y)).run P w=.ok u w∧v=.raw u:=by
    rintro f ⟨rfl,m,n,rfl,rfl,g⟩ hf
    obtain ⟨hb,g⟩:=bif_of g
    obtain ⟨hm,hn⟩:=ble2 hb
    rw [intV_eq,Option.some.injEq] at g
    exact ⟨_,op_bits hm hn (hf m n) T xo yo,g.symm⟩
  cases op <;> simp only [ibS] at h
  · exact arith (kEq_of h) rfl
  · exact arith (kEq_of h) rfl
  · exact arith (kEq_of h) rfl
  · obtain ⟨rfl,g⟩:=kEq_of h
    obtain ⟨hz,g⟩:=bif_no g
    rw [intV_eq,wrapF_eq,Option.some.injEq] at g
    exact ⟨_,op_div (isZ_eq hz) rfl T xo yo,g.symm⟩
  · obtain ⟨rfl,g⟩:=kEq_of h
    obtain ⟨hz,g⟩:=bif_no g
    rw [intV_eq,Option.some.injEq] at g
    exact ⟨_,op_div (isZ_eq hz) rfl T xo yo,g.symm⟩
  · exact bits ⟨(kEq_of h).1,two_of (kEq_of h).2⟩ fun _ _=>rfl
  · exact bits ⟨(kEq_of h).1,two_of (kEq_of h).2⟩ fun _ _=>rfl
  · exact bits ⟨(kEq_of h).1,two_of (kEq_of h).2⟩ fun _ _=>rfl
  · obtain ⟨m,s,rfl,rfl,g⟩:=two_of h
    obtain ⟨hb,g⟩:=bif_of g
    rw [intV_eq,wrapF_eq,Option.some.injEq] at g
    exact ⟨_,op_shift (Nat.ble_eq.mp hb) rfl T xo yo,g.symm⟩
  · obtain ⟨m,s,rfl,rfl,g⟩:=two_of h
    obtain ⟨hb,g⟩:=bif_of g
    rw [intV_eq,Option.some.injEq] at g
    exact ⟨_,op_shift (Nat.ble_eq.mp hb) rfl T xo yo,g.symm⟩
  · exact bits ⟨(kEq_of h).1,two_of (kEq_of h).2⟩ fun _ _=>rfl
  all_goals exact cmp (kEq_of h) rfl
end
end Go.TX
namespace Go.TX
open Go Go.TH
noncomputable section
variable {ρ:Ren} {N:Nat} {env:Tr SV} {a:Act} {P:Program} {D:Nat→Prop} {st st':St} {w:World}

/-! ### Values without addresses -/
def raws:List SV→Option (List Value)
  | []=>some []
  | .raw v::r=>match raws r with
    | some l=>some (v::l)
    | none=>none
  | _::_=>none
def toV:SV→Option Value
  | .raw v=>some v
  | .agg l=>match raws l with
    | some vs=>some (.agg vs.toArray)
    | none=>none
  | _=>none
theorem raws_rel:∀ {l:List SV} {vs us:List Value},raws l=some vs→RelL ρ l us→us=vs
  | [],vs,us,h,hr=>by
    simp only [raws,Option.some.injEq] at h
    rw [RelL] at hr
    rw [hr,h]
  | s::l,vs,us,h,hr=>by
    rw [RelL] at hr
    obtain ⟨v,r,rfl,h1,h2⟩:=hr
    cases s <;> simp only [raws] at h <;> try (cases h;done)
    rw [Rel] at h1
    subst h1
    split at h
    · rename_i l' hl
      simp only [Option.some.injEq] at h
      subst h
      rw [raws_rel hl h2]
    · cases h
theorem toV_rel {s:SV} {v u:Value} (h:toV s=some v) (hr:Rel ρ s u):u=v:=by
  cases s <;> simp only [toV] at h <;> try (cases h;done)
  · rw [Rel] at hr
    simp only [Option.some.injEq] at h
    rw [hr,h]
  · rw [Rel] at hr
    obtain ⟨us,h1,rfl⟩:=hr
    split at h
    · rename_i vs hv
      simp only [Option.some.injEq] at h
      subst h
      rw [raws_rel hv h1]
    · cases h
/-- a value, reckoned -/
def valV (v:Value):Option SV:=match v with
  | .int k n=>intV k n
  | .bool b=>boolV b
  | .agg cs=>some (.agg (cs.toList.map .raw))
  | v=>some (.raw v)
theorem valV_rel {v:Value} {s:SV} (h:valV v=some s):Rel ρ s v:=by
  cases v <;> simp only [valV,intV_eq,boolV_eq,Option.some.injEq] at h <;> subst h <;> rw [Rel]
  exact ⟨_,RelL.raws _,by simp⟩

/-! ### Operators -/
def isNil:SV→Bool
  | .raw (.pointer none)=>true
  | .raw (.slice none 0 0)=>true
  | .raw (.map none)=>true
  | .raw .nilFunc=>true
  | _=>false
def eqNil (P:Program) (T:TypeId) (x:SV):Option Bool:=match x with
  | .ptr _ _=>match P.underlying T with
    | some (.pointer _)=>some false
    | _=>none
  | .sl _ _ _ _=>match P.underlying T with
    | some (.slice _)=>some false
    | _=>none
  | .map _=>match P.underlying T with
    | some (.map _ _)=>some false
    | _=>none
  | .fn _ _ _=>match P.underlying T with
    | some (.func _ _ _)=>some false
    | _=>none
  | _=>none
def nilT (P:Program) (T:TypeId) (x:SV):Bool:=match x with
  | .raw (.pointer none)=>match P.underlying T with
    | some (.pointer _)=>true
    | _=>false
  | .raw (.slice none 0 0)=>match P.underlying T with
    | some (.slice _)=>true
    | _=>false
  | .raw (.map none)=>match P.underlying T with
    | some (.map _ _)=>true
    | _=>false
  | .raw .nilFunc=>match P.underlying T with
    | some (.func _ _ _)=>true
    | _=>false
  | _=>false
theorem eqNil_ok {T:TypeId} {x y:SV} {u z:Value} {b:Bool} (hx:Rel ρ x u) (hy:Rel ρ y z) (h:eqNil P T x=some b) (hn:nilT P T y=true) :
    (Op.equal T u z).run P w=.ok b w∧(Op.equal T z u).run P w=.ok b w:=by
  cases x <;> simp only [eqNil] at h <;> try (cases h;done)
  all_goals
    split at h <;> try (cases h;done)
    rename_i hu
    simp only [Option.some.injEq] at h
    subst h
    unfold nilT at hn
    split at hn <;> try (cases hn;done)
    all_goals
      split at hn <;> try (cases hn;done)
      rename_i hu'
      rw [hu] at hu'
      first
        | (cases hu';done)
        | (simp only [Rel] at hx hy
           subst hy
           first
             | (obtain ⟨_,_,_,rfl⟩:=hx
                constructor <;> (unfold Op.equal;rw [show Op.maxDepth=9999+1 from rfl,Op.equalIn];simp [run_underlying hu]))
             | (obtain ⟨_,_,_,_,_,rfl⟩:=hx
                constructor <;> (unfold Op.equal;rw [show Op.maxDepth=9999+1 from rfl,Op.equalIn];simp [run_underlying hu]))
             | (obtain ⟨_,_,_,_,rfl⟩:=hx
                constructor <;> (unfold Op.equal;rw [show Op.maxDepth=9999+1 from rfl,Op.equalIn];simp [run_underlying hu])))
def boS (P:Program) (op:BinOp) (T:TypeId) (xo yo:Operand) (x y:SV):Option SV:=match x with
  | .raw (.int k m)=>match y with
    | .raw (.int k' n)=>ibS op k m k' n
    | _=>none
  | x=>match toV x with
    | some u=>match toV y with
      | some z=>match pv P (opT op T xo yo u z) with
        | some v=>valV v
        | none=>none
      | none=>bif isNil x&&nilT P T x then (match eqNil P T y with
        | some b=>match op with
          | .eql=>boolV b
          | .neq=>boolV (!b)
          | _=>none
        | none=>none) else none
    | none=>bif nilT P T y then (match eqNil P T x with
      | some b=>match op with
        | .eql=>boolV b
        | .neq=>boolV (!b)
        | _=>none
      | none=>none) else none
theorem opT_eq {op:BinOp} {T:TypeId} {xo yo:Operand} {u z:Value} {b:Bool} {v:SV} (hq:(Op.equal T u z).run P w=.ok b w)  (hg:∀ op,(eqGuard op T xo yo u z).run P w=.ok () w) (hop:∀ op,op=.eql∨op=.neq→binOp op T u z=(if op=.eql then (do pure (.bool (← Op.equal T u z))) else (do pure (.bool (!(← Op.equal T u z)))))) (h:(match op with | .eql=>boolV b | .neq=>boolV (!b) | _=>none)=some v):∃ r,(opT op T xo yo u z).run P w=.ok r w∧Rel ρ v r:=by
  cases op <;> simp only [reduceCtorEq] at h
  · rw [boolV_eq,Option.some.injEq] at h
    refine ⟨.bool b,?_,by rw [← h,Rel]⟩
    simp only [opT,Sem.run_bind,hg,Result.andThen_ok,hop .eql (.inl rfl),if_true]
    simp [hq]
  · rw [boolV_eq,Option.some.injEq] at h
    refine ⟨.bool !b,?_,by rw [← h,Rel]⟩
    simp only [opT,Sem.run_bind,hg,Result.andThen_ok,hop .neq (.inr rfl)]
    simp [hq]
theorem guard_nil {op:BinOp} {T:TypeId} {xo yo:Operand} {x y:SV} {u z:Value} {b:Bool} (hx:Rel ρ x u) (hy:Rel ρ y z) (h:eqNil P T x=some b) (hn:nilT P T y=true) :
    (eqGuard op T xo yo u z).run P w=.ok () w∧(eqGuard op T yo xo z u).run P w=.ok () w∧(∀ op,op=.eql∨op=.neq→binOp op T u z=(if op=.eql then (do pure (.bool (← Op.equal T u z))) else (do pure (.bool (!(← Op.equal T u z)))))) ∧
      (∀ op,op=.eql∨op=.neq→binOp op T z u=(if op=.eql then (do pure (.bool (← Op.equal T z u))) else (do pure (.bool (!(← Op.equal T z u)))))):=by
  cases x <;> simp only [eqNil] at h <;> try (cases h;done)
  all_goals
    split at h <;> try (cases h;done)
    unfold nilT at hn
    split at hn <;> try (cases hn;done)
    all_goals
      simp only [Rel] at hx hy
      subst hy
      first
        | (obtain ⟨_,_,_,rfl⟩:=hx
           refine ⟨by cases op <;> simp [eqGuard],by cases op <;> simp [eqGuard],?_,?_⟩ <;> (rintro op (rfl | rfl) <;> rfl))
        | (obtain ⟨_,_,_,_,_,rfl⟩:=hx
           refine ⟨by cases op <;> simp [eqGuard],by cases op <;> simp [eqGuard],?_,?_⟩ <;> (rintro op (rfl | rfl) <;> rfl))
        | (obtain ⟨_,_,_,_,rfl⟩:=hx
           refine ⟨by cases op <;> simp [eqGuard],by cases op <;> simp [eqGuard],?_,?_⟩ <;> (rintro op (rfl | rfl) <;> rfl))
theorem boS_ok {op:BinOp} {T:TypeId} {xo yo:Operand} {x y v:SV} {u z:Value} (hx:Rel ρ x u) (hy:Rel ρ y z) (h:boS P op T xo yo x y=some v):∃ r,(opT op T xo yo u z).run P w=.ok r w∧Rel ρ v r:=by
  unfold boS at h
  split at h
  · rename_i k m
    split at h
    · rename_i k' n
      rw [Rel] at hx hy
      subst hx;subst hy
      obtain ⟨r,h1,h2⟩:=ibS_ok (P:=P) (w:=w) h T xo yo
      exact ⟨r,h1,by rw [h2,Rel]⟩
    · cases h
  · split at h
    · rename_i u' hu
      have eu:=toV_rel hu hx
      split at h
      · rename_i z' hz
        have ez:=toV_rel hz hy
        subst eu;subst ez
        split at h
        · rename_i r hp
          exact ⟨r,pv_run hp w,valV_rel h⟩
        · cases h
      · obtain ⟨hb,h⟩:=bif_of h
        rw [Bool.and_eq_true] at hb
        split at h
        · rename_i b hq
          have h1:=eqNil_ok (w:=w) hy hx hq hb.2
          have h2:=fun op=>guard_nil (w:=w) (op:=op) (xo:=yo) (yo:=xo) hy hx hq hb.2
          exact opT_eq h1.2 (fun op=>(h2 op).2.1) (h2 .eql).2.2.2 h
        · cases h
    · obtain ⟨hb,h⟩:=bif_of h
      split at h
      · rename_i b hq
        have h1:=eqNil_ok (w:=w) hx hy hq hb
        have h2:=fun op=>guard_nil (w:=w) (op:=op) (xo:=xo) (yo:=yo) hx hy hq hb
        exact opT_eq h1.1 (fun op=>(h2 op).1) (h2 .eql).2.2.1 h
      · cases h
end
end Go.TX
namespace Go.TX
open Go Go.TH
noncomputable section
variable {ρ:Ren} {N:Nat} {env:Tr SV} {a:Act} {P:Program} {D:Nat→Prop} {st st':St} {w:World}

def unS (P:Program) (op:UnOp) (x:SV):Option SV:=match op,x with
  | .not,.raw (.bool b)=>boolV (!b)
  | op,x=>match toV x with
    | some u=>match pv P (Op.unary op u) with
      | some v=>valV v
      | none=>none
    | none=>none
theorem unS_ok {op:UnOp} {x v:SV} {u:Value} (hx:Rel ρ x u) (h:unS P op x=some v):∃ r,(Op.unary op u).run P w=.ok r w∧Rel ρ v r:=by
  unfold unS at h
  split at h
  · rw [Rel] at hx
    subst hx
    rw [boolV_eq,Option.some.injEq] at h
    exact ⟨_,by simp [Op.unary];rfl,by rw [← h,Rel]⟩
  · split at h
    · rename_i u' hu
      have:=toV_rel hu hx
      subst this
      split at h
      · rename_i r hr
        exact ⟨r,pv_run hr w,valV_rel h⟩
      · cases h
    · cases h
def intK? (P:Program) (T:TypeId):Option IntKind:=match P.underlying T with
  | some (.int k)=>some k
  | _=>none
def cvS (P:Program) (T T':TypeId) (x:SV):Option SV:=match x with
  | .raw (.int _ n)=>match intK? P T' with
    | some k=>bif (P.underlying T).isSome then intV k (wrapF k n) else none
    | none=>none
  | x=>match toV x with
    | some u=>match pv P (convert T T' u) with
      | some v=>valV v
      | none=>none
    | none=>none
theorem cvS_ok {T T':TypeId} {x v:SV} {u:Value} (hx:Rel ρ x u) (h:cvS P T T' x=some v):∃ r,(convert T T' u).run P w=.ok r w∧Rel ρ v r:=by
  unfold cvS at h
  split at h
  · rename_i k n
    rw [Rel] at hx
    subst hx
    split at h
    · rename_i k' hk
      unfold intK? at hk
      split at hk
      · rename_i k2 hu
        simp only [Option.some.injEq] at hk
        subst hk
        obtain ⟨hs,h⟩:=bif_of h
        obtain ⟨ds,hd⟩:=Option.isSome_iff_exists.mp hs
        rw [intV_eq,wrapF_eq,Option.some.injEq] at h
        exact ⟨_,by simp [convert,run_underlying hd,run_underlying hu,Conv.intToInt];rfl,by rw [← h,Rel]⟩
      · cases hk
    · cases h
  · split at h
    · rename_i u' hu
      have:=toV_rel hu hx
      subst this
      split at h
      · rename_i r hr
        exact ⟨r,pv_run hr w,valV_rel h⟩
      · cases h
    · cases h

/-! ### Appending -/
/-- the cells of a slice, and how many elements -/
def srcK {β:Type} (sz:Nat) (y:SV) (st:St) (k:Nat→List SV→St→Option β):Option β:=match y with
  | .raw (.slice none 0 0)=>k 0 [] st
  | .sl0=>k 0 [] st
  | .sl b o n _=>rdK st b fun l _ _ st'=>subK l o (n*sz) fun vs=>k n vs st'
  | _=>none
/-- what is read there -/
structure Src (P:Program) (w:World) (sz:Nat) (z:Value) (n:Nat) (us:List Value):Prop where
  is:∃ ad c,z=.slice ad n c∧(0<n→∃ b o,ad=some ⟨b,o,none⟩∧∀ j u,us[j]?=some u→w.cell? ((⟨b,o,none⟩:Addr).add j)=some u)
  len:us.length=n*sz
theorem srcK_ok {β:Type} {sz:Nat} {y:SV} {z:Value} {k:Nat→List SV→St→Option β} {r:β} (hy:Rel ρ y z) (h:srcK sz y st k=some r) (hs:Sim ρ D st w) (hD:∀ n vs st',k n vs st'=some r→∀ x,x∈st'.R∨st.base≤x→D x) :
    ∃ n vs us R',k n vs ⟨st.h,st.nx,st.base,R',st.W⟩=some r∧(∀ x,x∈st.R→x∈R')∧RelL ρ vs us∧Src P w sz z n us:=by
  unfold srcK at h
  split at h
  · rw [Rel] at hy
    subst hy
    exact ⟨0,[],[],st.R,h,fun _ h=>h,RelL.nil,⟨none,0,rfl,fun h=>absurd h (by omega)⟩,by simp⟩
  · rw [Rel] at hy
    obtain ⟨ad,c,rfl⟩:=hy
    exact ⟨0,[],[],st.R,h,fun _ h=>h,RelL.nil,⟨ad,c,rfl,fun h=>absurd h (by omega)⟩,by simp⟩
  · rename_i b o n c
    rw [Rel] at hy
    obtain ⟨B,s,cap,hb,_,rfl⟩:=hy
    obtain ⟨l,e,op,hg,h⟩:=rdK_some h
    obtain ⟨hl,h⟩:=subK_some h
    have hd:D b:=hD _ _ _ h b (ins_has _ _ _)
    obtain ⟨b',s',pre,us,vs,q1,q2,qz,q3,q4,q5⟩:=hs.row hd hg
    rw [hb] at q1;cases q1
    refine ⟨n,_,(us.drop o).take (n*sz),_,h,ins_sub _ _ _,(q3.drop o).take _,⟨_,_,rfl,fun _=>⟨_,_,rfl,cells_of q2 qz⟩⟩,?_⟩
    have:=q3.len
    simp;omega
  · cases h
theorem run_firstCells_src {sz n:Nat} {z:Value} {us:List Value} (h:Src P w sz z n us) {w':World} (hc:∀ p v,w.cell? p=some v→w'.cell? p=some v):(Builtin.firstCells sz n z).run P w'=.ok us.toArray w':=by
  obtain ⟨⟨ad,c,rfl,ha⟩,hl⟩:=h
  rcases Nat.eq_zero_or_pos n with rfl | hp
  · have:us=[]:=List.eq_nil_of_length_eq_zero (by simpa using hl)
    subst this
    cases ad with
    | none=>simp [Builtin.firstCells]
    | some b =>
      have:=run_loadCells_list (P:=P) w' b [] (by simp)
      simpa [Builtin.firstCells] using this
  · obtain ⟨b,o,rfl,hh⟩:=ha hp
    exact run_firstCells_some (P:=P) w' sz n _ n c us hl (fun j v hv=>hc _ _ (hh j v hv))
/-- appending within the room -/
theorem run_append_in {T e:TypeId} {ty:TypeId} {i:TypeInfo} (hu:P.underlying T=some (.slice e)) (hi:P.info? e=some i) {b o n k:Nat} {cs:List Value} {e':TypeId} (hg:w.heap[b]?=some (.cells cs.toArray e' (0,0))) {z:Value} {m:Nat} {news:List Value}
    (hz:Src P w i.size z m news) (h1:∀ u∈news,u.oneCell'=true) (hroom:n+m≤k) (hfit:o+n*i.size+news.length≤cs.length) :
    ∃ w',(Builtin.append_ #[T,T] ty #[.slice (some ⟨b,o,none⟩) n k,z]).run P w=.ok (.slice (some ⟨b,o,none⟩) (n+m) k) w'∧w'.os=w.os∧w'.tape=w.tape∧w'.output=w.output∧w'.heap.size=w.heap.size ∧
      w'.heap[b]?=some (.cells (wrl cs (o+n*i.size) news).toArray e' (0,0))∧∀ q,q≠b→w'.heap[q]?=w.heap[q]?:=by
  have hf:=run_firstCells_src (P:=P) hz (w':=w) fun _ _ h=>h
  obtain ⟨w',hr,a1,a2,a3,a4,a5,a6⟩:=run_storeCells_own (P:=P) (b:=b) (off:=o+n*i.size) news 0 w cs hg (by simpa using hfit) h1
  refine ⟨w',?_,a1,a2,a3,a4,by simpa using a5,a6⟩
  obtain ⟨ad,c,rfl,_⟩:=hz.is
  simp [Builtin.append_,run_underlying hu,sizeOf,typeInfo,hi,Builtin.lenOf,hroom,hf,Addr.add_lit,hr]
/-- a new row -/
theorem run_append_new {T e:TypeId} {ty:TypeId} {i:TypeInfo} {zv:Value} (hu:P.underlying T=some (.slice e)) (hi:P.info? e=some i) (hzv:i.zero=some zv) {x:Value} {n k:Nat} {olds:List Value} {ad:Option Addr} (hx:x=.slice ad n k) (hx':ad=none→n=0∧k=0) (ho:∀ {w':World},(∀ p v,w.cell? p=some v→w'.cell? p=some v)→(Builtin.firstCells i.size n x).run P w'=.ok olds.toArray w') {z:Value} {m:Nat} {news:List Value}
    (hz:Src P w i.size z m news) (hm:0<m) (hg:k<n+m) (h63:n+m≤9223372036854775807) (hb:(n+m)*i.bytes≤140737488355328) :
    ∃ c w',n+m≤c∧(Builtin.append_ #[T,T] ty #[x,z]).run P w=.ok (.slice (some ⟨w.heap.size,0,none⟩) (n+m) c) w'∧w'.os=w.os∧w'.tape=w.tape∧w'.output=w.output ∧
      w'.heap=w.heap.push (.cells ((olds++news)++(Builtin.zeroCells zv.cells (c-(n+m))).toList).toArray e (0,0)):=by
  obtain ⟨⟨az,cz,rfl,ha⟩,hl⟩:=hz
  obtain ⟨b0,o0,rfl,hh⟩:=ha hm
  have hf:=run_firstCells_some (P:=P) w.drew i.size m ⟨b0,o0,none⟩ m cz news hl (by simpa using hh)
  have ho':=ho (w':=w.drew) fun p v h=>by simpa using h
  have hn:¬ (n+m≤k):=by omega
  have h63':¬ (9223372036854775807<((n:Int)+(m:Int))):=by omega
  have hfit:=growslice_fits (bytes:=i.bytes) hg hb
  have h48':¬ (281474976710656<Builtin.nextslicecap (n+m) k*i.bytes):=by omega
  subst hx
  refine ⟨grownCap w (n+m) k e,w.drew.alloc (.cells ((olds++news)++(Builtin.zeroCells zv.cells (grownCap w (n+m) k e-(n+m))).toList).toArray e),grownCap_ge w (n+m) k e,?_,rfl,rfl,rfl,rfl⟩
  simp [Builtin.append_,run_underlying hu,sizeOf,typeInfo,zeroValue,hi,hzv,Builtin.lenOf,hn,h63',h48',Question.forced,hf,ho',newRow,grownCap]
  congr 2
  apply Array.ext'
  simp [List.append_assoc]

/-- appending news to x, of elements of sz cells -/
def apC (e sz by':Nat) (x:SV) (m:Nat) (news:List SV) (st1:St):Option (SV × St):=match m with
    | 0=>match x with
      | .raw (.slice none 0 0)=>some (x,st1)
      | .sl _ _ n (.kn k)=>bif Nat.ble n k then some (x,st1) else none
      | _=>none
    | m'+1=>bif onesS news then (match x with
      | .raw (.slice none 0 0)=>bif Nat.ble ((m'+1)*by') 140737488355328&&Nat.ble (m'+1) 9223372036854775807 then
          newK st1 (.cells news e true) fun q st'=>natK (m'+1) fun n'=>some (.sl q 0 n' (.rest sz),st')
        else none
      | .sl b o n (.kn k)=>bif Nat.ble (n+(m'+1)) k then
          (rdK st1 b fun l e' op st2=>wrK l (o+n*sz) news fun l'=>wtK st2 b (.cells l' e' op) fun st'=>natK (n+(m'+1)) fun n'=>some (.sl b o n' (.kn k),st'))
        else (bif Nat.ble ((n+(m'+1))*by') 140737488355328&&Nat.ble (n+(m'+1)) 9223372036854775807 then
          rdK st1 b fun l _ _ st2=>subK l o (n*sz) fun olds=>appK olds news fun row=>newK st2 (.cells row e true) fun q st'=>natK (n+(m'+1)) fun n'=>some (.sl q 0 n' (.rest sz),st')
        else none)
      | .sl b o n (.rest sz')=>bif Nat.beq sz sz'&&Nat.blt 0 sz then (bif Nat.ble ((n+(m'+1))*by') 140737488355328&&Nat.ble (n+(m'+1)) 9223372036854775807 then
          rdK st1 b fun l e' op st2=>bif op&&Nat.beq e' e then (bif Nat.ble (o+(n+(m'+1))*sz) (llen l) then none else subK l o (n*sz) fun olds=>appK olds news fun row =>
            match st2 with
            | ⟨h,nx,bs,R,W⟩=>h.setK b none fun h1=>h1.setK nx (some (.cells row e true)) fun h2=>natK (Nat.succ nx) fun nx'=>insK bs b W fun W'=>natK (n+(m'+1)) fun n'=>some (.sl nx 0 n' (.rest sz),⟨h2,nx',bs,R,W'⟩))
          else none else none) else none
      | _=>none) else none
def apS (P:Program) (T T':TypeId) (x y:SV) (st:St):Option (SV × St):=bif Nat.beq T T' then match slT P T with
  | some (e,sz,by',_)=>srcK sz y st fun m news st1=>apC e sz by' x m news st1
  | none=>none else none

theorem apC_R {e sz by' m:Nat} {x v:SV} {news:List SV} (h:apC e sz by' x m news st=some (v,st')):∀ y,y∈st.R→y∈st'.R:=by
  unfold apC at h
  intro y hy
  split at h
  · split at h
    · simp only [Option.some.injEq,Prod.mk.injEq] at h;rw [← h.2];exact hy
    · obtain ⟨_,h⟩:=bif_of h
      simp only [Option.some.injEq,Prod.mk.injEq] at h;rw [← h.2];exact hy
    · cases h
  · rename_i m'
    have hones:=(bif_of h).1
    replace h:=(bif_of h).2
    split at h
    · obtain ⟨_,h⟩:=bif_of h
      simp only [newK_eq,natK_eq,Option.some.injEq,Prod.mk.injEq] at h;rw [← h.2];exact hy
    · rename_i b o n k
      cases hb:Nat.ble (n+(m'+1)) k with
      | true =>
        rw [hb,cond_true] at h
        obtain ⟨l,e',op,hg,h⟩:=rdK_some h
        obtain ⟨hl,h⟩:=wrK_some h
        rw [wtK_eq] at h
        simp only [natK_eq,Option.some.injEq,Prod.mk.injEq] at h;rw [← h.2];exact ins_sub _ _ _ _ (ins_sub _ _ _ _ hy)
      | false =>
        rw [hb,cond_false] at h
        obtain ⟨_,h⟩:=bif_of h
        obtain ⟨l,e',op,hg,h⟩:=rdK_some h
        obtain ⟨hl,h⟩:=subK_some h
        simp only [appK_eq,newK_eq,natK_eq,Option.some.injEq,Prod.mk.injEq] at h;rw [← h.2];exact ins_sub _ _ _ _ hy
    · obtain ⟨_,h⟩:=bif_of h
      obtain ⟨_,h⟩:=bif_of h
      obtain ⟨l,e',op,hg,h⟩:=rdK_some h
      obtain ⟨_,h⟩:=bif_of h
      cases hb:Nat.ble _ (llen l) with
      | true=>rw [hb] at h;cases h
      | false =>
        rw [hb,cond_false] at h
        obtain ⟨hl,h⟩:=subK_some h
        simp only [appK_eq,Tr.setK_eq,natK_eq,insK_eq,Option.some.injEq,Prod.mk.injEq] at h;rw [← h.2];exact ins_sub _ _ _ _ hy
    · cases h
/-- more is known behind a step that only tells what was touched -/
theorem Did.after {R:List Nat} {v:SV} {s:Sem Value} (hs:Sim ρ D st w) (hR:∀ x,x∈st.R→x∈R) (h:Did P ρ D ⟨st.h,st.nx,st.base,R,st.W⟩ st' w v s):Did P ρ D st st' w v s:=by
  obtain ⟨u,w',ρ',h1,h2,h3⟩:=h
  exact ⟨u,w',ρ',h1,h2,⟨h3.os,h3.tape,h3.output,h3.size,h3.nx,h3.base,fun x hx=>h3.sR x (hR x hx),h3.sW,h3.ext,h3.keep,h3.dead,h3.same,h3.fresh,h3.sim⟩⟩
theorem zeroCells_len {z:Array Value} {n:Nat}:(Builtin.zeroCells z n).toList.length=n*z.size:=by simp [Builtin.zeroCells]

theorem apC_ok {T e ty:TypeId} {i:TypeInfo} {zv:Value} {x v:SV} {u z:Value} {m:Nat} {news:List SV} {nv:List Value} (hu:P.underlying T=some (.slice e)) (hi:P.info? e=some i) (hzv:i.zero=some zv) (hzs:zv.cells.size=i.size)
    (hx:Rel ρ x u) (hz:Src P w i.size z m nv) (hn:RelL ρ news nv) (h:apC e i.size i.bytes x m news st=some (v,st')) (hs:Sim ρ D st w) (hD:∀ x,x∈st'.R∨st.base≤x→D x) (hf:Free ρ st.nx st'.nx) :
    Did P ρ D st st' w v (Builtin.append_ #[T,T] ty #[u,z]):=by
  have hzl:=hz.len
  unfold apC at h
  split at h
  · -- nothing is appended
    have hnil:nv=[]:=List.eq_nil_of_length_eq_zero (by simpa using hzl)
    subst hnil
    obtain ⟨⟨az,cz,rfl,_⟩,_⟩:=hz
    split at h
    · simp only [Option.some.injEq,Prod.mk.injEq] at h
      obtain ⟨rfl,rfl⟩:=h
      rw [Rel] at hx;subst hx
      refine Did.pure hs (u:=.slice none 0 0) ?_ (by rw [Rel])
      cases az with
      | none=>simp [Builtin.append_,run_underlying hu,sizeOf,typeInfo,hi,Builtin.lenOf,Builtin.firstCells]
      | some b =>
        have:(loadCells b 0).run P w=.ok #[] w:=by simpa using run_loadCells_list (P:=P) w b [] (by simp)
        simp [Builtin.append_,run_underlying hu,sizeOf,typeInfo,hi,Builtin.lenOf,Builtin.firstCells,this]
    · rename_i b o n k
      have hb:=(bif_of h).1
      replace h:=(bif_of h).2
      have hb:=Nat.ble_eq.mp hb
      simp only [Option.some.injEq,Prod.mk.injEq] at h
      obtain ⟨rfl,rfl⟩:=h
      have hx0:=hx
      rw [Rel] at hx
      obtain ⟨B,s,cap,hB,hc,rfl⟩:=hx
      simp only [CapR] at hc
      subst hc
      refine Did.pure hs (u:=.slice (some ⟨B,s.1+o,none⟩) n cap) ?_ hx0
      have h0:(storeCells ((⟨B,s.1+o,none⟩:Addr).add (n*i.size)) []).run P w=.ok () w:=by simp [storeCells]
      cases az with
      | none=>simp [Builtin.append_,run_underlying hu,sizeOf,typeInfo,hi,Builtin.lenOf,Builtin.firstCells,hb,h0]
      | some b =>
        have:(loadCells b 0).run P w=.ok #[] w:=by simpa using run_loadCells_list (P:=P) w b [] (by simp)
        simp [Builtin.append_,run_underlying hu,sizeOf,typeInfo,hi,Builtin.lenOf,Builtin.firstCells,this,hb,h0]
    · cases h
  · rename_i m'
    have hones:=(bif_of h).1
    replace h:=(bif_of h).2
    have h1:=hn.ones hones
    have hnl:=hn.len
    split at h
    · -- from nothing
      have hb:=(bif_of h).1
      replace h:=(bif_of h).2
      obtain ⟨hb1,hb2⟩:=by rw [Bool.and_eq_true] at hb;exact hb
      have hb1:=Nat.ble_eq.mp hb1
      have hb2:=Nat.ble_eq.mp hb2
      simp only [newK_eq,natK_eq,Option.some.injEq,Prod.mk.injEq] at h
      obtain ⟨e1,e2⟩:=h
      have hne:ρ st.nx=none:=hf _ (Nat.le_refl _) (by rw [← e2];exact Nat.lt_succ_self _)
      rw [Rel] at hx;subst hx
      obtain ⟨c,w',hc,hr,a1,a2,a3,a4⟩:=run_append_new (P:=P) (ty:=ty) (w:=w) (olds:=[]) (ad:=none) (n:=0) (k:=0) hu hi hzv rfl (fun _=>⟨rfl,rfl⟩) (fun {w'} _=>by simp [Builtin.firstCells]) hz (Nat.succ_pos _) (by omega) (by omega) (by rw [Nat.zero_add];exact hb1)
      simp only [List.nil_append,Nat.zero_add] at hr a4 hc
      refine Did.new (n:=(0,c*i.size)) hs hf e2.symm hr ⟨[],nv,(Builtin.zeroCells zv.cells (c-(m'+1))).toList,rfl,rfl,hn.mono (Ren.put_le hne),(fun h=>by cases h),?_⟩ a1 a2 a3 a4 ?_
      · rw [hzl,zeroCells_len,hzs,← Nat.add_mul];congr 1;omega
      · rw [← e1,Rel];exact ⟨_,_,c,Ren.put_at,by simp [CapR],rfl⟩
    · rename_i b o n k
      have hx0:=hx
      rw [Rel] at hx
      obtain ⟨B,s,cap,hB,hc,rfl⟩:=hx
      simp only [CapR] at hc
      subst hc
      cases hb:Nat.ble (n+(m'+1)) cap with
      | true =>
        rw [hb,cond_true] at h
        have hb:=Nat.ble_eq.mp hb
        obtain ⟨l,e',op,hg,h⟩:=rdK_some h
        obtain ⟨hl,h⟩:=wrK_some h
        rw [wtK_eq] at h
        simp only [natK_eq,Option.some.injEq,Prod.mk.injEq] at h
        obtain ⟨e1,e2⟩:=h
        have hdx:D b:=hD b (by rw [← e2];rcases ins_has st.base b st.R with q | q;exact .inl (ins_sub _ _ _ _ q);exact .inr q)
        obtain ⟨b',s',pre,us,vs,q1,q2,qz,q3,q4,q5⟩:=hs.row hdx hg
        rw [hB] at q1;cases q1
        have hul:=q3.len
        obtain ⟨w',hr,a1,a2,a3,a4,a5,a6⟩:=run_append_in (P:=P) (ty:=ty) (w:=w) (b:=B) (o:=s.1+o) (n:=n) (k:=cap) hu hi q2 hz h1 hb (by rw [← qz];simp;omega)
        refine ⟨_,w',ρ,hr,by rw [← e1,Rel];exact ⟨B,s,cap,hB,rfl,rfl⟩,?_⟩
        rw [← e2]
        have e3:s.1+o+n*i.size=pre.length+(o+n*i.size):=by rw [qz];omega
        rw [e3,wrl_pre (by simp;omega),wrl_mid (by omega)] at a5
        refine Step.upd hs hdx (by rw [hg];simp) hB (o:=.cells (l.take (o+n*i.size)++news++l.drop (o+n*i.size+news.length)) e' op) (ob:=_) ⟨pre,us.take (o+n*i.size)++nv++us.drop (o+n*i.size+nv.length),vs,rfl,qz,?_,q4,?_⟩ (fun y hy=>ins_sub _ _ _ _ (ins_sub _ _ _ _ hy)) (ins_sub _ _ _) (ins_has _ _ _) a1 a2 a3 a4 a5 a6
        · rw [hnl];exact ((q3.take _).app hn).app (q3.drop _)
        · simp;omega
      | false =>
        rw [hb,cond_false] at h
        have hb:¬ (n+(m'+1)≤cap):=fun q=>by rw [Nat.ble_eq.mpr q] at hb;cases hb
        have hc:=(bif_of h).1
        replace h:=(bif_of h).2
        obtain ⟨hc1,hc2⟩:=by rw [Bool.and_eq_true] at hc;exact hc
        have hc1:=Nat.ble_eq.mp hc1
        have hc2:=Nat.ble_eq.mp hc2
        obtain ⟨l,e',op,hg,h⟩:=rdK_some h
        obtain ⟨hl,h⟩:=subK_some h
        simp only [appK_eq,newK_eq,natK_eq,Option.some.injEq,Prod.mk.injEq] at h
        obtain ⟨e1,e2⟩:=h
        have hdx:D b:=hD b (by rw [← e2];exact ins_has _ _ _)
        obtain ⟨b',s',pre,us,vs,q1,q2,qz,q3,q4,q5⟩:=hs.row hdx hg
        rw [hB] at q1;cases q1
        have hul:=q3.len
        have hsrc:Src P w i.size (.slice (some ⟨B,s.1+o,none⟩) n cap) n ((us.drop o).take (n*i.size)):=⟨⟨_,_,rfl,fun _=>⟨_,_,rfl,cells_of q2 qz⟩⟩,by simp;omega⟩
        have hne:ρ st.nx=none:=hf _ (Nat.le_refl _) (by rw [← e2];exact Nat.lt_succ_self _)
        obtain ⟨c,w',hc,hr,a1,a2,a3,a4⟩:=run_append_new (P:=P) (ty:=ty) (w:=w) (olds:=(us.drop o).take (n*i.size)) (n:=n) (k:=cap) hu hi hzv rfl (fun q=>by cases q) (fun {w'} hw=>run_firstCells_src hsrc hw) hz (Nat.succ_pos _) (by omega) hc2 hc1
        refine Did.after hs (ins_sub st.base b st.R) ?_
        have hs':Sim ρ D ⟨st.h,st.nx,st.base,ins st.base b st.R,st.W⟩ w:=⟨hs.live,hs.inj,hs.lt⟩
        refine Did.new (n:=(0,c*i.size)) hs' hf e2.symm hr ⟨[],(us.drop o).take (n*i.size)++nv,(Builtin.zeroCells zv.cells (c-(n+(m'+1)))).toList,rfl,rfl,(((q3.drop o).take _).app hn).mono (Ren.put_le hne),(fun h=>by cases h),?_⟩ a1 a2 a3 a4 ?_
        · rw [List.length_append,hsrc.len,hzl,zeroCells_len,hzs,← Nat.add_mul,← Nat.add_mul];congr 1;omega
        · rw [← e1,Rel];exact ⟨_,_,c,Ren.put_at,by simp [CapR],rfl⟩
    · rename_i b o n sz'
      have hx0:=hx
      rw [Rel] at hx
      obtain ⟨B,s,cap,hB,hc,rfl⟩:=hx
      simp only [CapR] at hc
      have hq:=(bif_of h).1
      replace h:=(bif_of h).2
      obtain ⟨hq1,hq2⟩:=by rw [Bool.and_eq_true] at hq;exact hq
      have hq1:=Nat.eq_of_beq_eq_true hq1
      have hq2:=Nat.blt_eq.mp hq2
      subst hq1
      have hcc:=(bif_of h).1
      replace h:=(bif_of h).2
      obtain ⟨hc1,hc2⟩:=by rw [Bool.and_eq_true] at hcc;exact hcc
      have hc1:=Nat.ble_eq.mp hc1
      have hc2:=Nat.ble_eq.mp hc2
      obtain ⟨l,e',op,hg,h⟩:=rdK_some h
      have ho:=(bif_of h).1
      replace h:=(bif_of h).2
      obtain ⟨ho1,ho2⟩:=by rw [Bool.and_eq_true] at ho;exact ho
      have ho2:=Nat.eq_of_beq_eq_true ho2
      subst ho2
      cases hb:Nat.ble (o+(n+(m'+1))*i.size) (llen l) with
      | true=>rw [hb] at h;cases h
      | false =>
        rw [hb,cond_false] at h
        have hb:¬ (o+(n+(m'+1))*i.size≤l.length):=fun q=>by rw [← llen_eq] at q;rw [Nat.ble_eq.mpr q] at hb;cases hb
        obtain ⟨hl,h⟩:=subK_some h
        simp only [appK_eq,Tr.setK_eq,natK_eq,insK_eq,Option.some.injEq,Prod.mk.injEq] at h
        obtain ⟨e1,e2⟩:=h
        have hdx:D b:=hD b (by rw [← e2];exact ins_has _ _ _)
        obtain ⟨b',s',pre,us,vs,q1,q2,qz,q3,q4,q5⟩:=hs.row hdx hg
        rw [hB] at q1;cases q1
        have hul:=q3.len
        have hne:ρ st.nx=none:=hf _ (Nat.le_refl _) (by rw [← e2];exact Nat.lt_succ_self _)
        have hsrc:Src P w i.size (.slice (some ⟨B,s.1+o,none⟩) n cap) n ((us.drop o).take (n*i.size)):=⟨⟨_,_,rfl,fun _=>⟨_,_,rfl,cells_of q2 qz⟩⟩,by simp;omega⟩
        have hk1:∀ y,y∈st.W→y∈ins st.base b st.W:=ins_sub _ _ _
        by_cases hroom:n+(m'+1)≤cap
        · -- within the room
          have hm1:(n+(m'+1))*i.size≤cap*i.size:=Nat.mul_le_mul_right _ hroom
          have hzl2:nv.length=(m'+1)*i.size:=hzl
          have hm2:(n+(m'+1))*i.size=n*i.size+(m'+1)*i.size:=Nat.add_mul ..
          obtain ⟨w',hr,a1,a2,a3,a4,a5,a6⟩:=run_append_in (P:=P) (ty:=ty) (w:=w) (b:=B) (o:=s.1+o) (n:=n) (k:=cap) hu hi q2 hz h1 hroom (by rw [← qz];simp;omega)
          have e3:s.1+o+n*i.size=pre.length+(o+n*i.size):=by rw [qz];omega
          rw [e3,wrl_pre (by simp;omega)] at a5
          have e4:wrl (us++vs) (o+n*i.size) nv=us.take o++(((us.drop o).take (n*i.size)++nv)++(us++vs).drop (o+n*i.size+nv.length)):=by
            have e5:us++vs=us.take (o+n*i.size)++(us++vs).drop (o+n*i.size):=by
              conv=>lhs;rw [← List.take_append_drop (o+n*i.size) (us++vs)]
              rw [List.take_append_of_le_length (by omega)]
            have e6:(us.take (o+n*i.size)).length=o+n*i.size:=by simp;omega
            have e7:=wrl_eq nv (us.take (o+n*i.size)) ((us++vs).drop (o+n*i.size)) (by simp;omega)
            rw [e6,← e5] at e7
            rw [e7,List.drop_drop]
            have e8:us.take (o+n*i.size)=us.take o++(us.drop o).take (n*i.size):=by rw [List.take_add]
            rw [e8]
            simp [List.append_assoc]
          rw [e4,← List.append_assoc] at a5
          refine ⟨_,w',ρ.put st.nx B (s.1+o,s.2-o),hr,?_,?_⟩
          · rw [← e1,Rel];exact ⟨B,(s.1+o,s.2-o),cap,Ren.put_at,by simp only [CapR];omega,rfl⟩
          · rw [← e2]
            refine Step.move hs hne hdx (by rw [hg];simp) hB (s1:=(s.1+o,s.2-o)) (o:=.cells ((l.drop o).take (n*i.size)++news) e' true) (ob:=_) ⟨pre++us.take o,(us.drop o).take (n*i.size)++nv,(us++vs).drop (o+n*i.size+nv.length),rfl,?_,(((q3.drop o).take _).app hn).mono (Ren.put_le hne),(fun h=>by cases h),?_⟩ (ins_sub _ _ _) hk1 (ins_has _ _ _) a1 a2 a3 a4 a5 a6
            · simp;omega
            · simp;omega
        · obtain ⟨c,w',hc',hr,a1,a2,a3,a4⟩:=run_append_new (P:=P) (ty:=ty) (w:=w) (olds:=(us.drop o).take (n*i.size)) (n:=n) (k:=cap) hu hi hzv rfl (fun q=>by cases q) (fun {w'} hw=>run_firstCells_src hsrc hw) hz (Nat.succ_pos _) (by omega) hc2 hc1
          have hkill:=Step.kill (x:=b) (R:=ins st.base b st.R) (W:=ins st.base b st.W) hs (ins_sub _ _ _) hk1 (ins_has _ _ _)
          have hrel:RelL ρ ((l.drop o).take (n*i.size)++news) ((us.drop o).take (n*i.size)++nv):=((q3.drop o).take _).app hn
          refine ⟨_,w',ρ.put st.nx w.heap.size (0,c*i.size),hr,?_,?_⟩
          · rw [← e1,Rel];exact ⟨_,_,c,Ren.put_at,by simp [CapR],rfl⟩
          · have hnew:=Step.new (o:=.cells ((l.drop o).take (n*i.size)++news) e' true) (s:=(0,c*i.size)) (ob:=_) hkill.sim hne ⟨[],(us.drop o).take (n*i.size)++nv,(Builtin.zeroCells zv.cells (c-(n+(m'+1)))).toList,rfl,rfl,hrel.mono (Ren.put_le hne),(fun h=>by cases h),(by
              rw [List.length_append,hsrc.len,hzl,zeroCells_len,hzs,← Nat.add_mul,← Nat.add_mul];congr 1;omega)⟩ a1 a2 a3 a4
            rw [← e2]
            exact hkill.trans hnew
    · cases h

theorem apS_ok {T T' ty:TypeId} {x y v:SV} {u z:Value} (hx:Rel ρ x u) (hy:Rel ρ y z) (h:apS P T T' x y st=some (v,st')) (hs:Sim ρ D st w) (hD:∀ x,x∈st'.R∨st.base≤x→D x) (hf:Free ρ st.nx st'.nx) :
    Did P ρ D st st' w v (Builtin.append_ #[T,T'] ty #[u,z]):=by
  unfold apS at h
  have hT:=(bif_of h).1
  replace h:=(bif_of h).2
  have hT:=Nat.eq_of_beq_eq_true hT
  subst hT
  split at h
  · rename_i e sz by' zz hT
    obtain ⟨hu,i,zv,hi,rfl,rfl,hz,rfl,hzc,hzl⟩:=slT_ok hT
    obtain ⟨n,vs,us,R',h,hR,hr,hsrc⟩:=srcK_ok hy h hs fun n vs st1 h1 x hx=>hD x (by
      rcases hx with q | q
      · exact .inl (apC_R h1 x q)
      · exact .inr q)
    refine Did.after hs hR ?_
    exact apC_ok hu hi hz (by rw [hzc];simpa using hzl) hx hsrc hr h ⟨hs.live,hs.inj,hs.lt⟩ hD hf
  · cases h
end
end Go.TX
