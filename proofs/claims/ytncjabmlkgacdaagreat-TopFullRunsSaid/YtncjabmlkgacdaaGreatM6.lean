/-
  What is proved here: the corners, and the function that yields them. Conditions: none; each contract states its own.
-/
import Derived.Test.YtncjabmlkgacdaaGreatM5
import Derived.Test.YtncjabmlkgacdaaGreatM3
import Derived.Test.YtncjabmlkgacdaaGreatM2
set_option linter.unusedVariables false
set_option linter.unusedSimpArgs false
namespace Go.Proofs.YtncjabmlkgacdaaGreat.Sp
open Go Go.TH
attribute [local irreducible] W WO pt
set_option maxRecDepth 10000
set_option maxHeartbeats 2000000
abbrev sAt (S:List Sd) (i:Nat):Sd:=S.getD i sd0
def cJ (S:List Sd) (i j:Nat):List Tru:=if crs (sAt S i) (sAt S j)=0 then [] else [if crs (sAt S i) (sAt S j)<0 then cnr (sAt S j) (sAt S i) else cnr (sAt S i) (sAt S j)]
def cI (S:List Sd) (i:Nat):List Tru:=foot (sAt S i)::seg 0 i (cJ S i)
def crnS (S:List Sd):List Tru:=seg 0 S.length (cI S)
def pI (S:List Sd) (i:Nat):Nat:=(seg 0 i (cI S)).length
def pJ (S:List Sd) (i j:Nat):Nat:=pI S i+((seg 0 j (cJ S i)).length+1)
section
variable {S:List Sd} {i j:Nat}
theorem crn_foot (h:i<S.length):(crnS S)[pI S i]?=some (foot (sAt S i)):=seg_get (lo:=0) (i:=i) (t:=0) (g:=cI S) (by omega) rfl h
theorem crn_at (h:i<S.length) (hj:j<i) {t:Tru} (hc:cJ S i j=[t]):(crnS S)[pJ S i j]?=some t:=by
 refine seg_get (lo:=0) (i:=i) (g:=cI S) (by omega) ?_ h
 unfold cI
 rw [List.getElem?_cons_succ]
 have:=seg_get (lo:=0) (i:=j) (t:=0) (g:=cJ S i) (x:=t) (by omega) (by rw [hc];rfl) (hi:=i) hj
 exact this
theorem pJ_0:pJ S i 0=pI S i+1:=by unfold pJ;rw [seg_none];rfl
theorem pJ_succ:pJ S i (j+1)=pJ S i j+(cJ S i j).length:=by unfold pJ;rw [seg_succ (by omega),List.length_append];omega
theorem pI_succ:pI S (i+1)=pJ S i i:=by unfold pJ pI;rw [seg_succ (by omega),List.length_append];rfl
theorem crnS_len:(crnS S).length=pI S S.length:=rfl
theorem pI_0:pI S 0=0:=by unfold pI;rw [seg_none];rfl
theorem cJ_z (h:crs (sAt S i) (sAt S j)=0):cJ S i j=[]:=if_pos h
theorem cJ_n (h:crs (sAt S i) (sAt S j)<0):cJ S i j=[cnr (sAt S j) (sAt S i)]:=by unfold cJ;rw [if_neg (by omega),if_pos h]
theorem cJ_p (h:0<crs (sAt S i) (sAt S j)):cJ S i j=[cnr (sAt S i) (sAt S j)]:=by unfold cJ;rw [if_neg (by omega),if_neg (by omega)]
theorem crn_mem {a b:Sd} (ha:a∈S) (hb:b∈S) (hd:0<crs a b):cnr a b∈crnS S:=by
 obtain ⟨i,hi,rfl⟩:=ex_at ha
 obtain ⟨j,hj,rfl⟩:=ex_at hb
 have hij:i≠j:=fun e=>by subst e;unfold crs at hd;have:=Int.mul_comm (S.getD i sd0).a (S.getD i sd0).b;omega
 rcases Nat.lt_or_gt_of_ne hij with h | h
 ·exact mem_seg.2 ⟨j,by omega,hj,by
   unfold cI
   refine List.mem_cons_of_mem _ (mem_seg.2 ⟨i,by omega,h,?_⟩)
   rw [cJ_n (by rw [crs_anti];have h0:0<crs (sAt S i) (sAt S j):=hd;omega)];exact List.mem_singleton.2 rfl⟩
 ·exact mem_seg.2 ⟨i,by omega,hi,by
   unfold cI
   refine List.mem_cons_of_mem _ (mem_seg.2 ⟨j,by omega,h,?_⟩)
   rw [cJ_p hd];exact List.mem_singleton.2 rfl⟩
theorem foot_mem {b:Sd} (hb:b∈S):foot b∈crnS S:=by
 obtain ⟨i,hi,rfl⟩:=ex_at hb
 exact mem_seg.2 ⟨i,by omega,hi,by unfold cI;exact List.mem_cons_self⟩
end
theorem sds_get {l:List Rn}:∀ {i:Nat},i<2*l.length→sAt (sds l) i=if i%2=0 then loS (l.getD (i/2) rn0) else hiS (l.getD (i/2) rn0):=by
 induction l with
 | nil=>intro i h;simp at h
 | cons r l ih =>
  intro i h
  match i with
  | 0=>rfl
  | 1=>rfl
  | i+2 =>
   have:=ih (i:=i) (by simp at h;omega)
   show sAt (sds l) i=_
   rw [this,show (i+2)%2=i%2 by omega,show (i+2)/2=i/2+1 by omega]
   rfl
theorem sds_sq {l:List Rn} {i:Nat} (h:i<2*l.length):(l.getD (i/2) rn0).p*(l.getD (i/2) rn0).p+(l.getD (i/2) rn0).q*(l.getD (i/2) rn0).q=sq (sAt (sds l) i):=by
 rw [sds_get h]
 split
 ·rfl
 ·show _ = -(l.getD (i/2) rn0).p * -(l.getD (i/2) rn0).p + -(l.getD (i/2) rn0).q * -(l.getD (i/2) rn0).q
  rw [Int.neg_mul_neg,Int.neg_mul_neg]
def gT (x:Tru) (v:Value):HP:=fun _=>v=truV x
theorem gT_in {x:Tru} {a b d:Int} (ha:a=x.a) (hb:b=x.b) (hd:d=x.d) {H:List HP}:∀ h,sat H h→sat (gT x (.agg #[.int .i64 a,.int .i64 b,.int .i64 d])::H) h:=fun h' hs=>⟨fun _=>none,h',split_none h',by subst ha hb hd;rfl,hs⟩
theorem gT_val {C:Cx Tryz.prog} {H:List HP} {x:Tru} {v:Value} (s:Sub H [gT x v]):∀ (L:List HP) w,TH.Inv C.w0 C.M (L++H) w→v=truV x:=fun L w hi=>by
 cases s with
 | cons p _ =>
  obtain ⟨_,h⟩:=(hi.pickL p).piece
  exact h
theorem c_corners (w:World) (p:Addr):Ct Tryz.prog 91 [.pointer (some p)].toArray w fun v w'=>∃ Hq,(∃ b1,v=.func (.func 167) #[] #[.pointer (some ⟨b1,0,none⟩)] ∧
 Hq=[pt b1 (.cells #[.pointer (some p)] 100 (0,0))])∧Inv w [] Hq w':=by
 refine Ct.of mixed tyTab Tryz.func91 rfl rfl (W.sreg (WO.box1 rfl (by rfl) rfl (fun b1 hb1=>(WO.p rfl rfl (WO.nil (W.sreg (WO.p rfl rfl (WO.p rfl rfl (WO.nil (W.ret ?_))))))))))
 exact fin.ret (Res.one rfl (RV.tmp rfl)) ⟨b1,rfl,rfl⟩
theorem sub0v (lb n i:Nat):Value.slice (if n=0 then some ⟨lb,0,none⟩ else ofs (some ⟨lb,0,none⟩) (0*3)) (i-0) (n-0)=.slice (some ⟨lb,0,none⟩) i n:=by
 split <;> simp [ofs,Addr.add]
theorem OwE.cellsSub {C:Cx Tryz.prog} {H:List HP} {e lb n i j:Nat} {S:List Sd} (s:Sub H [OwE encSd e 3 (.slice (some ⟨lb,0,none⟩) n n) S]) (hj:j<S.length):Cells C H (elt (.slice (some ⟨lb,0,none⟩) i n) j 3) [.int .i64 (sAt S j).a,.int .i64 (sAt S j).b,.int .i64 (sAt S j).c]:=by
 cases s with
 | cons p _ =>
  have:=OwE.cells (C:=C) encSd_ok p hj sd0
  rw [elt_eq] at this ⊢
  exact this
theorem RdF.cellsPr {C:Cx Tryz.prog} {H:List HP} {o:Value} {l:List Rn} (h:RdF encPr 10 C.B C.w0 o l) {z:Int} {i:Nat} (hz:z=((i/2:Nat):Int)) (h1:i<2*l.length):Cells C H (elt o z.toNat 10) (encPr (l.getD (i/2) rn0)):=by
 subst hz
 exact RdF.cells h (by omega) rn0
end Go.Proofs.YtncjabmlkgacdaaGreat.Sp
namespace Go.Proofs.YtncjabmlkgacdaaGreat.Sp
open Go Go.TH
attribute [local irreducible] W WO pt
set_option maxRecDepth 10000
set_option maxHeartbeats 20000000
theorem mstL_1 {S:List Sd} {p q:Int} {g:List Int} (h:g.length=1) (h2:fit2 (atS S g 0) ⟨p,q,0⟩ (siz ⟨p,q,0⟩) (-(siz (atS S g 0)))):mstL S p q g=[(tkS S g [siz ⟨p,q,0⟩] g.length,siz (atS S g 0))]:=by
 have e:mstG S p q g=some ([siz ⟨p,q,0⟩],siz (atS S g 0)):=by unfold mstG;rw [if_pos h];unfold mst1;rw [if_pos h2]
 unfold mstL;rw [e]
theorem mstL_1n {S:List Sd} {p q:Int} {g:List Int} (h:g.length=1) (h2:¬ fit2 (atS S g 0) ⟨p,q,0⟩ (siz ⟨p,q,0⟩) (-(siz (atS S g 0)))):mstL S p q g=[]:=by
 have e:mstG S p q g=none:=by unfold mstG;rw [if_pos h];unfold mst1;rw [if_neg h2]
 unfold mstL;rw [e]
theorem mstL_2 {S:List Sd} {p q:Int} {g:List Int} {x y d:Int} (h:¬ g.length=1) (hc:(crs (atS S g 0) (atS S g 1)<0∧d = -(crs (atS S g 0) (atS S g 1))∧x = -(crs ⟨p,q,0⟩ (atS S g 1))∧y = -(crs (atS S g 0) ⟨p,q,0⟩))∨(¬ crs (atS S g 0) (atS S g 1)<0∧d=crs (atS S g 0) (atS S g 1)∧x=crs ⟨p,q,0⟩ (atS S g 1)∧y=crs (atS S g 0) ⟨p,q,0⟩)):mstL S p q g=if 0<d∧0≤x∧0≤y then [(tkS S g [x,y] g.length,d)] else []:=by
 have e:mstG S p q g=if 0<d∧0≤x∧0≤y then some ([x,y],d) else none:=by
  unfold mstG;rw [if_neg h];unfold mst2
  rcases hc with ⟨h1,rfl,rfl,rfl⟩ | ⟨h1,rfl,rfl,rfl⟩
  ·rw [if_pos h1]
  ·rw [if_neg h1]
 unfold mstL;rw [e]
 split
 ·rename_i c
  split at c
  ·rename_i c2;cases c;rw [if_pos c2]
  ·cases c
 ·rename_i c
  split at c
  ·cases c
  ·rename_i c2;rw [if_neg c2]
theorem c_most (w:World) (p:Addr) (rv sv:Value) (rl:List Rn) (hT:Tbl w.heap.size w p rv sv rl) (hok:OkRs rl) (hl:rl.length≤12) (u v:Int) (hu:OkN u) (hv:OkN v) :
 RetE Tryz.prog 109 [.pointer (some p),.int .i64 u,.int .i64 v].toArray w (fun r=>∃ (q:Option Nat) (s:Sd) (t:Int),r=.tuple #[mdV (.map q) s t,.bool (bl (Bnd (sds rl) u v))]∧(Bnd (sds rl) u v→MostI (sds rl) u v (s,t))):=by
 refine RetE.of mixed tyTab Tryz.func109 rfl rfl ?_
 replace hT:Tbl (fnCx mixed tyTab Tryz.f109.ntmps w).B (fnCx mixed tyTab Tryz.f109.ntmps w).w0 p rv sv rl:=hT
 have hsl:=sds_len rl
 have hS:=sds_ok hok
 have hw:=want_ok hu hv
 have zw:=siz_bd hw
 have hg2:=g2_len (S:=sds rl) (by omega)
 refine W.sreg (WO.box1 rfl (by rfl) rfl (fun b1 hb1=>(WO.alloc rfl rfl rfl (fun b2 hb2=>(WO.p rfl rfl (WO.nil (W.sreg (WO.p rfl rfl (WO.p rfl rfl (WO.build rfl rfl rfl rfl rfl (WO.alloc rfl rfl rfl (fun b3 hb3=>(WO.storeA rfl rfl rfl rfl Pick.head rfl rfl (WO.nil (W.seq (W.sreg (WO.loadA rfl rfl (Cells.own Pick.head) rfl rfl (WO.build rfl rfl rfl rfl rfl (WO.eqT rfl rfl (eq124z u v) rfl (WO.nil ?_))))))))))))))))))))
 refine W.cond_bl rfl (fun c1=>?_) (fun c1=>?_)
 ·refine W.sreg (WO.makeMap rfl (fun mb=>(WO.build rfl rfl rfl rfl rfl (WO.build rfl rfl rfl rfl rfl (WO.storeA rfl rfl rfl rfl (Pick.tail (Pick.tail (Pick.head))) rfl rfl (WO.p rfl rfl (WO.nil (W.ret ?_))))))))
  (have q:=mb;exact fin.ret (Res.two rfl (RV.cell rfl rfl rfl (Cells.own (by repeat exact .head))) (RV.tmp rfl)) ⟨some mb,sd0,1,by rw [bl_t.2 (show Bnd (sds rl) u v from .inl ⟨by omega,by omega⟩)] <;> rfl,fun _=>⟨.inl ⟨by omega,by omega,rfl⟩,fun y _ h0=>absurd ⟨by omega,by omega⟩ h0⟩⟩)
 ·refine W.skip (W.sreg (WO.alloc rfl rfl rfl (fun b4 hb4=>(WO.nil (W.seq (W.sreg (WO.load rfl rfl (Cell.own (Pick.tail (Pick.tail (Pick.tail (Pick.head)))) rfl) rfl (WO.call (Post:=fun v Hq=>∃ b1 b2,v=.func (.func 174) #[] #[.pointer (some ⟨b1,0,none⟩),.pointer (some ⟨b2,0,none⟩)]∧Hq=[pt b2 (.cells #[.int .i64 2] 3 (0,0)),pt b1 (.cells #[.pointer (some p)] 100 (0,0))]) rfl Tryz.call98 (fun L w hi=>c_groups w p 2) rfl ?_))))))))
  rintro _ _ ⟨b5,b6,rfl,rfl⟩
  refine WO.nil (W.block (W.chg (all_nil (b:=b4) (by repeat constructor)) ?_))
  refine W.rangeFuncB (Jmp.ret) [pt b6 (.cells #[.int .i64 ((2:Nat):Int)] 3 (0,0)),pt b5 (.cells #[.pointer (some p)] 100 (0,0))] (fun t=>[AllP b4 (msts (sds rl) u v t),pt b3 (.cells #[.int .i64 u,.int .i64 v,.int .i64 0] 96 (0,0)),pt b2 (.cells #[.map none,.int .i64 0,.int .i64 0,.int .i64 0,.int .i64 0] 98 (0,0)),pt b1 (.cells #[.pointer (some p)] 100 (0,0))]) (g2S (sds rl)) (fun g1 v1_=>OwE encI 3 1 v1_ g1) ((g2S (sds rl)).length) rfl rfl rfl Tryz.call174 (by repeat (first | exact Sub.nil | refine Sub.cons (by repeat constructor) ?_)) ?_ ?_ ?_ ?_
  ·intro ll Hc hy w1 M1 hB1 hk1 hM1 hi1
   exact c_groups1 _ _ p rv sv rl hT (sds rl).length rfl 2 (by omega) (by omega) _ ll Hc hy b5 b6 w1 M1 hB1 hk1 hM1 hi1
  ·intro ll w1 M1 hB1 hM1 hk1 t g1 v1_ hx hle1
   have hlt:=(List.getElem?_eq_some_iff.1 hx).1
   have hg12:=grp_ok (m:=2) (by omega) (List.mem_of_getElem? hx)
   obtain ⟨hgr,hg2⟩:=hg12
   have hgn:=hgr.len
   replace hT:=hT.agree hk1
   refine W.fact (OwE.sl (enc:=encI) (e:=3) (sz:=1) (v:=v1_) (xs:=g1) (by repeat exact .head)) (fun hgsl=>(W.region (WO.p rfl rfl (WO.nil (W.block (W.seq ?_))))))
   have h0:=hgr.rng _ (getD_mem (show 0<g1.length by omega) 0)
   have s0:OkS 20 100000 (atS (sds rl) g1 0):=hS _ (getD_mem (show (g1.getD 0 0).toNat<(sds rl).length by omega) sd0)
   have z0:=siz_bd s0
   have u0:=s0.up (A':=20) (B':=1000000) (by omega) (by omega)
   have v0:=(OkS.by_ s0 (n:=siz ⟨u,v,0⟩) (N:=40) (by omega)).up (A':=1000000000000000) (B':=1000000000000000) (by omega) (by omega)
   have v1:=(OkS.by_ hw (n := -(siz (atS (sds rl) g1 0))) (N:=40) (by omega)).up (A':=1000000000000000) (B':=1000000000000000) (by omega) (by omega)
   refine W.drawD 10 [.b 0 [],.r 1 [],.r 2 [],.b 3 [],.r 4 [],.r 5 [],.b 6 [],.r 7 [],.b 8 [],.a 9 11 (.cells #[.int .i64 0,.int .i64 0,.int .i64 0] 96 (0,0))] [] (A0:=[]) (Sub.refl _) (by kernel_rfl) ?_ ?_
   ·exact (ALok.b (ALok.r (ALok.r (ALok.b (ALok.r (ALok.r (ALok.b (ALok.r (ALok.b (ALok.cons rfl rfl rfl rfl rfl ALok.nil))))))))))
   refine DT.b rfl rfl rfl (WO.load rfl rfl (Cell.own (Pick.tail (Pick.tail (Pick.tail (Pick.tail (Pick.head))))) rfl) rfl (WO.nil ⟨rfl,rfl⟩)) (DT.r rfl rfl rfl (WO.p rfl rfl (WO.nil ⟨rfl,rfl⟩)) (DT.r rfl rfl rfl (WO.field rfl rfl rfl (WO.nil ⟨rfl,rfl⟩)) ?_))
   refine' DT.b rfl rfl rfl ?hq ?_
   case hq =>
    refine' WO.load (v:=_) rfl rfl ?hc rfl ?_
    case hc=>((refine RdC.cellAt hT.c (j:=1) ?_;rfl))
    exact WO.nil ⟨rfl,rfl⟩
   refine DT.r rfl rfl rfl (WO.p rfl rfl (WO.nil ⟨rfl,rfl⟩)) (DT.r rfl rfl rfl (WO.indexAddr (i:=0) rfl rfl rfl hgsl (by omega) rfl (WO.nil ⟨rfl,rfl⟩)) ?_)
   refine' DT.b rfl rfl rfl ?hq ?_
   case hq =>
    refine' WO.load (v:=_) rfl rfl ?hc rfl ?_
    case hc=>(first | (refine OwE.cell0 (enc:=encI) (e:=3) (sz:=1) (xs:=g1) (i:=0) encI_ok (by repeat exact .head) (by omega) 0 ?_;rfl))
    exact WO.nil ⟨rfl,rfl⟩
   refine' DT.r rfl rfl rfl ?hq ?_
   case hq =>
    refine' WO.indexAddrZ (n:=_) rfl rfl rfl ?hs ?h00 ?h1 rfl ?_
    case hs=>exact hT.s.sl
    case h00=>omega
    case h1=>(omega)
    exact WO.nil ⟨rfl,rfl⟩
   refine' DT.b rfl rfl rfl ?hq ?_
   case hq =>
    refine' WO.loadA (vs:=_) rfl rfl ?hc ?hl rfl ?_
    case hc=>((refine RdF.cellsT ?_ h0.1 h0.2 rfl;exact hT.s))
    case hl=>rfl
    exact WO.nil ⟨rfl,rfl⟩
   refine DT.a (fun b5=>(DT.nil [_,_,_,_,_,_] rfl (WO.storeA rfl rfl rfl rfl Pick.head rfl rfl (WO.nil (W.seq (W.sreg (WO.p rfl rfl (WO.len rfl rfl hgsl rfl (WO.p rfl rfl (WO.nil ?_))))))))))
   refine W.cond_bl rfl (fun c2=>?_) (fun c2=>?_)
   ·refine W.seq ?_
    refine W.drawD 3 [.b 0 [],.b 1 [],.b 2 []] [] (A0:=[]) (Sub.refl _) (by kernel_rfl) ?_ ?_
    ·repeat constructor
    refine DT.b rfl rfl rfl (WO.loadA rfl rfl (Cells.own (Pick.tail (Pick.tail (Pick.tail (Pick.head))))) rfl rfl (WO.nil ⟨rfl,rfl⟩)) (DT.b rfl rfl rfl (WO.callR rfl Tryz.call175 (fun L w hi=>c_size w ⟨u,v,0⟩ hw) rfl (WO.nil ⟨rfl,rfl⟩)) (DT.b rfl rfl rfl (WO.loadA rfl rfl (Cells.own Pick.head) rfl rfl (WO.nil ⟨rfl,rfl⟩)) (DT.nil [_,_,_,_,_,_] rfl (WO.callR rfl Tryz.call175 (fun L w hi=>c_size w (atS (sds rl) g1 0) u0) rfl (WO.p rfl rfl (WO.p rfl rfl (WO.nil (W.seq (W.seq ?_)))))))))
    refine W.drawD 16 [.b 0 [],.b 1 [],.b 2 [],.r 3 [],.r 4 [],.b 5 [],.r 6 [],.b 7 [],.b 8 [],.r 9 [],.r 10 [],.b 11 [],.r 15 [],.c 12 [],.f 13 [],.b 14 []] [] (A0:=[]) (Sub.refl _) (by kernel_rfl) ?_ ?_
    ·repeat constructor
    refine DT.b rfl rfl rfl (WO.loadA rfl rfl (Cells.own Pick.head) rfl rfl (WO.nil ⟨rfl,rfl⟩)) (DT.b rfl rfl rfl (WO.loadA rfl rfl (Cells.own (Pick.tail (Pick.tail (Pick.tail (Pick.head))))) rfl rfl (WO.nil ⟨rfl,rfl⟩)) (DT.b rfl rfl rfl (WO.callR rfl Tryz.call168 (fun L w hi=>c_cross w (atS (sds rl) g1 0) ⟨u,v,0⟩ u0 hw) rfl (WO.nil ⟨rfl,rfl⟩)) (DT.r rfl rfl rfl (WO.p rfl rfl (WO.nil ⟨rfl,rfl⟩)) ?_)))
    refine DT.rB rfl rfl rfl (WO.p rfl rfl (WO.nil ⟨rfl,rfl⟩)) (fun c3=>?_) (fun c3=>?_)
    ·refine DT.b rfl rfl rfl (WO.go' rfl (WO.loadA rfl rfl (Cells.own Pick.head) rfl rfl (WO.nil ⟨rfl,rfl⟩))) (DT.r rfl rfl rfl (WO.pg rfl rfl rfl (WO.nil ⟨rfl,rfl⟩)) (DT.b rfl rfl rfl (WO.go' rfl (WO.callR rfl Tryz.call154 (fun L w hi=>c_by w (atS (sds rl) g1 0) (siz ⟨u,v,0⟩) (s0.up (by omega) (by omega)) (by omega)) rfl (WO.nil ⟨rfl,rfl⟩))) (DT.b rfl rfl rfl (WO.go' rfl (WO.loadA rfl rfl (Cells.own (Pick.tail (Pick.tail (Pick.tail (Pick.head))))) rfl rfl (WO.nil ⟨rfl,rfl⟩))) (DT.r rfl rfl rfl (WO.pg rfl rfl rfl (WO.nil ⟨rfl,rfl⟩)) (DT.r rfl rfl rfl (WO.go' rfl (WO.neg rfl (by unfold in64;omega) rfl (WO.nil ⟨rfl,rfl⟩))) ?_)))))
     refine DT.b rfl rfl rfl (WO.go' rfl (WO.callR rfl Tryz.call154 (fun L w hi=>c_by w ⟨u,v,0⟩ (-(siz (atS (sds rl) g1 0))) (hw.up (by omega) (by omega)) (by omega)) rfl (WO.nil ⟨rfl,rfl⟩))) (DT.r rfl rfl rfl (WO.go' rfl (WO.build rfl rfl rfl rfl rfl (WO.nil ⟨rfl,rfl⟩))) (DT.c [_,_,_,_,_,_] rfl rfl rfl rfl (WO.go' rfl (WO.buildSl rfl rfl rfl rfl rfl rfl rfl rfl rfl (fun v6=>?_)))))
     refine WO.nil ⟨_,[_],rfl,rfl,(Keep.r (Keep.b (Keep.r (Keep.r (Keep.b (Keep.b (Keep.r (Keep.b (Keep.r (Keep.r (Keep.b (Keep.b (Keep.b Keep.nil))))))))))))),?_⟩
     refine DT.f [_,_,_,_,_,_,_] rfl rfl rfl rfl (WO.go' rfl (WO.callR (r:=sdV (addS (byS (atS (sds rl) g1 0) (siz ⟨u,v,0⟩)) (byS ⟨u,v,0⟩ (-(siz (atS (sds rl) g1 0)))))) rfl Tryz.call153 (fun L w hi=>by have h:=c_sum w _ [byS (atS (sds rl) g1 0) (siz ⟨u,v,0⟩),byS ⟨u,v,0⟩ (-(siz (atS (sds rl) g1 0)))] (RdF.of_ow (e:=96) encSd_ok (by repeat exact .head) hi) (by simp) (all_twoS v0 v1);rw [addS_two] at h;exact h) rfl (WO.nil ⟨rfl,rfl⟩))) (DT.b rfl rfl rfl (WO.go' rfl (WO.callR rfl Tryz.call100 (fun L w hi=>c_flat w _) rfl (WO.nil ⟨rfl,rfl⟩))) (DT.nil [_,_,_,_,_,_,_] rfl (WO.go' rfl ?_)))
     refine WO.eqT rfl rfl (eq124z (addS (byS (atS (sds rl) g1 0) (siz ⟨u,v,0⟩)) (byS ⟨u,v,0⟩ (-(siz (atS (sds rl) g1 0))))).a (addS (byS (atS (sds rl) g1 0) (siz ⟨u,v,0⟩)) (byS ⟨u,v,0⟩ (-(siz (atS (sds rl) g1 0))))).b) rfl (WO.p rfl rfl (WO.nil ?_))
     refine W.cond_bl rfl (fun c4=>?_) (fun c4=>?_)
     ·have hml:=mstL_1 (p:=u) (q:=v) (show g1.length=1 by omega) ⟨by assumption,by assumption⟩
      refine W.chgE (all_open1 (b:=b4) (cs:=msts (sds rl) u v t) (by repeat constructor)) ?_
      rintro gv -
      refine W.chgE (all_open2 (b:=b4) (v:=gv) (cs:=msts (sds rl) u v t)) ?_
      rintro gxs hgx
      have hgl:gxs.length≤1000:=by have:=msts_len (sds rl) u v t;rw [← hgx,List.length_map] at this;omega
      refine W.drawD 8 [.b 0 [],.b 1 [],.r 2 [],.r 3 [],.r 4 [],.c 5 [],.c 6 [],.c 7 []] [] (A0:=[_]) (H0:=[_,_,_,_,_,_,_]) (.cons (Pick.tail .head) (.cons .head (.cons .head (.cons .head (.cons .head (.cons .head (.cons .head (.cons .head .nil)))))))) (by kernel_rfl) ?_ ?_
      ·repeat constructor
      refine DT.b rfl rfl rfl (WO.load rfl rfl (Cell.own Pick.head rfl) rfl (WO.nil ⟨rfl,rfl⟩)) (DT.b rfl rfl rfl (WO.load rfl rfl (Cell.own (Pick.tail (Pick.tail (Pick.tail (Pick.tail (Pick.tail (Pick.tail (Pick.head))))))) rfl) rfl (WO.nil ⟨rfl,rfl⟩)) (DT.r rfl rfl rfl (WO.p rfl rfl (WO.nil ⟨rfl,rfl⟩)) (DT.r rfl rfl rfl (WO.p rfl rfl (WO.nil ⟨rfl,rfl⟩)) (DT.r rfl rfl rfl (WO.p rfl rfl (WO.nil ⟨rfl,rfl⟩)) (DT.c [_,_,_,_,_,_,_,_] rfl rfl rfl rfl (WO.buildSl rfl rfl rfl rfl rfl rfl rfl rfl rfl (fun v7=>?_)))))))
      refine WO.nil ⟨_,[_,_],rfl,rfl,(Keep.r (Keep.r (Keep.r (Keep.b (Keep.b Keep.nil))))),?_⟩
      refine DT.c [_,_,_,_,_,_,_,_,_] rfl rfl rfl rfl (WO.call (Post:=fun r Hq=>∃ mb:Nat,r=mdV (.map (some mb)) (tkS (sds rl) g1 [siz ⟨u,v,0⟩] g1.length) (siz (atS (sds rl) g1 0))∧Hq=[pt mb (.map (tkL g1 [siz ⟨u,v,0⟩] g1.length).toArray g1.length)]) rfl Tryz.call176 (fun L w hi=>c_take w p rv sv rl (hT.later hi) hok _ _ g1 _ (siz (atS (sds rl) g1 0)) (RdF.of_ow (e:=3) encI_ok (by repeat constructor) hi) (RdF.of_ow (e:=2) (xs:=[siz ⟨u,v,0⟩]) encI_ok (by repeat exact .head) hi) hgr.rng hgr.nd (by show 1=_;omega) hgr.len.2 (fun y hy=>by simp at hy;subst hy;omega)) rfl ?_)
      rintro _ _ ⟨mb,rfl,rfl⟩
      refine WO.nil ⟨_,[_,_,_],rfl,rfl,(Keep.c (Keep.r (Keep.r (Keep.r (Keep.b (Keep.b Keep.nil)))))),?_⟩
      refine DT.c [_,_,_,_,_,_,_,_,_,_] rfl rfl rfl rfl (WO.buildSl rfl rfl rfl rfl rfl rfl rfl rfl rfl (fun v8=>?_))
      refine WO.nil ⟨_,[_,_,_,_],rfl,rfl,(Keep.c (Keep.c (Keep.r (Keep.r (Keep.r (Keep.b (Keep.b Keep.nil))))))),?_⟩
      refine DT.nil [_,_,_,_,_,_,_,_,_,_,_] rfl ?_
      refine' WO.appendE (enc:=encMd) (m:=1) (xs:=gxs) (ys:=[(mb,tkS (sds rl) g1 [siz ⟨u,v,0⟩] g1.length,siz (atS (sds rl) g1 0))]) encMd_ok rfl rfl rfl rfl rfl (by repeat constructor) (isSl_lit (by omega) (fun _=>⟨_,_,rfl⟩)) (by omega) rfl (OwC.cells .head) (by omega) (by omega) rfl (fun g c=>?_)
      refine WO.store1 rfl rfl rfl (by rfl) (Pick.tail (Pick.tail (Pick.tail (Pick.tail (Pick.head))))) rfl (WO.nil (W.exit (blk_same (endR.go (bl_t.2 hlt) ?_))))
      (rw [msts_succ hx,hml];exact all_pack (by repeat (first | exact Sub.nil | refine Sub.cons (by repeat constructor) ?_)) (by rw [List.map_append,hgx];rfl))
     ·refine W.skip (W.exit (blk_same (endR.go (bl_t.2 hlt) ?_)))
      (rw [msts_succ hx,mstL_1n (by omega) (fun q=>by exact absurd q.2 (by assumption)),List.append_nil];exact fun h hs=>Sub.sat (by repeat (first | exact Sub.nil | refine Sub.cons (by repeat constructor) ?_)) hs)
    ·refine DT.b rfl rfl rfl (WO.no rfl rfl (WO.nil ⟨rfl,rfl⟩)) (DT.r rfl rfl rfl (WO.no rfl rfl (WO.nil ⟨rfl,rfl⟩)) (DT.b rfl rfl rfl (WO.no rfl rfl (WO.nil ⟨rfl,rfl⟩)) (DT.b rfl rfl rfl (WO.no rfl rfl (WO.nil ⟨rfl,rfl⟩)) (DT.r rfl rfl rfl (WO.no rfl rfl (WO.nil ⟨rfl,rfl⟩)) (DT.r rfl rfl rfl (WO.no rfl rfl (WO.nil ⟨rfl,rfl⟩)) (DT.b rfl rfl rfl (WO.no rfl rfl (WO.nil ⟨rfl,rfl⟩)) (DT.r rfl rfl rfl (WO.no rfl rfl (WO.nil ⟨rfl,rfl⟩)) (DT.c [_,_,_,_,_,_] rfl rfl rfl rfl (WO.no rfl rfl ?_)))))))))
     refine WO.nil ⟨_,[],rfl,rfl,(Keep.r (Keep.b (Keep.r (Keep.r (Keep.b (Keep.b (Keep.r (Keep.b (Keep.r (Keep.r (Keep.b (Keep.b (Keep.b Keep.nil))))))))))))),?_⟩
     refine DT.f [_,_,_,_,_,_] rfl rfl rfl rfl (WO.no rfl rfl (WO.nil ⟨rfl,rfl⟩)) (DT.b rfl rfl rfl (WO.no rfl rfl (WO.nil ⟨rfl,rfl⟩)) (DT.nil [_,_,_,_,_,_] rfl (WO.no rfl rfl (WO.p rfl rfl (WO.nil (W.cond_f rfl (W.skip (W.exit (blk_same (endR.go (bl_t.2 hlt) ?_))))))))))
     (rw [msts_succ hx,mstL_1n (by omega) (fun q=>by exact absurd q.1 (by assumption)),List.append_nil];exact fun h hs=>Sub.sat (by repeat (first | exact Sub.nil | refine Sub.cons (by repeat constructor) ?_)) hs)
   ·refine W.skip (W.seq ?_)
    have h1:=hgr.rng _ (getD_mem (show 1<g1.length by omega) 0)
    have s1:OkS 20 100000 (atS (sds rl) g1 1):=hS _ (getD_mem (show (g1.getD 1 0).toNat<(sds rl).length by omega) sd0)
    have u1:=s1.up (A':=20) (B':=1000000) (by omega) (by omega)
    have d1:=(crs_bd u0 u1).2.2
    have d2:=(crs_bd hw u1).2.2
    have d3:=(crs_bd u0 hw).2.2
    refine W.drawD 10 [.b 0 [],.r 1 [],.r 2 [],.b 3 [],.r 4 [],.r 5 [],.b 6 [],.r 7 [],.b 8 [],.a 9 14 (.cells #[.int .i64 0,.int .i64 0,.int .i64 0] 96 (0,0))] [] (A0:=[]) (Sub.refl _) (by kernel_rfl) ?_ ?_
    ·exact (ALok.b (ALok.r (ALok.r (ALok.b (ALok.r (ALok.r (ALok.b (ALok.r (ALok.b (ALok.cons rfl rfl rfl rfl rfl ALok.nil))))))))))
    refine DT.b rfl rfl rfl (WO.load rfl rfl (Cell.own (Pick.tail (Pick.tail (Pick.tail (Pick.tail (Pick.tail (Pick.head)))))) rfl) rfl (WO.nil ⟨rfl,rfl⟩)) (DT.r rfl rfl rfl (WO.p rfl rfl (WO.nil ⟨rfl,rfl⟩)) (DT.r rfl rfl rfl (WO.field rfl rfl rfl (WO.nil ⟨rfl,rfl⟩)) ?_))
    refine' DT.b rfl rfl rfl ?hq ?_
    case hq =>
     refine' WO.load (v:=_) rfl rfl ?hc rfl ?_
     case hc=>((refine RdC.cellAt hT.c (j:=1) ?_;rfl))
     exact WO.nil ⟨rfl,rfl⟩
    refine DT.r rfl rfl rfl (WO.p rfl rfl (WO.nil ⟨rfl,rfl⟩)) (DT.r rfl rfl rfl (WO.indexAddr (i:=1) rfl rfl rfl hgsl (by omega) rfl (WO.nil ⟨rfl,rfl⟩)) ?_)
    refine' DT.b rfl rfl rfl ?hq ?_
    case hq =>
     refine' WO.load (v:=_) rfl rfl ?hc rfl ?_
     case hc=>(first | (refine OwE.cell0 (enc:=encI) (e:=3) (sz:=1) (xs:=g1) (i:=1) encI_ok (by repeat constructor) (by omega) 0 ?_;rfl))
     exact WO.nil ⟨rfl,rfl⟩
    refine' DT.r rfl rfl rfl ?hq ?_
    case hq =>
     refine' WO.indexAddrZ (n:=_) rfl rfl rfl ?hs ?h00 ?h1 rfl ?_
     case hs=>exact hT.s.sl
     case h00=>omega
     case h1=>(omega)
     exact WO.nil ⟨rfl,rfl⟩
    refine' DT.b rfl rfl rfl ?hq ?_
    case hq =>
     refine' WO.loadA (vs:=_) rfl rfl ?hc ?hl rfl ?_
     case hc=>((refine RdF.cellsT ?_ h1.1 h1.2 rfl;exact hT.s))
     case hl=>rfl
     exact WO.nil ⟨rfl,rfl⟩
    refine DT.a (fun b9=>(DT.nil [_,_,_,_,_,_,_] rfl (WO.storeA rfl rfl rfl rfl Pick.head rfl rfl (WO.nil (W.sreg (WO.loadA rfl rfl (Cells.own (Pick.tail (Pick.head))) rfl rfl (WO.p rfl rfl (WO.p rfl rfl (WO.nil (W.sreg (WO.p rfl rfl (WO.loadA rfl rfl (Cells.own Pick.head) rfl rfl (WO.callCR (first:=[sdV (atS (sds rl) g1 0)]) (captured:=[]) rfl rfl Tryz.call168 (fun L w hi=>c_cross w (atS (sds rl) g1 0) (atS (sds rl) g1 1) u0 u1) rfl (WO.p rfl rfl (WO.nil (W.seq ?_))))))))))))))))
    refine W.drawD 5 [.b 0 [],.b 1 [],.b 2 [],.r 3 [],.b 4 []] [] (A0:=[]) (Sub.refl _) (by kernel_rfl) ?_ ?_
    ·repeat constructor
    refine DT.b rfl rfl rfl (WO.loadA rfl rfl (Cells.own (Pick.tail (Pick.tail (Pick.tail (Pick.tail (Pick.head)))))) rfl rfl (WO.nil ⟨rfl,rfl⟩)) (DT.b rfl rfl rfl (WO.loadA rfl rfl (Cells.own Pick.head) rfl rfl (WO.nil ⟨rfl,rfl⟩)) (DT.b rfl rfl rfl (WO.callR rfl Tryz.call168 (fun L w hi=>c_cross w ⟨u,v,0⟩ (atS (sds rl) g1 1) hw u1) rfl (WO.nil ⟨rfl,rfl⟩)) (DT.r rfl rfl rfl (WO.p rfl rfl (WO.nil ⟨rfl,rfl⟩)) (DT.b rfl rfl rfl (WO.loadA rfl rfl (Cells.own (Pick.tail (Pick.tail (Pick.tail (Pick.tail (Pick.head)))))) rfl rfl (WO.nil ⟨rfl,rfl⟩)) (DT.nil [_,_,_,_,_,_,_] rfl ?_)))))
    refine WO.callCR (first:=[sdV (atS (sds rl) g1 0)]) (captured:=[]) rfl rfl Tryz.call168 (fun L w hi=>c_cross w (atS (sds rl) g1 0) ⟨u,v,0⟩ u0 hw) rfl (WO.p rfl rfl (WO.p rfl rfl (WO.nil (W.seq (W.sreg (WO.p rfl rfl (WO.p rfl rfl (WO.nil ?_))))))))
    refine W.cond_bl rfl (fun c5=>?_) (fun c5=>?_)
    ·refine W.region (WO.p rfl rfl (WO.neg rfl (by unfold in64;omega) rfl (WO.p rfl rfl (WO.neg rfl (by unfold in64;omega) rfl (WO.p rfl rfl (WO.neg rfl (by unfold in64;omega) rfl (WO.p rfl rfl (WO.p rfl rfl (WO.p rfl rfl (WO.nil (W.sreg (WO.p rfl rfl (WO.p rfl rfl (WO.p rfl rfl ?_))))))))))))))
     refine WO.guard_bl rfl rfl (fun c6=>?_) (fun c6=>?_)
     ·refine WO.pg rfl rfl rfl (WO.pg rfl rfl rfl (WO.p rfl rfl (WO.p rfl rfl ?_)))
      refine WO.guard_bl rfl rfl (fun c7=>?_) (fun c7=>?_)
      ·refine WO.pg rfl rfl rfl (WO.pg rfl rfl rfl (WO.p rfl rfl (WO.nil ?_)))
       refine W.cond_bl rfl (fun c8=>?_) (fun c8=>?_)
       ·(have hml:=(mstL_2 (S:=sds rl) (p:=u) (q:=v) (g:=g1) (d := -(crs (atS (sds rl) g1 0) (atS (sds rl) g1 1))) (x := -(crs ⟨u,v,0⟩ (atS (sds rl) g1 1))) (y := -(crs (atS (sds rl) g1 0) ⟨u,v,0⟩)) (by omega) (.inl ⟨by assumption,rfl,rfl,rfl⟩)).trans (if_pos ⟨by assumption,by assumption,by assumption⟩);have hneg:True:=trivial)
        refine W.chgE (all_open1 (b:=b4) (cs:=msts (sds rl) u v t) (by repeat constructor)) ?_
        rintro gv -
        refine W.chgE (all_open2 (b:=b4) (v:=gv) (cs:=msts (sds rl) u v t)) ?_
        rintro gxs hgx
        have hgl:gxs.length≤1000:=by have:=msts_len (sds rl) u v t;rw [← hgx,List.length_map] at this;omega
        refine W.drawD 9 [.b 0 [],.b 1 [],.r 2 [],.r 3 [],.r 4 [],.r 5 [],.c 6 [],.c 7 [],.c 8 []] [] (A0:=[_]) (H0:=[_,_,_,_,_,_,_]) (.cons (Pick.tail .head) (.cons .head (.cons .head (.cons .head (.cons .head (.cons .head (.cons .head (.cons .head .nil)))))))) (by kernel_rfl) ?_ ?_
        ·repeat constructor
        refine DT.b rfl rfl rfl (WO.load rfl rfl (Cell.own Pick.head rfl) rfl (WO.nil ⟨rfl,rfl⟩)) (DT.b rfl rfl rfl (WO.load rfl rfl (Cell.own (Pick.tail (Pick.tail (Pick.tail (Pick.tail (Pick.tail (Pick.tail (Pick.head))))))) rfl) rfl (WO.nil ⟨rfl,rfl⟩)) (DT.r rfl rfl rfl (WO.p rfl rfl (WO.nil ⟨rfl,rfl⟩)) (DT.r rfl rfl rfl (WO.p rfl rfl (WO.nil ⟨rfl,rfl⟩)) (DT.r rfl rfl rfl (WO.p rfl rfl (WO.nil ⟨rfl,rfl⟩)) (DT.r rfl rfl rfl (WO.p rfl rfl (WO.nil ⟨rfl,rfl⟩)) (DT.c [_,_,_,_,_,_,_,_] rfl rfl rfl rfl (WO.buildSl rfl rfl rfl rfl rfl rfl rfl rfl rfl (fun v10=>?_))))))))
        refine WO.nil ⟨_,[_,_],rfl,rfl,(Keep.r (Keep.r (Keep.r (Keep.r (Keep.b (Keep.b Keep.nil)))))),?_⟩
        refine DT.c [_,_,_,_,_,_,_,_,_] rfl rfl rfl rfl ?_
        (have q:=hneg;clear q;refine WO.call (Post:=fun r Hq=>∃ mb:Nat,r=mdV (.map (some mb)) (tkS (sds rl) g1 [-(crs ⟨u,v,0⟩ (atS (sds rl) g1 1)),-(crs (atS (sds rl) g1 0) ⟨u,v,0⟩)] g1.length) (-(crs (atS (sds rl) g1 0) (atS (sds rl) g1 1)))∧Hq=[pt mb (.map (tkL g1 [-(crs ⟨u,v,0⟩ (atS (sds rl) g1 1)),-(crs (atS (sds rl) g1 0) ⟨u,v,0⟩)] g1.length).toArray g1.length)]) rfl Tryz.call176 (fun L w hi=>c_take w p rv sv rl (hT.later hi) hok _ _ g1 _ _ (RdF.of_ow (e:=3) encI_ok (by repeat constructor) hi) (RdF.of_ow (e:=2) (xs:=[-(crs ⟨u,v,0⟩ (atS (sds rl) g1 1)),-(crs (atS (sds rl) g1 0) ⟨u,v,0⟩)]) encI_ok (by repeat exact .head) hi) hgr.rng hgr.nd (by show 2=_;omega) hgr.len.2 (y2_bd (by omega) (by omega))) rfl ?_)
        rintro _ _ ⟨mb,rfl,rfl⟩
        refine WO.nil ⟨_,[_,_,_],rfl,rfl,(Keep.c (Keep.r (Keep.r (Keep.r (Keep.r (Keep.b (Keep.b Keep.nil))))))),?_⟩
        refine DT.c [_,_,_,_,_,_,_,_,_,_] rfl rfl rfl rfl (WO.buildSl rfl rfl rfl rfl rfl rfl rfl rfl rfl (fun v11=>?_))
        refine WO.nil ⟨_,[_,_,_,_],rfl,rfl,(Keep.c (Keep.c (Keep.r (Keep.r (Keep.r (Keep.r (Keep.b (Keep.b Keep.nil)))))))),?_⟩
        refine DT.nil [_,_,_,_,_,_,_,_,_,_,_] rfl ?_
        (have q:=hneg;clear q;refine' WO.appendE (enc:=encMd) (m:=1) (xs:=gxs) (ys:=[(mb,tkS (sds rl) g1 [-(crs ⟨u,v,0⟩ (atS (sds rl) g1 1)),-(crs (atS (sds rl) g1 0) ⟨u,v,0⟩)] g1.length,-(crs (atS (sds rl) g1 0) (atS (sds rl) g1 1)))]) encMd_ok rfl rfl rfl rfl rfl (by repeat constructor) (isSl_lit (by omega) (fun _=>⟨_,_,rfl⟩)) (by omega) rfl (OwC.cells .head) (by omega) (by omega) rfl (fun g c=>?_))
        refine WO.store1 rfl rfl rfl (by rfl) (Pick.tail (Pick.tail (Pick.tail (Pick.tail (Pick.head))))) rfl (WO.nil (endR.go (bl_t.2 hlt) ?_))
        (rw [msts_succ hx,hml];exact all_pack (by repeat (first | exact Sub.nil | refine Sub.cons (by repeat constructor) ?_)) (by rw [List.map_append,hgx];rfl))
       ·refine W.skip (endR.go (bl_t.2 hlt) ?_)
        (rw [msts_succ hx,mstL_2 (d := -(crs (atS (sds rl) g1 0) (atS (sds rl) g1 1))) (x := -(crs ⟨u,v,0⟩ (atS (sds rl) g1 1))) (y := -(crs (atS (sds rl) g1 0) ⟨u,v,0⟩)) (by omega) (.inl ⟨by assumption,rfl,rfl,rfl⟩),if_neg (by omega),List.append_nil];exact fun h hs=>Sub.sat (by repeat (first | exact Sub.nil | refine Sub.cons (by repeat constructor) ?_)) hs)
      ·refine WO.no rfl rfl (WO.no rfl rfl (WO.p rfl rfl (WO.nil (W.cond_f rfl (W.skip (endR.go (bl_t.2 hlt) ?_))))))
       (rw [msts_succ hx,mstL_2 (d := -(crs (atS (sds rl) g1 0) (atS (sds rl) g1 1))) (x := -(crs ⟨u,v,0⟩ (atS (sds rl) g1 1))) (y := -(crs (atS (sds rl) g1 0) ⟨u,v,0⟩)) (by omega) (.inl ⟨by assumption,rfl,rfl,rfl⟩),if_neg (by omega),List.append_nil];exact fun h hs=>Sub.sat (by repeat (first | exact Sub.nil | refine Sub.cons (by repeat constructor) ?_)) hs)
     ·exfalso;omega
    ·refine W.skip (W.sreg (WO.p rfl rfl (WO.p rfl rfl (WO.p rfl rfl ?_))))
     refine WO.guard_bl rfl rfl (fun c9=>?_) (fun c9=>?_)
     ·refine WO.pg rfl rfl rfl (WO.pg rfl rfl rfl (WO.p rfl rfl (WO.p rfl rfl ?_)))
      refine WO.guard_bl rfl rfl (fun c10=>?_) (fun c10=>?_)
      ·refine WO.pg rfl rfl rfl (WO.pg rfl rfl rfl (WO.p rfl rfl (WO.nil ?_)))
       refine W.cond_bl rfl (fun c11=>?_) (fun c11=>?_)
       ·(have hml:=(mstL_2 (S:=sds rl) (p:=u) (q:=v) (g:=g1) (d:=crs (atS (sds rl) g1 0) (atS (sds rl) g1 1)) (x:=crs ⟨u,v,0⟩ (atS (sds rl) g1 1)) (y:=crs (atS (sds rl) g1 0) ⟨u,v,0⟩) (by omega) (.inr ⟨by assumption,rfl,rfl,rfl⟩)).trans (if_pos ⟨by assumption,by assumption,by assumption⟩);have hpos:True:=trivial)
        refine W.chgE (all_open1 (b:=b4) (cs:=msts (sds rl) u v t) (by repeat constructor)) ?_
        rintro gv -
        refine W.chgE (all_open2 (b:=b4) (v:=gv) (cs:=msts (sds rl) u v t)) ?_
        rintro gxs hgx
        have hgl:gxs.length≤1000:=by have:=msts_len (sds rl) u v t;rw [← hgx,List.length_map] at this;omega
        refine W.drawD 9 [.b 0 [],.b 1 [],.r 2 [],.r 3 [],.r 4 [],.r 5 [],.c 6 [],.c 7 [],.c 8 []] [] (A0:=[_]) (H0:=[_,_,_,_,_,_,_]) (.cons (Pick.tail .head) (.cons .head (.cons .head (.cons .head (.cons .head (.cons .head (.cons .head (.cons .head .nil)))))))) (by kernel_rfl) ?_ ?_
        ·repeat constructor
        refine DT.b rfl rfl rfl (WO.load rfl rfl (Cell.own Pick.head rfl) rfl (WO.nil ⟨rfl,rfl⟩)) (DT.b rfl rfl rfl (WO.load rfl rfl (Cell.own (Pick.tail (Pick.tail (Pick.tail (Pick.tail (Pick.tail (Pick.tail (Pick.head))))))) rfl) rfl (WO.nil ⟨rfl,rfl⟩)) (DT.r rfl rfl rfl (WO.p rfl rfl (WO.nil ⟨rfl,rfl⟩)) (DT.r rfl rfl rfl (WO.p rfl rfl (WO.nil ⟨rfl,rfl⟩)) (DT.r rfl rfl rfl (WO.p rfl rfl (WO.nil ⟨rfl,rfl⟩)) (DT.r rfl rfl rfl (WO.p rfl rfl (WO.nil ⟨rfl,rfl⟩)) (DT.c [_,_,_,_,_,_,_,_] rfl rfl rfl rfl (WO.buildSl rfl rfl rfl rfl rfl rfl rfl rfl rfl (fun v12=>?_))))))))
        refine WO.nil ⟨_,[_,_],rfl,rfl,(Keep.r (Keep.r (Keep.r (Keep.r (Keep.b (Keep.b Keep.nil)))))),?_⟩
        refine DT.c [_,_,_,_,_,_,_,_,_] rfl rfl rfl rfl ?_
        (have q:=hpos;clear q;refine WO.call (Post:=fun r Hq=>∃ mb:Nat,r=mdV (.map (some mb)) (tkS (sds rl) g1 [crs ⟨u,v,0⟩ (atS (sds rl) g1 1),crs (atS (sds rl) g1 0) ⟨u,v,0⟩] g1.length) (crs (atS (sds rl) g1 0) (atS (sds rl) g1 1))∧Hq=[pt mb (.map (tkL g1 [crs ⟨u,v,0⟩ (atS (sds rl) g1 1),crs (atS (sds rl) g1 0) ⟨u,v,0⟩] g1.length).toArray g1.length)]) rfl Tryz.call176 (fun L w hi=>c_take w p rv sv rl (hT.later hi) hok _ _ g1 _ _ (RdF.of_ow (e:=3) encI_ok (by repeat constructor) hi) (RdF.of_ow (e:=2) (xs:=[crs ⟨u,v,0⟩ (atS (sds rl) g1 1),crs (atS (sds rl) g1 0) ⟨u,v,0⟩]) encI_ok (by repeat exact .head) hi) hgr.rng hgr.nd (by show 2=_;omega) hgr.len.2 (y2_bd (by omega) (by omega))) rfl ?_)
        rintro _ _ ⟨mb,rfl,rfl⟩
        refine WO.nil ⟨_,[_,_,_],rfl,rfl,(Keep.c (Keep.r (Keep.r (Keep.r (Keep.r (Keep.b (Keep.b Keep.nil))))))),?_⟩
        refine DT.c [_,_,_,_,_,_,_,_,_,_] rfl rfl rfl rfl (WO.buildSl rfl rfl rfl rfl rfl rfl rfl rfl rfl (fun v13=>?_))
        refine WO.nil ⟨_,[_,_,_,_],rfl,rfl,(Keep.c (Keep.c (Keep.r (Keep.r (Keep.r (Keep.r (Keep.b (Keep.b Keep.nil)))))))),?_⟩
        refine DT.nil [_,_,_,_,_,_,_,_,_,_,_] rfl ?_
        (have q:=hpos;clear q;refine' WO.appendE (enc:=encMd) (m:=1) (xs:=gxs) (ys:=[(mb,tkS (sds rl) g1 [crs ⟨u,v,0⟩ (atS (sds rl) g1 1),crs (atS (sds rl) g1 0) ⟨u,v,0⟩] g1.length,crs (atS (sds rl) g1 0) (atS (sds rl) g1 1))]) encMd_ok rfl rfl rfl rfl rfl (by repeat constructor) (isSl_lit (by omega) (fun _=>⟨_,_,rfl⟩)) (by omega) rfl (OwC.cells .head) (by omega) (by omega) rfl (fun g c=>?_))
        refine WO.store1 rfl rfl rfl (by rfl) (Pick.tail (Pick.tail (Pick.tail (Pick.tail (Pick.head))))) rfl (WO.nil (endR.go (bl_t.2 hlt) ?_))
        (rw [msts_succ hx,hml];exact all_pack (by repeat (first | exact Sub.nil | refine Sub.cons (by repeat constructor) ?_)) (by rw [List.map_append,hgx];rfl))
       ·refine W.skip (endR.go (bl_t.2 hlt) ?_)
        (rw [msts_succ hx,mstL_2 (d:=crs (atS (sds rl) g1 0) (atS (sds rl) g1 1)) (x:=crs ⟨u,v,0⟩ (atS (sds rl) g1 1)) (y:=crs (atS (sds rl) g1 0) ⟨u,v,0⟩) (by omega) (.inr ⟨by assumption,rfl,rfl,rfl⟩),if_neg (by omega),List.append_nil];exact fun h hs=>Sub.sat (by repeat (first | exact Sub.nil | refine Sub.cons (by repeat constructor) ?_)) hs)
      ·refine WO.no rfl rfl (WO.no rfl rfl (WO.p rfl rfl (WO.nil (W.cond_f rfl (W.skip (endR.go (bl_t.2 hlt) ?_))))))
       (rw [msts_succ hx,mstL_2 (d:=crs (atS (sds rl) g1 0) (atS (sds rl) g1 1)) (x:=crs ⟨u,v,0⟩ (atS (sds rl) g1 1)) (y:=crs (atS (sds rl) g1 0) ⟨u,v,0⟩) (by omega) (.inr ⟨by assumption,rfl,rfl,rfl⟩),if_neg (by omega),List.append_nil];exact fun h hs=>Sub.sat (by repeat (first | exact Sub.nil | refine Sub.cons (by repeat constructor) ?_)) hs)
     ·refine WO.no rfl rfl (WO.no rfl rfl (WO.p rfl rfl (WO.p rfl rfl (WO.no rfl rfl (WO.no rfl rfl (WO.p rfl rfl (WO.nil (W.cond_f rfl (W.skip (endR.go (bl_t.2 hlt) ?_))))))))))
      (rw [msts_succ hx,mstL_2 (d:=crs (atS (sds rl) g1 0) (atS (sds rl) g1 1)) (x:=crs ⟨u,v,0⟩ (atS (sds rl) g1 1)) (y:=crs (atS (sds rl) g1 0) ⟨u,v,0⟩) (by omega) (.inr ⟨by assumption,rfl,rfl,rfl⟩),if_neg (by omega),List.append_nil];exact fun h hs=>Sub.sat (by repeat (first | exact Sub.nil | refine Sub.cons (by repeat constructor) ?_)) hs)
  ·intro hAll
   rw [msts_end]
   refine W.seq (W.chgE (all_open1 (b:=b4) (cs:=mstA (sds rl) u v) (by repeat constructor)) ?_)
   rintro gv -
   refine W.chgE (all_open2 (b:=b4) (v:=gv) (cs:=mstA (sds rl) u v)) ?_
   rintro gxs hgx
   refine W.fact (OwE.formCap (enc:=encMd) (e:=98) (sz:=5) (v:=gv) (xs:=gxs) (by repeat constructor)) (fun hfc=>?_)
   obtain ⟨ga,gc,rfl,hgc⟩:=hfc
   refine W.fact (OwE.sl (enc:=encMd) (e:=98) (sz:=5) (v:=.slice ga gxs.length gc) (xs:=gxs) (by repeat constructor)) (fun hgs=>?_)
   have hgk:∀ y∈gxs,OkM y.2:=fun y hy=>mstA_ok hS (sds_nz hok) hu hv _ (hgx▸List.mem_map_of_mem hy)
   refine W.sreg (WO.load rfl rfl (Cell.own Pick.head rfl) rfl (WO.len rfl rfl hgs rfl (WO.p rfl rfl (WO.nil ?_))))
   refine W.cond_bl rfl (fun c12=>?_) (fun c12=>?_)
   ·refine W.sreg (WO.build rfl rfl rfl rfl rfl (WO.storeA rfl rfl rfl rfl (Pick.tail (Pick.tail (Pick.tail (Pick.tail (Pick.tail (Pick.head)))))) rfl rfl (WO.p rfl rfl (WO.nil (W.ret ?_)))))
    (have hz:mstA (sds rl) u v=[]:=(by rw [← hgx];exact List.map_eq_nil_iff.2 (List.eq_nil_of_length_eq_zero (by omega)));have hb:¬ Bnd (sds rl) u v:=fun q=>q.elim (fun q=>by omega) (fun q=>q hz);exact fin.ret (Res.two rfl (RV.cell rfl rfl rfl (Cells.own (by repeat exact .head))) (RV.tmp rfl)) ⟨none,sd0,0,by rw [bl_f.2 hb] <;> rfl,fun q=>absurd q hb⟩)
   ·refine W.skip (W.sreg (WO.load rfl rfl (Cell.own Pick.head rfl) rfl (WO.callE rfl Tryz.call182 (fun L w hi=>c_first w ga gc gxs (RdF.of_ow (e:=98) encMd_ok (by repeat constructor) hi) hgc (by omega) hgk) rfl ?_)))
    rintro _ ⟨y,hy,rfl⟩
    refine WO.storeA rfl rfl rfl rfl (Pick.tail (Pick.tail (Pick.tail (Pick.tail (Pick.tail (Pick.head)))))) rfl rfl (WO.p rfl rfl (WO.nil (W.ret ?_)))
    (have q:=hy;exact fin.ret (Res.two rfl (RV.cell rfl rfl rfl (Cells.own (by repeat exact .head))) (RV.tmp rfl)) ⟨some y.1,y.2.1,y.2.2,by rw [bl_t.2 (show Bnd (sds rl) u v from .inr (fun e=>by rw [e] at hgx;have hz:=congrArg List.length hgx;rw [List.length_map] at hz;exact absurd hz (by show ¬ (gxs.length=0);omega)))] <;> rfl,fun _=>firstM_most (by omega) hgx hy⟩)
  ·intro hStop
   exfalso;omega
end Go.Proofs.YtncjabmlkgacdaaGreat.Sp
namespace Go.Proofs.YtncjabmlkgacdaaGreat.Sp
open Go Go.TH
attribute [local irreducible] W WO pt
set_option maxRecDepth 10000
set_option maxHeartbeats 2000000
def leE (l:List Rn) (p q:Int):Int:=if chkA l p q≠0 then chkA l p q else if Dbt (sds l) then 20 else if Bnd (sds l) p q then 0 else 5
theorem leE_1 {l:List Rn} {p q:Int} (h:chkA l p q≠0):leE l p q=chkA l p q:=by unfold leE;rw [if_pos h]
theorem leE_20 {l:List Rn} {p q:Int} (h:¬ chkA l p q≠0) (g:Dbt (sds l)):leE l p q=20:=by unfold leE;rw [if_neg h,if_pos g]
theorem leE_5 {l:List Rn} {p q:Int} (h:¬ chkA l p q≠0) (g:¬ Dbt (sds l)) (b:¬ Bnd (sds l) p q):leE l p q=5:=by unfold leE;rw [if_neg h,if_neg g,if_neg b]
theorem leE_0 {l:List Rn} {p q:Int} (h:¬ chkA l p q≠0) (g:¬ Dbt (sds l)) (b:Bnd (sds l) p q):leE l p q=0:=by unfold leE;rw [if_neg h,if_neg g,if_pos b]
def BestR (l:List Rn) (p q:Int) (r:Value):Prop:=∃ (m:Option Nat) (s:Sd) (t:Int),r=.tuple #[mdV (.map m) s t,.int .i64 (leE l p q)]∧(leE l p q=0→MostI (sds l) p q (s,t))
theorem c_best (w:World) (v:Value) (l:List Rn) (p q:Int) (hR:RdF encRn 4 w.heap.size w v l):RetE Tryz.prog 51 [v,.int .i64 p,.int .i64 q].toArray w (BestR l p q):=by
 refine RetE.of mixed tyTab Tryz.func51 rfl rfl ?_
 replace hR:RdF encRn 4 (fnCx mixed tyTab Tryz.f51.ntmps w).B (fnCx mixed tyTab Tryz.f51.ntmps w).w0 v l:=hR
 refine W.sreg (WO.alloc rfl rfl rfl (fun b1 hb1=>(WO.p rfl rfl (WO.nil (W.seq (W.sreg (WO.p rfl rfl (WO.p rfl rfl (WO.p rfl rfl (WO.callR rfl Tryz.call108 (fun L w hi=>c_check w v l p q (hR.later hi)) rfl (WO.p rfl rfl (WO.nil (W.sreg (WO.p rfl rfl (WO.p rfl rfl (WO.nil ?_))))))))))))))))
 refine W.cond_bl rfl (fun c1=>?_) (fun c1=>?_)
 ·refine W.sreg (WO.build rfl rfl rfl rfl rfl (WO.p rfl rfl (WO.storeA rfl rfl rfl rfl Pick.head rfl rfl (WO.p rfl rfl (WO.nil (W.ret ?_))))))
  first
  | exact fin.ret (Res.two rfl (RV.cell rfl rfl rfl (Cells.own (by repeat exact .head))) (RV.tmp rfl)) ⟨none,sd0,0,by rw [leE_1 (by assumption)] <;> rfl,fun e=>by rw [leE_1 (by assumption)] at e;omega⟩
  | exact fin.ret (Res.two rfl (RV.cell rfl rfl rfl (Cells.own (by repeat first | exact .head | apply Pick.tail))) (RV.tmp rfl)) ⟨none,sd0,0,by rw [leE_20 (by assumption) (by assumption)] <;> rfl,fun e=>by rw [leE_20 (by assumption) (by assumption)] at e;omega⟩
  | exact fin.ret (Res.two rfl (RV.cell rfl rfl rfl (Cells.own (by repeat first | exact .head | apply Pick.tail))) (RV.tmp rfl)) ⟨none,sd0,0,by rw [leE_5 (by assumption) (by assumption) (by assumption)] <;> rfl,fun e=>by rw [leE_5 (by assumption) (by assumption) (by assumption)] at e;omega⟩
  | exact fin.ret (Res.two rfl (RV.cell rfl rfl rfl (Cells.own (by repeat first | exact .head | apply Pick.tail))) (RV.tmp rfl)) ⟨mq,ms,mt,by rw [leE_0 (by assumption) (by assumption) (by assumption)],fun _=>hms (by assumption)⟩
 ·refine W.skip (W.sreg (WO.p rfl rfl ?_))
  have hrs:=chkRs0.1 (chkA0.1 (show chkA l p q=0 by omega)).1
  have hpq:=(chkA0.1 (show chkA l p q=0 by omega)).2
  refine WO.call (Post:=fun u Hq=>∃ (b:Nat) (rv sv:Value),u=.pointer (some ⟨b,0,none⟩)∧Hq=[pt b (.cells #[rv,sv] 179 (0,0)),OwE encPr 181 10 rv l,OwE encSd 96 3 sv (sds l)]) rfl Tryz.call37 (fun L w hi=>c_newTable w v l (hR.later hi) hrs.2 hrs.1) rfl ?_
  rintro _ _ ⟨tb,rv,sv,rfl,rfl⟩
  refine WO.p rfl rfl (WO.nil (W.seq (W.sreg (WO.p rfl rfl (WO.call (Post:=fun u Hq=>∃ mb:Nat,u=.tuple #[mdV (.map (dbQ (sds l) mb)) (dbS (sds l)) (dbT (sds l)),.bool (bl (Dbt (sds l)))]∧Hq=[dbP (sds l) mb]) rfl Tryz.call38 (fun L w hi=>c_doubt w ⟨tb,0,none⟩ rv sv l (Tbl.own (b:=tb) (by repeat exact .head) (by repeat first | exact .head | apply Pick.tail) (by repeat first | exact .head | apply Pick.tail) hi) hrs.2 hrs.1) rfl ?_)))))
  rintro _ _ ⟨mb,rfl,rfl⟩
  refine WO.p rfl rfl (WO.p rfl rfl (WO.extract (i:=1) rfl rfl rfl (WO.alloc rfl rfl rfl (fun b2 hb2=>(WO.storeA rfl rfl rfl rfl Pick.head rfl rfl (WO.p rfl rfl (WO.nil (W.sreg (WO.p rfl rfl (WO.nil ?_))))))))))
  refine W.cond_bl rfl (fun c2=>?_) (fun c2=>?_)
  ·refine W.sreg (WO.build rfl rfl rfl rfl rfl (WO.storeA rfl rfl rfl rfl (Pick.tail (Pick.tail (Pick.tail (Pick.tail (Pick.tail (Pick.head)))))) rfl rfl (WO.p rfl rfl (WO.nil (W.ret ?_)))))
   first
   | exact fin.ret (Res.two rfl (RV.cell rfl rfl rfl (Cells.own (by repeat exact .head))) (RV.tmp rfl)) ⟨none,sd0,0,by rw [leE_1 (by assumption)] <;> rfl,fun e=>by rw [leE_1 (by assumption)] at e;omega⟩
   | exact fin.ret (Res.two rfl (RV.cell rfl rfl rfl (Cells.own (by repeat exact .head))) (RV.tmp rfl)) ⟨none,sd0,0,by rw [leE_20 (by assumption) (by assumption)] <;> rfl,fun e=>by rw [leE_20 (by assumption) (by assumption)] at e;omega⟩
   | exact fin.ret (Res.two rfl (RV.cell rfl rfl rfl (Cells.own (by repeat first | exact .head | apply Pick.tail))) (RV.tmp rfl)) ⟨none,sd0,0,by rw [leE_5 (by assumption) (by assumption) (by assumption)] <;> rfl,fun e=>by rw [leE_5 (by assumption) (by assumption) (by assumption)] at e;omega⟩
   | exact fin.ret (Res.two rfl (RV.cell rfl rfl rfl (Cells.own (by repeat first | exact .head | apply Pick.tail))) (RV.tmp rfl)) ⟨mq,ms,mt,by rw [leE_0 (by assumption) (by assumption) (by assumption)],fun _=>hms (by assumption)⟩
  ·refine W.skip (W.sreg (WO.p rfl rfl (WO.p rfl rfl (WO.p rfl rfl (WO.callE rfl Tryz.call109 (fun L w hi=>c_most w ⟨tb,0,none⟩ rv sv l (Tbl.own (b:=tb) (by repeat first | exact .head | apply Pick.tail) (by repeat first | exact .head | apply Pick.tail) (by repeat first | exact .head | apply Pick.tail) hi) hrs.2 hrs.1 p q hpq.1 hpq.2) rfl ?_)))))
   rintro _ ⟨mq,ms,mt,rfl,hms⟩
   refine WO.p rfl rfl (WO.p rfl rfl (WO.extract (i:=1) rfl rfl rfl (WO.alloc rfl rfl rfl (fun b3 hb3=>(WO.storeA rfl rfl rfl rfl Pick.head rfl rfl (WO.p rfl rfl (WO.nil (W.seq (W.sreg (WO.p rfl rfl (WO.p rfl rfl (WO.nil ?_))))))))))))
   refine W.cond_nbl rfl (fun c3=>?_) (fun c3=>?_)
   ·refine W.sreg (WO.build rfl rfl rfl rfl rfl (WO.storeA rfl rfl rfl rfl (Pick.tail (Pick.tail (Pick.tail (Pick.tail (Pick.tail (Pick.tail (Pick.head))))))) rfl rfl (WO.p rfl rfl (WO.nil (W.ret ?_)))))
    first
    | exact fin.ret (Res.two rfl (RV.cell rfl rfl rfl (Cells.own (by repeat exact .head))) (RV.tmp rfl)) ⟨none,sd0,0,by rw [leE_1 (by assumption)] <;> rfl,fun e=>by rw [leE_1 (by assumption)] at e;omega⟩
    | exact fin.ret (Res.two rfl (RV.cell rfl rfl rfl (Cells.own (by repeat exact .head))) (RV.tmp rfl)) ⟨none,sd0,0,by rw [leE_20 (by assumption) (by assumption)] <;> rfl,fun e=>by rw [leE_20 (by assumption) (by assumption)] at e;omega⟩
    | exact fin.ret (Res.two rfl (RV.cell rfl rfl rfl (Cells.own (by repeat exact .head))) (RV.tmp rfl)) ⟨none,sd0,0,by rw [leE_5 (by assumption) (by assumption) (by assumption)] <;> rfl,fun e=>by rw [leE_5 (by assumption) (by assumption) (by assumption)] at e;omega⟩
    | exact fin.ret (Res.two rfl (RV.cell rfl rfl rfl (Cells.own (by repeat first | exact .head | apply Pick.tail))) (RV.tmp rfl)) ⟨mq,ms,mt,by rw [leE_0 (by assumption) (by assumption) (by assumption)],fun _=>hms (by assumption)⟩
   ·refine W.skip (W.sreg (WO.loadA rfl rfl (Cells.own Pick.head) rfl rfl (WO.storeA rfl rfl rfl rfl (Pick.tail (Pick.tail (Pick.tail (Pick.tail (Pick.tail (Pick.tail (Pick.head))))))) rfl rfl (WO.p rfl rfl (WO.nil (W.ret ?_))))))
    first
    | exact fin.ret (Res.two rfl (RV.cell rfl rfl rfl (Cells.own (by repeat exact .head))) (RV.tmp rfl)) ⟨none,sd0,0,by rw [leE_1 (by assumption)] <;> rfl,fun e=>by rw [leE_1 (by assumption)] at e;omega⟩
    | exact fin.ret (Res.two rfl (RV.cell rfl rfl rfl (Cells.own (by repeat exact .head))) (RV.tmp rfl)) ⟨none,sd0,0,by rw [leE_20 (by assumption) (by assumption)] <;> rfl,fun e=>by rw [leE_20 (by assumption) (by assumption)] at e;omega⟩
    | exact fin.ret (Res.two rfl (RV.cell rfl rfl rfl (Cells.own (by repeat exact .head))) (RV.tmp rfl)) ⟨none,sd0,0,by rw [leE_5 (by assumption) (by assumption) (by assumption)] <;> rfl,fun e=>by rw [leE_5 (by assumption) (by assumption) (by assumption)] at e;omega⟩
    | exact fin.ret (Res.two rfl (RV.cell rfl rfl rfl (Cells.own (by repeat exact .head))) (RV.tmp rfl)) ⟨mq,ms,mt,by rw [leE_0 (by assumption) (by assumption) (by assumption)],fun _=>hms (by assumption)⟩
def LeastR (l:List Rn) (p q:Int) (r:Value):Prop:=∃ x:Int × Int,r=.tuple #[raV x,.int .i64 (leE l p q)]∧(leE l p q=0→∃ y:Sd × Int,MostI (sds l) p q y∧x=red y.1.c y.2)
theorem leE_ok {l:List Rn} {p q:Int} (h:leE l p q=0):OkRs l∧l.length≤12∧OkN p∧OkN q∧¬ Dbt (sds l)∧Bnd (sds l) p q:=by
 unfold leE at h
 split at h
 ·omega
 ·rename_i h1
  obtain ⟨h2,h3⟩:=chkA0.1 (show chkA l p q=0 by omega)
  obtain ⟨h4,h5⟩:=chkRs0.1 h2
  split at h
  ·omega
  ·split at h
   ·exact ⟨h5,h4,h3.1,h3.2,by assumption,by assumption⟩
   ·omega
theorem c_Least (w:World) (v:Value) (l:List Rn) (p q:Int) (hR:RdF encRn 4 w.heap.size w v l):RetE Tryz.prog 20 [v,.int .i64 p,.int .i64 q].toArray w (LeastR l p q):=by
 refine RetE.of mixed tyTab Tryz.func20 rfl rfl ?_
 replace hR:RdF encRn 4 (fnCx mixed tyTab Tryz.f20.ntmps w).B (fnCx mixed tyTab Tryz.f20.ntmps w).w0 v l:=hR
 refine W.sreg (WO.alloc rfl rfl rfl (fun b1 hb1=>(WO.p rfl rfl (WO.nil (W.sreg (WO.p rfl rfl (WO.p rfl rfl (WO.p rfl rfl (WO.callE rfl Tryz.call51 (fun L w hi=>c_best w v l p q (hR.later hi)) rfl ?_)))))))))
 rintro _ ⟨mq,ms,mt,rfl,hms⟩
 refine WO.p rfl rfl (WO.p rfl rfl (WO.p rfl rfl (WO.alloc rfl rfl rfl (fun b2 hb2=>(WO.storeA rfl rfl rfl rfl Pick.head rfl rfl (WO.p rfl rfl (WO.nil (W.seq (W.sreg (WO.p rfl rfl (WO.p rfl rfl (WO.nil ?_))))))))))))
 refine W.cond_bl rfl (fun c1=>?_) (fun c1=>?_)
 ·refine W.sreg (WO.build rfl rfl rfl rfl rfl (WO.p rfl rfl (WO.storeA rfl rfl rfl rfl (Pick.tail (Pick.head)) rfl rfl (WO.p rfl rfl (WO.nil (W.ret ?_))))))
  first
  | exact fin.ret (Res.two rfl (RV.cell rfl rfl rfl (Cells.own (by repeat exact .head))) (RV.tmp rfl)) ⟨(0,0),rfl,fun e=>by omega⟩
  | exact fin.ret (Res.two rfl (RV.cell rfl rfl rfl (Cells.own (by repeat first | exact .head | apply Pick.tail))) (RV.tmp rfl)) ⟨red ms.c mt,by rw [show leE l p q=0 by omega],fun _=>⟨(ms,mt),hm,rfl⟩⟩
 ·refine W.skip (W.sreg (WO.loadA rfl rfl (Cells.own Pick.head) rfl rfl ?_))
  have hle:=leE_ok (show leE l p q=0 by omega)
  have hm:=hms (by omega)
  refine WO.callR rfl Tryz.call52 (fun L w hi=>c_boundQ w mq ms mt (hm.ok hle.1 hle.2.2.1 hle.2.2.2.1)) rfl (WO.storeA rfl rfl rfl rfl (Pick.tail (Pick.head)) rfl rfl (WO.p rfl rfl (WO.nil (W.ret ?_))))
  first
  | exact fin.ret (Res.two rfl (RV.cell rfl rfl rfl (Cells.own (by repeat exact .head))) (RV.tmp rfl)) ⟨(0,0),rfl,fun e=>by omega⟩
  | exact fin.ret (Res.two rfl (RV.cell rfl rfl rfl (Cells.own (by repeat exact .head))) (RV.tmp rfl)) ⟨red ms.c mt,by rw [show leE l p q=0 by omega],fun _=>⟨(ms,mt),hm,rfl⟩⟩
end Go.Proofs.YtncjabmlkgacdaaGreat.Sp
namespace Go.Proofs.YtncjabmlkgacdaaGreat.Sp
open Go Go.TH
section
variable {S:List Sd} {p q:Int}
def FitC (S:List Sd) (t:Tru):Prop:=t∈crnS S∧∀ k∈S,fitS k t
theorem line_att (hN:¬ Dbt S) (hn:∀ s∈S,s.a≠0∨s.b≠0) (hS:∀ s∈S,∃ o∈S,o.a = -s.a∧o.b = -s.b) (hw:p≠0∨q≠0) {b:Sd} (hb:b∈S) (hf1:b.a*siz (wS p q)=p*siz b) (hf2:b.b*siz (wS p q)=q*siz b) (hmax:∀ y∈mstA S p q,y.1.c*siz b≤b.c*siz (wS p q)*y.2) :
 ∃ t,FitC S t∧(p*t.a+q*t.b)*siz b=b.c*siz (wS p q)*t.d:=by
 have key:∀ t:Tru,b.a*t.a+b.b*t.b=b.c*t.d→(p*t.a+q*t.b)*siz b=b.c*siz (wS p q)*t.d:=fun t h=>by
  have e:(p*t.a+q*t.b)*siz b=p*siz b*t.a+q*siz b*t.b:=by grind
  rw [e,← hf1,← hf2]
  have e2:b.a*siz (wS p q)*t.a+b.b*siz (wS p q)*t.b=(b.a*t.a+b.b*t.b)*siz (wS p q):=by grind
  rw [e2,h];grind
 rcases line_fit hN hn hS hw hb hf1 hf2 hmax with ⟨j,hj,hd,hfit⟩ | hfit
 ·refine ⟨cnr b j,⟨crn_mem hb hj hd,hfit⟩,key _ ?_⟩
  rw [cnr_val]
  show crs b j*b.c+crs b b*j.c=b.c*crs b j
  unfold crs;grind
 ·refine ⟨foot b,⟨foot_mem hb,hfit⟩,key _ ?_⟩
  show b.a*(b.a*b.c)+b.b*(b.b*b.c)=b.c*sq b
  unfold sq;grind
theorem par_att (hN:¬ Dbt S) (hn:∀ s∈S,s.a≠0∨s.b≠0) (hS:∀ s∈S,∃ o∈S,o.a = -s.a∧o.b = -s.b) (hw:p≠0∨q≠0) {b:Sd} (hb:b∈S) {d e:Int} (hd:0<d) (he:0<e) (h1:p*d=b.a*e) (h2:q*d=b.b*e) (hmax:∀ y∈mstA S p q,y.1.c*d≤e*b.c*y.2) :
 ∃ t,FitC S t∧(p*t.a+q*t.b)*d=e*b.c*t.d:=by
 have hbp:=siz_pos (hn b hb)
 have hs:siz (wS p q)*d=siz b*e:=siz_same (a:=b) (k:=wS p q) (by omega) (by omega) h1 h2
 have can:∀ x y:Int,x*d=y*d→x=y:=fun x y h=>by
  have:=mul_cancel0 (x:=x-y) hd (by rw [Int.sub_mul];omega)
  omega
 have f1:b.a*siz (wS p q)=p*siz b:=can _ _ (by
  have e1:b.a*siz (wS p q)*d=b.a*(siz (wS p q)*d):=by grind
  have e2:p*siz b*d=p*d*siz b:=by grind
  rw [e1,hs,e2,h1];grind)
 have f2:b.b*siz (wS p q)=q*siz b:=can _ _ (by
  have e1:b.b*siz (wS p q)*d=b.b*(siz (wS p q)*d):=by grind
  have e2:q*siz b*d=q*d*siz b:=by grind
  rw [e1,hs,e2,h2];grind)
 obtain ⟨t,ht,hv⟩:=line_att hN hn hS hw hb f1 f2 (fun y hy=>by
  have h3:=Int.mul_le_mul_of_nonneg_right (hmax y hy) (Int.le_of_lt hbp)
  have e1:y.1.c*d*siz b=y.1.c*siz b*d:=by grind
  have e2:e*b.c*y.2*siz b=b.c*(siz b*e)*y.2:=by grind
  rw [e1,e2,← hs] at h3
  have e3:b.c*(siz (wS p q)*d)*y.2=b.c*siz (wS p q)*y.2*d:=by grind
  rw [e3] at h3
  rcases Int.lt_or_le (b.c*siz (wS p q)*y.2) (y.1.c*siz b) with g | g
  ·have:=Int.mul_lt_mul_of_pos_right g hd;omega
  ·exact g)
 refine ⟨t,ht,?_⟩
 have e1:(p*t.a+q*t.b)*d*siz b=(p*t.a+q*t.b)*siz b*d:=by grind
 have e2:e*b.c*t.d*siz b=b.c*(siz b*e)*t.d:=by grind
 have e3:b.c*siz (wS p q)*t.d*d=b.c*(siz (wS p q)*d)*t.d:=by grind
 have e4:(p*t.a+q*t.b)*d*siz b=e*b.c*t.d*siz b:=by rw [e1,hv,e2,← hs,e3]
 have:=mul_cancel0 (x:=(p*t.a+q*t.b)*d-e*b.c*t.d) hbp (by rw [Int.sub_mul];omega)
 omega
theorem att_w (hN:¬ Dbt S) (hn:∀ s∈S,s.a≠0∨s.b≠0) (hS:∀ s∈S,∃ o∈S,o.a = -s.a∧o.b = -s.b) (hw:p≠0∨q≠0) {y:Sd × Int} (hy:y∈mstA S p q) (hmax:∀ z∈mstA S p q,¬ gtM z y):∃ t,FitC S t∧(p*t.a+q*t.b)*y.2=y.1.c*t.d:=by
 have hm:∀ z∈mstA S p q,z.1.c*y.2≤y.1.c*z.2:=fun z hz=>by
  have:=hmax z hz
  unfold gtM at this;omega
 rcases mst_inv hy with ⟨s,hs,hf,h1,h2,h3,h4⟩ | ⟨a,ha,b,hb,hd,hx,hz,h1,h2,h3,h4⟩
 ·have k1:s.a*siz (wS p q)+p * -(siz s)=0:=hf.2.1
  have k2:s.b*siz (wS p q)+q * -(siz s)=0:=hf.2.2
  rw [Int.mul_neg] at k1 k2
  obtain ⟨t,ht,hv⟩:=line_att hN hn hS hw hs (by omega) (by omega) (fun z hz=>by rw [← h1,← h2];exact hm z hz)
  exact ⟨t,ht,by rw [h1,h2];exact hv⟩
 ·rw [h2] at hm
  have la:=lin_a a b (wS p q)
  have lb:=lin_b a b (wS p q)
  have la':p*crs a b=crs (wS p q) b*a.a+crs a (wS p q)*b.a:=la
  have lb':q*crs a b=crs (wS p q) b*a.b+crs a (wS p q)*b.b:=lb
  rcases Int.lt_or_le 0 (crs (wS p q) b) with g1 | g1
  ·rcases Int.lt_or_le 0 (crs a (wS p q)) with g2 | g2
   ·refine ⟨cnr a b,⟨crn_mem ha hb hd,cnr_fit hN hn ha hb hd g1 g2 (fun z hz=>by rw [← h1];exact hm z hz)⟩,?_⟩
    have hv:=cnr_val a b (wS p q)
    have hv':p*(cnr a b).a+q*(cnr a b).b=crs (wS p q) b*a.c+crs a (wS p q)*b.c:=hv
    rw [hv',h1,h2];rfl
   ·have z0:crs a (wS p q)=0:=by omega
    rw [z0,Int.zero_mul,Int.add_zero] at la' lb' h1
    obtain ⟨t,ht,hv⟩:=par_att hN hn hS hw ha hd g1 (by rw [la',Int.mul_comm]) (by rw [lb',Int.mul_comm]) (fun z hz=>by rw [← h1];exact hm z hz)
    exact ⟨t,ht,by rw [h1,h2];exact hv⟩
  ·have z0:crs (wS p q) b=0:=by omega
   rw [z0,Int.zero_mul,Int.zero_add] at la' lb' h1
   have g2:0<crs a (wS p q):=by
    rcases Int.lt_or_le 0 (crs a (wS p q)) with g | g
    ·exact g
    ·have z1:crs a (wS p q)=0:=by omega
     rw [z1,Int.zero_mul] at la' lb'
     rcases hw with h | h
     ·exact absurd (mul_cancel0 hd la') h
     ·exact absurd (mul_cancel0 hd lb') h
   obtain ⟨t,ht,hv⟩:=par_att hN hn hS hw hb hd g2 (by rw [la',Int.mul_comm]) (by rw [lb',Int.mul_comm]) (fun z hz=>by rw [← h1];exact hm z hz)
   exact ⟨t,ht,by rw [h1,h2];exact hv⟩
theorem fit_ex (hN:¬ Dbt S) (hn:∀ s∈S,s.a≠0∨s.b≠0) (hS:∀ s∈S,∃ o∈S,o.a = -s.a∧o.b = -s.b) (h0:S≠[]) (hpos:∀ p q,∀ y∈mstA S p q,0<y.2):∃ t,FitC S t:=by
 obtain ⟨s,hs⟩:=List.exists_mem_of_ne_nil S h0
 have e:siz (wS s.a s.b)=siz s:=rfl
 obtain ⟨y,hy,_⟩:=cand_one (p:=s.a) (q:=s.b) hs ⟨by show s.a*s.b-s.b*s.a=0;rw [Int.mul_comm];omega,by rw [e];show s.a*siz s+s.a * -(siz s)=0;rw [Int.mul_neg];omega,by rw [e];show s.b*siz s+s.b * -(siz s)=0;rw [Int.mul_neg];omega⟩
 obtain ⟨m,hm,hx⟩:=max_frac (fun y:Sd × Int=>y.1.c) (fun y=>y.2) (mstA S s.a s.b) (List.ne_nil_of_mem hy) (hpos _ _)
 obtain ⟨t,ht,_⟩:=att_w hN hn hS (hn s hs) hm (fun z hz=>by have:=hx z hz;unfold gtM;omega)
 exact ⟨t,ht⟩
end
theorem att_ex {l:List Rn} {p q:Int} (h:leE l p q=0) (h0:l≠[]) {y:Sd × Int} (hm:MostI (sds l) p q y):∃ t,FitC (sds l) t∧(p*t.a+q*t.b)*y.2=y.1.c*t.d:=by
 obtain ⟨h1,h2,h3,h4,h5,h6⟩:=leE_ok h
 have hn:=sds_nz h1
 have hS:∀ s∈sds l,∃ o∈sds l,o.a = -s.a∧o.b = -s.b:=fun s hs=>by
  obtain ⟨r,hr,hm⟩:=List.mem_flatMap.1 hs
  have:s=loS r∨s=hiS r:=by simpa using hm
  rcases this with rfl | rfl
  ·exact ⟨hiS r,List.mem_flatMap.2 ⟨r,hr,by simp⟩,rfl,rfl⟩
  ·exact ⟨loS r,List.mem_flatMap.2 ⟨r,hr,by simp⟩,by show r.p = - -r.p;omega,by show r.q = - -r.q;omega⟩
 have hs0:sds l≠[]:=fun e=>by
  have:=sds_len l
  rw [e] at this
  have:=List.length_pos_iff.2 h0
  simp at *;omega
 rcases hm.mem with ⟨rfl,rfl,rfl⟩ | ⟨hpq,hy⟩
 ·obtain ⟨t,ht⟩:=fit_ex h5 hn hS hs0 (fun p q y hy=>by
   obtain ⟨g,hg,hx⟩:=List.mem_flatMap.1 hy
   unfold mstL at hx
   cases e:mstG (sds l) p q g with
   | none=>rw [e] at hx;simp at hx
   | some x =>
    rw [e] at hx
    obtain rfl:y=(tkS (sds l) g x.1 g.length,x.2):=by simpa using hx
    exact mst_pos hn (grp_ok (m:=2) (by omega) hg).1 e)
  exact ⟨t,ht,by simp [sd0]⟩
 ·exact att_w h5 hn hS (by omega) hy (fun z hz=>hm.max z hz hpq)
theorem crn_ok {l:List Rn} (h:OkRs l) {t:Tru} (ht:t∈crnS (sds l)):OkT t:=by
 have hS:=sds_ok h
 have hn:=sds_nz h
 obtain ⟨i,_,hi,hm⟩:=mem_seg.1 ht
 have si:OkS 20 100000 (sAt (sds l) i):=hS _ (getD_mem hi sd0)
 have ni:(sAt (sds l) i).a≠0∨(sAt (sds l) i).b≠0:=hn _ (getD_mem hi sd0)
 have m3:=mul_bd si.a si.c
 have m4:=mul_bd si.b si.c
 have m1:=mul_bd si.a si.a
 have m2:=mul_bd si.b si.b
 have cb:∀ a b:Sd,OkS 20 100000 a→OkS 20 100000 b→0<crs a b→OkT (cnr a b):=fun a b ha hb hd=>by
  have c1:=crs_bd (ha.up (A':=20) (B':=1000000) (by omega) (by omega)) (hb.up (A':=20) (B':=1000000) (by omega) (by omega))
  have n1:=mul_bd ha.c hb.b
  have n2:=mul_bd hb.c ha.b
  have n3:=mul_bd ha.a hb.c
  have n4:=mul_bd hb.a ha.c
  exact ⟨by unfold cnr;dsimp only;omega,by unfold cnr;dsimp only;omega,by unfold cnr;dsimp only;omega⟩
 unfold cI at hm
 rcases List.mem_cons.1 hm with rfl | hm
 ·have:=sq_pos ni
  unfold sq at this
  exact ⟨by unfold foot sq;dsimp only;omega,by unfold foot;dsimp only;omega,by unfold foot;dsimp only;omega⟩
 ·obtain ⟨j,_,hj,hm⟩:=mem_seg.1 hm
  have sj:OkS 20 100000 (sAt (sds l) j):=hS _ (getD_mem (show j<(sds l).length by omega) sd0)
  unfold cJ at hm
  split at hm
  ·simp at hm
  ·rename_i hz
   have ht:t=if crs (sAt (sds l) i) (sAt (sds l) j)<0 then cnr (sAt (sds l) j) (sAt (sds l) i) else cnr (sAt (sds l) i) (sAt (sds l) j):=by simpa using hm
   rw [ht]
   split
   ·exact cb _ _ sj si (by rw [crs_anti];omega)
   ·exact cb _ _ si sj (by omega)
end Go.Proofs.YtncjabmlkgacdaaGreat.Sp
namespace Go.Proofs.YtncjabmlkgacdaaGreat.Sp
open Go Go.TH
theorem gcd2_int (n:Int) {d:Int} (hd:0<d):gcd2 (ab n) d=(Int.gcd n d:Int):=by
 unfold gcd2 Int.gcd
 have h1:(ab n).toNat=n.natAbs:=by unfold ab;omega
 have h2:d.toNat=d.natAbs:=by omega
 rw [h1,h2]
theorem red_cop (n:Int) {d:Int} (hd:0<d):Int.gcd (red n d).1 (red n d).2=1:=by
 have hg:=gcd2_int n hd
 have hp:0<Int.gcd n d:=by
  have:=gcd2_pos (a:=ab n) hd
  rw [hg] at this;omega
 obtain ⟨x,hx⟩:=Int.gcd_dvd_left (a:=n) (b:=d)
 obtain ⟨y,hy⟩:=Int.gcd_dvd_right (a:=n) (b:=d)
 have e:red n d=(n/(Int.gcd n d:Int),d/(Int.gcd n d:Int)):=by
  unfold red
  rw [hg,Int.tdiv_eq_ediv_of_dvd ⟨x,hx⟩,Int.tdiv_eq_ediv_of_dvd ⟨y,hy⟩]
 rw [e]
 exact Int.gcd_ediv_gcd_ediv_gcd hp
theorem cop_dvd {a b c x:Int} (hg:Int.gcd a b=1) (h:a*c=x*b):b∣c:=by
 have n1:a.natAbs*c.natAbs=x.natAbs*b.natAbs:=by rw [← Int.natAbs_mul,← Int.natAbs_mul,h]
 have k:b.natAbs∣a.natAbs*c.natAbs:=by rw [n1];exact Nat.dvd_mul_left _ _
 have hc:Nat.Coprime b.natAbs a.natAbs:=by
  have:Nat.gcd a.natAbs b.natAbs=1:=hg
  rw [Nat.gcd_comm] at this
  exact this
 exact Int.natAbs_dvd_natAbs.1 (hc.dvd_of_dvd_mul_left k)
theorem red_eqZ {n d m e:Int} (hd:0<d) (he:0<e) (h:n*e=m*d):red n d=red m e:=by
 obtain ⟨g,hg,h1,h2,h3,_⟩:=red_parts n hd
 obtain ⟨k,hk,h4,h5,h6,_⟩:=red_parts m he
 have c1:=red_cop n hd
 have c2:=red_cop m he
 generalize red n d=u at *
 generalize red m e=v at *
 have hx:u.1*v.2=v.1*u.2:=by
  have e1:(u.1*v.2)*(g*k)=(v.1*u.2)*(g*k):=by
   have:n*e=u.1*g*(v.2*k):=by rw [h1,h5]
   have:m*d=v.1*k*(u.2*g):=by rw [h4,h2]
   grind
  exact Int.eq_of_mul_eq_mul_right (Int.ne_of_gt (Int.mul_pos hg hk)) e1
 have d1:u.2∣v.2:=cop_dvd c1 hx
 have d2:v.2∣u.2:=cop_dvd c2 hx.symm
 have e2:u.2=v.2:=Int.le_antisymm (Int.le_of_dvd h6 d1) (Int.le_of_dvd h3 d2)
 rw [e2] at hx
 have e1:u.1=v.1:=Int.eq_of_mul_eq_mul_right (by omega) hx
 exact Prod.ext e1 e2
end Go.Proofs.YtncjabmlkgacdaaGreat.Sp
namespace Go.Proofs.YtncjabmlkgacdaaGreat.Sp
open Go Go.TH
attribute [local irreducible] W WO pt
set_option maxRecDepth 10000
set_option maxHeartbeats 1000000
theorem chkA_0 {l:List Rn} {p q:Int} (h:chkRs l=0) (hp:OkN p) (hq:OkN q):chkA l p q=0:=by unfold chkA;rw [if_neg (by omega),if_pos ⟨hp,hq⟩]
end Go.Proofs.YtncjabmlkgacdaaGreat.Sp
namespace Go.Proofs.YtncjabmlkgacdaaGreat
open Go Go.TH Sp
set_option maxRecDepth 10000
theorem red_one (n:Int):red n 1=(n,1):=by
  obtain ⟨g,hg,h1,h2,h3,h4,_⟩:=red_parts n (show (0:Int)<1 by omega)
  have e2:(red n 1).2=1:=by omega
  rw [e2,Int.one_mul] at h2
  rw [← h2,Int.mul_one] at h1
  exact Prod.ext h1.symm e2
/-- the least value is that of a truth which no other one that fits undercuts -/
theorem least_at {l:List Rn} {p q:Int} (h:leE l p q=0) (h0:l≠[]) {y:Sd × Int} (hm:MostI (sds l) p q y) {a b:Int} (hf:fitL l ⟨a,b,1⟩) (hl:∀ t:Tru,0<t.d→fitL l t→(p*a+q*b)*t.d≤p*t.a+q*t.b):red y.1.c y.2=(p*a+q*b,1):=by
  obtain ⟨h1,h2,h3,h4,h5,h6⟩:=leE_ok h
  have hy:=(hm.ok h1 h3 h4).t
  obtain ⟨t,⟨htm,hts⟩,hv⟩:=att_ex h h0 hm
  have htd:0<t.d:=by have:=(crn_ok h1 htm).d;omega
  have hle:=hl t htd (fitL_iff.2 hts)
  -- the bound is not above the value of the truth
  have hw:y.1.c*1≤(p*a+q*b)*y.2:=by
    rcases hm.mem with ⟨rfl,rfl,rfl⟩ | ⟨_,hy2⟩
    · simp [sd0]
    · exact mst_weak hy2 (t:=⟨a,b,1⟩) (fitL_iff.1 hf)
  rw [← red_one (p*a+q*b)]
  refine red_eqZ hy.1 (by omega) ?_
  rw [Int.mul_one] at hw ⊢
  have k1:=Int.mul_le_mul_of_nonneg_right hle (Int.le_of_lt hy.1)
  rw [hv] at k1
  have e1:(p*a+q*b)*t.d*y.2=(p*a+q*b)*y.2*t.d:=by grind
  rw [e1] at k1
  have k2:(p*a+q*b)*y.2≤y.1.c:=by
    rcases Int.lt_or_le y.1.c ((p*a+q*b)*y.2) with g | g
    · have:=Int.mul_lt_mul_of_pos_right g htd;omega
    · exact g
  omega
/-- the error of Least: there is none, if a truth fits, and the value is bounded -/
theorem le_zero {l:List Rn} {p q:Int} (h:chkRs l=0) (hp:OkN p) (hq:OkN q) {t:Tru} (ht:0<t.d) (hf:fitL l t) (hb:Bnd (sds l) p q):leE l p q=0 :=
  leE_0 (by rw [chkA_0 h hp hq];omega) (fun hd=>hd.no ht (fitL_iff.1 hf)) hb
theorem bnd_pair {S:List Sd} {p q:Int} {a b:Sd} (ha:a∈S) (hb:b∈S) (hd:0<crs a b) (hx:0≤crs (wS p q) b) (hy:0≤crs a (wS p q)):Bnd S p q:=by
  obtain ⟨y,hy,_⟩:=cand_pair (p:=p) (q:=q) ha hb hd hx hy
  exact .inr (List.ne_nil_of_mem hy)
end Go.Proofs.YtncjabmlkgacdaaGreat
namespace Go.Proofs.YtncjabmlkgacdaaGreat.Wv
open Go Go.TH
attribute [local irreducible] W WO pt
set_option maxRecDepth 10000
set_option maxHeartbeats 1000000
theorem isSl_lit {a0:Option Addr} {n c:Nat} (h:n≤9223372036854775807) (h2:0<n→∃ b o,a0=some ⟨b,o,none⟩):IsSl (.slice a0 n c) n:=⟨h,a0,c,rfl,h2⟩
def OkB (x:Int):Prop:=x=0∨x=1
instance (x:Int):Decidable (OkB x):=by unfold OkB;infer_instance
def OkBs (l:List Int):Prop:=∀ x∈l,OkB x
instance (l:List Int):Decidable (OkBs l):=by unfold OkBs;infer_instance
/-- what CheckBits answers -/
def chkB (l:List Int):Int:=if 128<l.length then 6 else if OkBs l then 0 else 3
def chk2 (a b:List Int):Int:=if chkB a≠0 then chkB a else chkB b
def chkS (taps start:List Int):Int:=if chk2 taps start≠0 then chk2 taps start else if start.length≠taps.length then 15 else 0
theorem chkB0 {l:List Int}:chkB l=0↔l.length≤128∧OkBs l:=by
  unfold chkB
  by_cases h1:128<l.length <;> by_cases h2:OkBs l <;> simp [h1,h2] <;> omega
theorem chk20 {a b:List Int}:chk2 a b=0↔chkB a=0∧chkB b=0:=by unfold chk2;split <;> omega
theorem chkS0 {a b:List Int}:chkS a b=0↔(chkB a=0∧chkB b=0)∧b.length=a.length:=by
  unfold chkS
  rw [← chk20]
  split
  · omega
  · split <;> omega
theorem c_bit (w:World) (x:Int):Ret Tryz.prog 181 [.int .i64 x].toArray w (.bool (bl (¬ OkB x))):=by
  refine Ret.of mixed tyTab Tryz.func181 rfl rfl ?_
  refine W.sreg ?_
  refine WO.p rfl rfl ?_
  refine WO.nil ?_
  refine W.sreg ?_
  refine WO.p rfl rfl (WO.p rfl rfl (WO.p rfl rfl ?_))
  refine WO.guard_bl rfl rfl (fun c1=>?_) (fun c1=>?_)
  · first
    | (exfalso;omega)
    | (refine WO.no rfl rfl (WO.no rfl rfl (WO.p rfl rfl (WO.p rfl rfl ?_)))
       refine WO.nil ?_
       refine W.ret ?_
       refine fin.ret (Res.one rfl (RV.tmp rfl)) (congrArg Value.bool ?_)
       first | exact (bl_t.2 (by unfold OkB;omega)).symm | (rw [bl_eq,bl_eq,decide_eq_decide];unfold OkB;omega))
  · first
    | (exfalso;omega)
    | (refine WO.pg rfl rfl rfl (WO.pg rfl rfl rfl (WO.p rfl rfl (WO.p rfl rfl ?_)))
       refine WO.nil ?_
       refine W.ret ?_
       refine fin.ret (Res.one rfl (RV.tmp rfl)) (congrArg Value.bool ?_)
       first | exact (bl_t.2 (by unfold OkB;omega)).symm | (rw [bl_eq,bl_eq,decide_eq_decide];unfold OkB;omega))
theorem c_IndexI (w:World) (v:Value) (xs:List Int) (hR:RdF encI 1 w.heap.size w v xs):RetE Tryz.prog 256 [v,.func (.func 181) #[] #[]].toArray w (fun r=>∃ n:Int,r=.int .i64 n∧(0≤n↔¬ OkBs xs)):=by
  refine RetE.of mixed tyTab Tryz.func256 rfl rfl ?_
  replace hR:RdF encI 1 (fnCx mixed tyTab Tryz.f256.ntmps w).B (fnCx mixed tyTab Tryz.f256.ntmps w).w0 v xs:=hR
  have hle:=hR.sl.le
  refine W.sreg ?_
  refine WO.p rfl rfl ?_
  refine WO.nil ?_
  refine W.seq ?_
  refine W.sreg ?_
  refine WO.p rfl rfl ?_
  refine' WO.len (n:=_) rfl rfl ?hs rfl ?_
  case hs=>(first | exact hR.sl)
  refine WO.p rfl rfl ?_
  refine WO.nil ?_
  refine W.block ?_
  refine W.loop (fun (i:Nat)=>i≤xs.length∧∀ x∈xs.take i,OkB x)
    (fun (i:Nat)=>[(8,.int .i64 (i:Int)),(7,.int .i64 (xs.length:Int)),(0,v),(1,.func (.func 181) #[] #[])])
    (fun (i:Nat)=>[])
    (fun (i:Nat)=>xs.length-i) 0
    (by exact ⟨by omega,by simp⟩) ⟨rfl,rfl,rfl,rfl,trivial⟩ (by repeat (first | exact Sub.nil | refine Sub.cons (by repeat (first | exact Pick.head | apply Pick.tail)) ?_)) ?_
  rintro i ⟨hi0,hal⟩
  refine W.sreg ?_
  refine WO.p rfl rfl ?_
  refine WO.nil ?_
  refine W.seq ?_
  refine W.cond_bl rfl (fun c1=>?_) (fun c1=>?_)
  · first
    | (exfalso;omega)
    | (refine W.skip ?_
       refine W.seq ?_
       refine W.block ?_
       refine W.sreg ?_
       refine WO.p rfl rfl (WO.p rfl rfl ?_)
       refine WO.nil ?_
       refine W.sreg ?_
       refine WO.p rfl rfl (WO.p rfl rfl (WO.p rfl rfl ?_))
       refine' WO.indexAddr (n:=_) (i:=_) rfl rfl rfl ?hs ?h1 rfl ?_
       case hs=>(first | exact hR.sl)
       case h1=>(first | omega | (simp;omega))
       refine' WO.load (v:=_) rfl rfl ?hc rfl ?_
       case hc=>(first | (refine hR.cell0 ?_ 0 ?_ <;> first | rfl | omega))
       refine WO.callCR (first:=[]) (captured:=[]) rfl rfl Tryz.call181 (fun L w hi'=>c_bit w (xs.getD i 0)) rfl ?_
       refine WO.nil ?_
       refine W.cond_bl rfl (fun c2=>?_) (fun c2=>?_)
       · first
         | (exfalso;omega)
         | (refine W.sreg ?_
            refine WO.p rfl rfl (WO.p rfl rfl ?_)
            refine WO.nil ?_
            refine W.ret ?_
            exact fin.ret (Res.one rfl (RV.tmp rfl)) ⟨_,rfl,by first | exact ⟨fun h=>by omega,fun h=>absurd (all_len (by omega) hal) h⟩ | exact ⟨fun _=>not_all_getD (i:=i) (by omega) 0 (by assumption),fun _=>by omega⟩⟩)
       · first
         | (exfalso;omega)
         | (refine W.skip ?_
            refine W.region ?_
            refine WO.ar rfl rfl rfl (by (first | (unfold in64;omega) | (unfold in64;omega))) rfl (WO.p rfl rfl ?_)
            refine WO.nil ?_
            refine' ⟨i+1,?hp,?hmu,⟨rfl,rfl,rfl,rfl,trivial⟩,?hS⟩
            case hS=>repeat (first | exact Sub.nil | refine Sub.cons (by repeat (first | exact Pick.head | apply Pick.tail)) ?_)
            case hp=>exact ⟨by omega,all_succ (by omega) 0 hal (Decidable.not_not.1 (by assumption))⟩
            case hmu=>omega))
  · first
    | (exfalso;omega)
    | (refine W.exit (blk_same ?_)
       refine W.sreg ?_
       refine WO.p rfl rfl ?_
       refine WO.nil ?_
       refine W.ret ?_
       exact fin.ret (Res.one rfl (RV.tmp rfl)) ⟨_,rfl,by first | exact ⟨fun h=>by omega,fun h=>absurd (all_len (by omega) hal) h⟩ | exact ⟨fun _=>not_all_getD (i:=i) (by omega) 0 (by assumption),fun _=>by omega⟩⟩)
theorem c_ContI (w:World) (v:Value) (xs:List Int) (hR:RdF encI 1 w.heap.size w v xs):Ret Tryz.prog 180 [v,.func (.func 181) #[] #[]].toArray w (.bool (bl (¬ OkBs xs))):=by
  refine Ret.of mixed tyTab Tryz.func180 rfl rfl ?_
  replace hR:RdF encI 1 (fnCx mixed tyTab Tryz.f180.ntmps w).B (fnCx mixed tyTab Tryz.f180.ntmps w).w0 v xs:=hR
  refine W.sreg ?_
  refine WO.p rfl rfl ?_
  refine WO.nil ?_
  refine W.sreg ?_
  refine WO.p rfl rfl (WO.p rfl rfl ?_)
  refine WO.callE rfl Tryz.call256 (fun L w hi'=>c_IndexI w v xs (hR.later hi')) rfl ?_
  rintro _ ⟨n,rfl,hn⟩
  refine WO.p rfl rfl (WO.p rfl rfl ?_)
  refine WO.nil ?_
  refine W.ret ?_
  refine fin.ret (Res.one rfl (RV.tmp rfl)) ?_
  refine congrArg Value.bool ?_
  rw [bl_eq,bl_eq];exact decide_eq_decide.2 hn
theorem c_CheckBits (w:World) (v:Value) (l:List Int) (hR:RdF encI 1 w.heap.size w v l):Ret Tryz.prog 106 [v].toArray w (.int .i64 (chkB l)):=by
  refine Ret.of mixed tyTab Tryz.func106 rfl rfl ?_
  replace hR:RdF encI 1 (fnCx mixed tyTab Tryz.f106.ntmps w).B (fnCx mixed tyTab Tryz.f106.ntmps w).w0 v l:=hR
  refine W.sreg ?_
  refine WO.p rfl rfl ?_
  refine WO.nil ?_
  refine W.seq ?_
  refine W.block ?_
  refine W.sreg ?_
  refine WO.p rfl rfl ?_
  refine' WO.len (n:=_) rfl rfl ?hs rfl ?_
  case hs=>(first | exact hR.sl)
  refine WO.p rfl rfl (WO.p rfl rfl ?_)
  refine WO.nil ?_
  refine W.cond_bl rfl (fun c1=>?_) (fun c1=>?_)
  · first
    | (exfalso;omega)
    | (refine W.sreg ?_
       refine WO.p rfl rfl ?_
       refine WO.nil ?_
       refine W.ret ?_
       refine fin.ret (Res.one rfl (RV.tmp rfl)) (congrArg (Value.int .i64) ?_)
       first | (unfold chkB;rw [if_pos (by omega)];done) | (unfold chkB;rw [if_neg (by omega),if_neg (by assumption)];done) | (unfold chkB;rw [if_neg (by omega),if_pos (Decidable.not_not.1 (by assumption))];done))
  · first
    | (exfalso;omega)
    | (refine W.sreg ?_
       refine WO.p rfl rfl ?_
       refine WO.callR rfl Tryz.call180 (fun L w hi'=>c_ContI w v l (hR.later hi')) rfl ?_
       refine WO.p rfl rfl ?_
       refine WO.nil ?_
       refine W.cond_bl rfl (fun c2=>?_) (fun c2=>?_)
       · first
         | (exfalso;omega)
         | (refine W.sreg ?_
            refine WO.p rfl rfl ?_
            refine WO.nil ?_
            refine W.ret ?_
            refine fin.ret (Res.one rfl (RV.tmp rfl)) (congrArg (Value.int .i64) ?_)
            first | (unfold chkB;rw [if_pos (by omega)];done) | (unfold chkB;rw [if_neg (by omega),if_neg (by assumption)];done) | (unfold chkB;rw [if_neg (by omega),if_pos (Decidable.not_not.1 (by assumption))];done))
       · first
         | (exfalso;omega)
         | (refine W.skip ?_
            refine W.sreg ?_
            refine WO.p rfl rfl ?_
            refine WO.nil ?_
            refine W.ret ?_
            refine fin.ret (Res.one rfl (RV.tmp rfl)) (congrArg (Value.int .i64) ?_)
            first | (unfold chkB;rw [if_pos (by omega)];done) | (unfold chkB;rw [if_neg (by omega),if_neg (by assumption)];done) | (unfold chkB;rw [if_neg (by omega),if_pos (Decidable.not_not.1 (by assumption))];done)))
/-- the first error of several lists -/
def chkAll:List (List Int)→Int
  | []=>0
  | l::ls=>if chkB l≠0 then chkB l else chkAll ls
theorem chkAll_two (a b:List Int):chkAll [a,b]=chk2 a b:=by
  unfold chkAll chk2 chkAll chkAll
  split
  · rfl
  · split <;> omega
theorem chkAll_pre {xss:List (List Int)} {i:Nat} (h:∀ j,j<i→chkB (xss.getD j [])=0) (hi:i<xss.length) (he:chkB (xss.getD i [])≠0):chkAll xss=chkB (xss.getD i []):=by
  induction xss generalizing i with
  | nil=>simp at hi
  | cons l ls ih =>
    cases i with
    | zero=>unfold chkAll;exact if_pos he
    | succ i =>
      unfold chkAll
      rw [if_neg (by have:=h 0 (by omega);simpa using this)]
      exact ih (fun j hj=>h (j+1) (by omega)) (by simpa using hi) he
theorem chkAll_0 {xss:List (List Int)} (h:∀ j,j<xss.length→chkB (xss.getD j [])=0):chkAll xss=0:=by
  induction xss with
  | nil=>rfl
  | cons l ls ih =>
    unfold chkAll
    rw [if_neg (by have:=h 0 (by simp);simpa using this)]
    exact ih (fun j hj=>h (j+1) (by simpa using hj))
theorem c_checkAll (w:World) (v:Value) (rv:List Value) (xss:List (List Int)) (hR:RdR encI 1 w.heap.size w v rv xss):Ret Tryz.prog 47 [v].toArray w (.int .i64 (chkAll xss)):=by
  refine Ret.of mixed tyTab Tryz.func47 rfl rfl ?_
  replace hR:RdR encI 1 (fnCx mixed tyTab Tryz.f47.ntmps w).B (fnCx mixed tyTab Tryz.f47.ntmps w).w0 v rv xss:=hR
  have hle:=hR.sl.le
  have hlen:=hR.len
  refine W.sreg ?_
  refine WO.p rfl rfl ?_
  refine WO.nil ?_
  refine W.seq ?_
  refine W.sreg ?_
  refine WO.p rfl rfl ?_
  refine' WO.len (n:=_) rfl rfl ?hs rfl ?_
  case hs=>(first | exact hR.sl)
  refine WO.p rfl rfl ?_
  refine WO.nil ?_
  refine W.block ?_
  refine W.loop (fun (i:Nat)=>i≤xss.length∧∀ j,j<i→chkB (xss.getD j [])=0)
    (fun (i:Nat)=>[(8,.int .i64 (i:Int)),(7,.int .i64 (xss.length:Int)),(6,v)])
    (fun (i:Nat)=>[])
    (fun (i:Nat)=>xss.length-i) 0
    (by exact ⟨by omega,fun j hj=>by omega⟩) ⟨rfl,rfl,rfl,trivial⟩ (by repeat (first | exact Sub.nil | refine Sub.cons (by repeat (first | exact Pick.head | apply Pick.tail)) ?_)) ?_
  rintro i ⟨hi0,hin⟩
  refine W.sreg ?_
  refine WO.p rfl rfl ?_
  refine WO.nil ?_
  refine W.seq ?_
  refine W.cond_bl rfl (fun c1=>?_) (fun c1=>?_)
  · first
    | (exfalso;omega)
    | (refine W.skip ?_
       refine W.seq ?_
       refine W.block ?_
       refine W.sreg ?_
       refine' WO.indexAddr (n:=_) (i:=_) rfl rfl rfl ?hs ?h1 rfl ?_
       case hs=>(first | exact hR.sl)
       case h1=>(first | omega | (simp;omega))
       refine' WO.load (v:=_) rfl rfl ?hc rfl ?_
       case hc=>(first | exact hR.cellV (i:=i) (by omega))
       refine WO.p rfl rfl ?_
       refine WO.nil ?_
       refine W.sreg ?_
       refine WO.p rfl rfl ?_
       refine WO.callR rfl Tryz.call106 (fun L w hi=>c_CheckBits w (rv.getD i undef) (xss.getD i []) ((hR.row i (by omega)).later hi)) rfl ?_
       refine WO.p rfl rfl ?_
       refine WO.nil ?_
       refine W.sreg ?_
       refine WO.p rfl rfl (WO.p rfl rfl ?_)
       refine WO.nil ?_
       refine W.cond_bl rfl (fun c2=>?_) (fun c2=>?_)
       · first
         | (exfalso;omega)
         | (refine W.sreg ?_
            refine WO.p rfl rfl (WO.p rfl rfl ?_)
            refine WO.nil ?_
            refine W.ret ?_
            refine fin.ret (Res.one rfl (RV.tmp rfl)) (congrArg (Value.int .i64) ?_)
            first | exact (chkAll_pre hin (by omega) (by assumption)).symm | exact (chkAll_0 (fun j hj=>hin j (by omega))).symm)
       · first
         | (exfalso;omega)
         | (refine W.skip ?_
            refine W.region ?_
            refine WO.ar rfl rfl rfl (by (first | (unfold in64;omega) | (unfold in64;omega))) rfl (WO.p rfl rfl ?_)
            refine WO.nil ?_
            refine' ⟨i+1,?hp,?hmu,⟨rfl,rfl,rfl,trivial⟩,?hS⟩
            case hS=>repeat (first | exact Sub.nil | refine Sub.cons (by repeat (first | exact Pick.head | apply Pick.tail)) ?_)
            case hp=>exact ⟨by omega,fun j hj=>by rcases Nat.lt_or_ge j i with g | g;exact hin j g;rw [show j=i by omega];omega⟩
            case hmu=>omega))
  · first
    | (exfalso;omega)
    | (refine W.exit (blk_same ?_)
       refine W.sreg ?_
       refine WO.p rfl rfl ?_
       refine WO.nil ?_
       refine W.ret ?_
       refine fin.ret (Res.one rfl (RV.tmp rfl)) (congrArg (Value.int .i64) ?_)
       first | exact (chkAll_pre hin (by omega) (by assumption)).symm | exact (chkAll_0 (fun j hj=>hin j (by omega))).symm)
end Go.Proofs.YtncjabmlkgacdaaGreat.Wv
namespace Go.Proofs.YtncjabmlkgacdaaGreat.Wv
open Go Go.TH Go.TH.Wv
attribute [local irreducible] W WO pt
set_option maxRecDepth 10000
set_option maxHeartbeats 1000000
def HasCap (v:Value) (n:Nat):Prop:=∃ a c,v=.slice a n c∧n≤c
theorem HasCap.of_ow {α:Type} {enc:α→List Value} {e sz:Nat} {C:Cx Tryz.prog} {H H' L:List HP} {w:World} {v:Value} {xs:List α} (p:Pick (OwE enc e sz v xs) H H') (hi:TH.Inv C.w0 C.M (L++H) w):HasCap v xs.length:=by
 have hi':=hi.pickL p
 obtain ⟨_,hcase⟩:=OwC.open hi'
 rcases hcase with ⟨e1,e2,_⟩ | ⟨g,cap,cur,e1,q1,_⟩
 ·exact ⟨none,0,by rw [e1,e2],by omega⟩
 ·exact ⟨_,cap,e1,q1⟩
def bt (l:List Int) (i:Nat):Int:=l.getD i 0
theorem bt_ok {l:List Int} (h:OkBs l) (i:Nat):bt l i=0∨bt l i=1:=by
 unfold bt
 rcases Nat.lt_or_ge i l.length with g | g
 ·exact h _ (getD_mem g 0)
 ·left;simp [g]
theorem mul01 {a b:Int} (ha:a=0∨a=1) (hb:b=0∨b=1):a*b=0∨a*b=1:=by
 rcases ha with rfl | rfl <;> rcases hb with rfl | rfl <;> simp
theorem bt_take {l:List Int} {n i:Nat} (h:i<n):bt (l.take n) i=bt l i:=by
 unfold bt;simp [List.getD_eq_getElem?_getD,List.getElem?_take,h]
instance (a b:Int):Decidable (Eq2 a b):=by unfold Eq2;infer_instance
def okAt (taps l:List Int) (i:Nat):Prop:=Eq2 (pre (bt taps) taps.length (bt l) i) (bt l i)
instance (taps l:List Int) (i:Nat):Decidable (okAt taps l i):=by unfold okAt;infer_instance
def mk (taps l:List Int):Prop:=∀ i∈List.range l.length,taps.length≤i→okAt taps l i
instance (taps l:List Int):Decidable (mk taps l):=by unfold mk;infer_instance
def nx (l taps:List Int):Int:=pre (bt taps) taps.length (bt l) l.length%2
end Go.Proofs.YtncjabmlkgacdaaGreat.Wv
namespace Go.Proofs.YtncjabmlkgacdaaGreat.Wv
open Go Go.TH Go.TH.Wv
attribute [local irreducible] W WO pt
set_option maxRecDepth 10000
set_option maxHeartbeats 1000000
def IsProof (taps l:List Int) (n:Nat):Prop:=taps.length≤n∧mk taps (l.take n)∧¬ mk taps (l.take (n+1))
instance (taps l:List Int) (n:Nat):Decidable (IsProof taps l n):=by unfold IsProof;infer_instance
end Go.Proofs.YtncjabmlkgacdaaGreat.Wv
namespace Go.TH
open Go
section
variable {P:Program} {C:Cx P} {E:Env} {H:List HP} {Q:Post} {c:Code}
end
end Go.TH
namespace Go.TH
open Go
section
variable {P:Program} (w:World)
theorem run_append_roomO (t ty e:TypeId) (i:TypeInfo) (ht:P.underlying t=some (.slice e)) (hi:P.info? e=some i)
 (g off sLen sCap:Nat) (cur:Array Value) (hg:w.heap[g]?=some (.cells cur e (0,0)))
 (a:Addr) (m c:Nat) (news:List Value) (hl:news.length=m*i.size) (hnews:∀ j u,news[j]?=some u→w.cell? (a.add j)=some u) (h1:∀ u∈news,u.oneCell'=true)
 (hroom:sLen+m≤sCap) (hfit:off+sLen*i.size+news.length≤cur.size) :
 (Builtin.append_ #[t,t] ty #[.slice (some ⟨g,off,none⟩) sLen sCap,.slice (some a) m c]).run P w =
   .ok (.slice (some ⟨g,off,none⟩) (sLen+m) sCap) (w.setRow g (cur.toList.take (off+sLen*i.size)++news++cur.toList.drop (off+sLen*i.size+news.length)).toArray):=by
 have hf:=run_firstCells_some (P:=P) w i.size m a m c news hl hnews
 have hst:=run_storeCells_at P g (off+sLen*i.size) e news 0 cur w hg (by simpa using hfit) h1
 simp only [Nat.add_zero] at hst
 simp [Builtin.append_,run_underlying ht,sizeOf,typeInfo,hi,Builtin.lenOf,hroom,hf,Addr.add_lit,hst]
end
def WinC (e:Nat) (v:Value) (n:Nat) (cs:List Value):HP:=fun h =>
 cs.length=n∧∃ (g o cap:Nat) (cur:List Value),v=.slice (some ⟨g,o,none⟩) n cap∧n≤cap∧cap≤maxLen∧o+cap≤cur.length∧(cur.drop o).take n=cs∧pt g (.cells cur.toArray e (0,0)) h
def NowP (e b n:Nat) (ss:List Value) (v:Value) (cs:List Value):HP:=fun h =>
 (v=.slice (some ⟨b,0,none⟩) n n∧cs=ss∧OwC e 1 (.slice (some ⟨b,0,none⟩) n n) n ss h) ∨
 ∃ h1 h2,Split h h1 h2∧OwC e 1 (.slice (some ⟨b,0,none⟩) n n) n ss h1∧WinC e v n cs h2
theorem WinC.open {w0:World} {M:List Nat} {L H:List HP} {w:World} {e n:Nat} {v:Value} {cs:List Value} (h:Inv w0 M (L++WinC e v n cs::H) w) :
 cs.length=n∧∃ (g o cap:Nat) (cur:List Value),v=.slice (some ⟨g,o,none⟩) n cap∧n≤cap∧cap≤maxLen∧o+cap≤cur.length∧(cur.drop o).take n=cs∧Inv w0 M (L++pt g (.cells cur.toArray e (0,0))::H) w:=by
 have h1:=h.perm List.perm_middle
 obtain ⟨ha,hb,s,⟨hl,g,o,cap,cur,h2,h3,h4,h5,h6,h7⟩,hr⟩:=h1.mine
 refine ⟨hl,g,o,cap,cur,h2,h3,h4,h5,h6,?_⟩
 have:Inv w0 M (pt g (.cells cur.toArray e (0,0))::(L++H)) w:=⟨h1.os,h1.tape,h1.output,h1.size,h1.keep,ha,hb,s,h7,hr⟩
 exact this.perm List.perm_middle.symm
theorem WinC.shut {w0:World} {M:List Nat} {L H:List HP} {w:World} {e n g o cap:Nat} {cs cur:List Value} (hl:cs.length=n) (hn:n≤cap) (hm:cap≤maxLen) (hc:o+cap≤cur.length) (ht:(cur.drop o).take n=cs)
 (h:Inv w0 M (L++pt g (.cells cur.toArray e (0,0))::H) w):Inv w0 M (L++WinC e (.slice (some ⟨g,o,none⟩) n cap) n cs::H) w :=
 h.mono fun h hp=>⟨hl,g,o,cap,cur,rfl,hn,hm,hc,ht,hp⟩
theorem NowP.open {w0:World} {M:List Nat} {L H:List HP} {w:World} {e b n:Nat} {v:Value} {ss cs:List Value} (h:Inv w0 M (L++NowP e b n ss v cs::H) w) :
 (v=.slice (some ⟨b,0,none⟩) n n∧cs=ss∧Inv w0 M (L++OwC e 1 (.slice (some ⟨b,0,none⟩) n n) n ss::H) w) ∨
 Inv w0 M (L++OwC e 1 (.slice (some ⟨b,0,none⟩) n n) n ss::WinC e v n cs::H) w:=by
 have h1:=h.perm List.perm_middle
 obtain ⟨ha,hb,s,hc,hr⟩:=h1.mine
 rcases hc with ⟨q1,q2,q3⟩ | ⟨x,y,t,q1,q2⟩
 ·refine .inl ⟨q1,q2,?_⟩
  have:Inv w0 M (OwC e 1 (.slice (some ⟨b,0,none⟩) n n) n ss::(L++H)) w:=⟨h1.os,h1.tape,h1.output,h1.size,h1.keep,ha,hb,s,q3,hr⟩
  exact this.perm List.perm_middle.symm
 ·refine .inr ?_
  have:Inv w0 M (OwC e 1 (.slice (some ⟨b,0,none⟩) n n) n ss::WinC e v n cs::(L++H)) w:=by
   refine ⟨h1.os,h1.tape,h1.output,h1.size,h1.keep,?_⟩
   exact sat_join (H1:=[_,_]) s ⟨x,y,t,q1,y,fun _=>none,(split_none y).comm,q2,trivial⟩ hr
  refine this.perm ?_
  refine List.Perm.trans ?_ (List.perm_middle (l₁:=L) (l₂:=WinC e v n cs::H)).symm
  exact List.Perm.cons _ (List.perm_middle (l₁:=L) (l₂:=H)).symm
theorem NowP.start {e b n:Nat} {ss:List Value} {H H':List HP} (p:Pick (OwC e 1 (.slice (some ⟨b,0,none⟩) n n) n ss) H H'):∀ h,sat H h→sat (NowP e b n ss (.slice (some ⟨b,0,none⟩) n n) ss::H') h:=fun h hs=>by
 obtain ⟨h1,h2,s,a,r⟩:=p.sat hs
 exact ⟨h1,h2,s,.inl ⟨rfl,rfl,a⟩,r⟩
theorem NowP.stop {e b n:Nat} {ss:List Value} {v:Value} {cs:List Value} {H H':List HP} (p:Pick (NowP e b n ss v cs) H H'):∀ h,sat H h→sat (OwC e 1 (.slice (some ⟨b,0,none⟩) n n) n ss::H') h:=fun h hs=>by
 obtain ⟨h1,h2,s,a,r⟩:=p.sat hs
 rcases a with ⟨_,_,q⟩ | ⟨x,y,t,q1,q2⟩
 ·exact ⟨h1,h2,s,q,r⟩
 ·have:=sat_join (H1:=[OwC e 1 (.slice (some ⟨b,0,none⟩) n n) n ss,WinC e v n cs]) s ⟨x,y,t,q1,y,fun _=>none,(split_none y).comm,q2,trivial⟩ r
  exact Sub.sat (.cons .head (.tail (Sub.refl _))) this
section
variable {P:Program} {C:Cx P} {E:Env} {H:List HP}
variable {ops:Array Oper} {K:KP} {rest:List Oper} {d:Nat} {ty:TypeId} {pos:String} {af:Array Edge} {x y z:Operand} {T T':TypeId}
theorem WinC.cellsI {e n:Nat} {v:Value} {cs:List Value} {L H':List HP} {w:World} (hi:Inv C.w0 C.M (L++WinC e v n cs::H') w):∀ j u,cs[j]?=some u→w.cell? ((base v).add j)=some u:=by
 intro j u hu
 obtain ⟨hl,g,o,cap,cur,rfl,h1,h2,h3,h4,hi'⟩:=WinC.open hi
 have hlook:=(hi'.look (b:=g) (o:=.cells cur.toArray e (0,0)) ((Pick.head).app L)).1
 have ea:(base (.slice (some ⟨g,o,none⟩) n cap)).add j=⟨g,o+j,none⟩:=by simp [base,Addr.add_lit]
 rw [ea]
 subst h4
 rw [List.getElem?_take] at hu
 split at hu
 ·rw [List.getElem?_drop] at hu
  simp [World.cell?,hlook,hu]
 ·cases hu
theorem NowP.cells {e b n:Nat} {ss:List Value} {v:Value} {cs:List Value} {H':List HP} (p:Pick (NowP e b n ss v cs) H H'):Cells C H (base v) cs:=by
 intro j u hu L w hi
 rcases NowP.open (hi.pickL p) with ⟨rfl,rfl,q⟩ | q
 ·exact OwC.cells (C:=C) (.head) j u hu L w q
 ·have q':Inv C.w0 C.M ((L++[OwC e 1 (.slice (some ⟨b,0,none⟩) n n) n ss])++WinC e v n cs::H') w:=by rw [List.append_assoc];exact q
  exact WinC.cellsI q' j u hu
theorem NowP.len {e b n:Nat} {ss:List Value} {v:Value} {cs:List Value} {H':List HP} (p:Pick (NowP e b n ss v cs) H H'):∀ (L:List HP) w,Inv C.w0 C.M (L++H) w→cs.length=n∧IsSl v n:=fun L w hi=>by
 rcases NowP.open (hi.pickL p) with ⟨rfl,rfl,q⟩ | q
 ·obtain ⟨hl,_⟩:=OwC.open q
  exact ⟨by omega,OwC.isSl q⟩
 ·have q':Inv C.w0 C.M ((L++[OwC e 1 (.slice (some ⟨b,0,none⟩) n n) n ss])++WinC e v n cs::H') w:=by rw [List.append_assoc];exact q
  obtain ⟨hl,g,o,cap,cur,rfl,h1,h2,h3,h4,hi'⟩:=WinC.open q'
  simp only [maxLen] at h2
  exact ⟨hl,by omega,_,_,rfl,fun _=>⟨_,_,rfl⟩⟩
theorem NowP.cell {e b n i:Nat} {ss:List Value} {v:Value} {cs:List Value} {H':List HP} (p:Pick (NowP e b n ss v cs) H H') (hi:i<cs.length):Cell C H (elt v i 1) (cs.getD i undef):=by
 have:=NowP.cells (C:=C) p i (cs.getD i undef) (by simp [hi])
 rw [elt_eq,Nat.mul_one]
 exact this
theorem WO.appendNow {e by' b n:Nat} {v u zv nu:Value} {ss cs:List Value} {H':List HP} (hT:C.tt.sl? T=some (e,1,by')) (hz:C.tt.z? e=some zv) (hzs:Nat.beq zv.cells.size 1=true)
 (hx:ev E x=some v) (hy:ev E y=some u) (p:Pick (NowP e b n ss v cs) H H') (hS:IsSl u 1) (hc:Cells C H (base u) [nu]) (h1:nu.oneCell'=true)
 (hb:(n+1)*by'≤140737488355328) (h63:n+1≤9223372036854775807) (hN:Nat.blt d C.N=true)
 (h:∀ g o c,n+1≤c→WO C ops rest K ((d,.slice (some ⟨g,o,none⟩) (n+1) c)::E) (OwC e 1 (.slice (some ⟨b,0,none⟩) n n) n ss::WinC e (.slice (some ⟨g,o,none⟩) (n+1) c) (n+1) (cs++[nu])::H')):WO C ops (⟨some d,.call ⟨.builtin .append,#[x,y],#[T,T]⟩,ty,pos,af,none⟩::rest) K E H:=by
 refine WO.step rfl rfl hN (XO.run (by simp) fun L a w hf hi=>?_)
 obtain ⟨i,hi1,hi2,hi3,hi4⟩:=sl_info hT hz
 subst hi3
 have hzs':=Nat.eq_of_beq_eq_true hzs
 have hmax:n+1≤maxLen:=by simpa [maxLen] using h63
 obtain ⟨a0,c0,rfl,ha0⟩:=hS.is
 obtain ⟨b0,o0,rfl⟩:=ha0 (by omega)
 have hnews:∀ j v,[nu][j]?=some v→w.cell? ((⟨b0,o0,none⟩:Addr).add j)=some v:=fun j v hv=>hc j v hv L w hi
 have hrun:∀ (v':Value) (w':World),(Builtin.append_ #[T,T] ty #[v,.slice (some ⟨b0,o0,none⟩) 1 c0]).run P w=.ok v' w'→(execOp a.eval ⟨some d,.call ⟨.builtin .append,#[x,y],#[T,T]⟩,ty,pos,af,none⟩).run P w=.ok (.value v') w':=by
  intro v' w' hr
  simp [execOp,resolve,hf.eval hx,hf.eval hy,invoke,builtin,hr]
 have grown:∀ (old:Nat) (R:HP),cs.length=n→Inv C.w0 C.M (L++R::H') w→Inv C.w0 C.M (L++R::WinC e (.slice (some ⟨w.heap.size,0,none⟩) (n+1) (grownCap w (n+1) old e)) (n+1) (cs++[nu])::H')
  (w.drew.alloc (.cells (cs.toArray++[nu].toArray++Builtin.zeroCells zv.cells (grownCap w (n+1) old e-(n+1))) e)):=by
  intro old R hcl hv
  have hge:=grownCap_ge w (n+1) old e
  have hcm:grownCap w (n+1) old e≤maxLen:=grownCap_le_maxLen w (n+1) old e hmax
  have h2:=(hv.drawn).alloc' (.cells (cs.toArray++[nu].toArray++Builtin.zeroCells zv.cells (grownCap w (n+1) old e-(n+1))) e)
  have e1:cs.toArray++[nu].toArray++Builtin.zeroCells zv.cells (grownCap w (n+1) old e-(n+1))=((cs++[nu])++(Builtin.zeroCells zv.cells (grownCap w (n+1) old e-(n+1))).toList).toArray:=by
   apply Array.ext';simp
  rw [e1] at h2 ⊢
  have h3:=WinC.shut (e:=e) (n:=n+1) (g:=w.drew.heap.size) (o:=0) (cap:=grownCap w (n+1) old e) (cs:=cs++[nu]) (by simp [hcl]) hge hcm (by
   have e3:(Builtin.zeroCells zv.cells (grownCap w (n+1) old e-(n+1))).toList.length=grownCap w (n+1) old e-(n+1):=by rw [Array.length_toList,size_zeroCells,hzs',Nat.mul_one]
   rw [List.length_append,e3];simp [hcl];omega) (by
   rw [List.drop_zero];exact List.take_left' (by simp [hcl])) h2
  have h4:=h3.perm (List.perm_middle (l₁:=L) (l₂:=R::H'))
  have h5:Inv C.w0 C.M (L++R::WinC e (.slice (some ⟨w.drew.heap.size,0,none⟩) (n+1) (grownCap w (n+1) old e)) (n+1) (cs++[nu])::H') _:=h4.perm (by
   refine List.Perm.trans ?_ (List.perm_append_left_iff L |>.2 (List.Perm.swap R _ H'))
   exact (List.perm_middle (l₁:=L) (l₂:=R::H')).symm)
  exact h5
 rcases NowP.open (hi.pickL p) with ⟨rfl,rfl,q⟩ | q
 ·obtain ⟨hcl,_⟩:=OwC.open q
  have hcl':cs.length=n:=by omega
  have holds:∀ j u,cs[j]?=some u→w.cell? ((⟨b,0,none⟩:Addr).add j)=some u:=fun j u hu=>OwC.cells (C:=C) (.head) j u hu L w q
  have hr:=run_append_grow (P:=P) w T ty e i zv (SlT.of hT).u hi1 hi4 ⟨b,0,none⟩ n n cs (by rw [hi2];exact hcl) holds ⟨b0,o0,none⟩ 1 c0 [nu] (by rw [hi2];rfl) hnews (by omega) (by omega) (growslice_fits (by omega) hb)
  exact ⟨_,_,_,.inl (hrun _ _ hr),h _ _ _ (grownCap_ge w (n+1) n e),grown n _ hcl' q⟩
 ·have q':Inv C.w0 C.M ((L++[OwC e 1 (.slice (some ⟨b,0,none⟩) n n) n ss])++WinC e v n cs::H') w:=by rw [List.append_assoc];exact q
  have hcells:=WinC.cellsI q'
  obtain ⟨hcl,g,o,cap,cur,rfl,q1,q2,q3,q4,hv⟩:=WinC.open q'
  by_cases hroom:n+1≤cap
  ·have hlook:=(hv.look (b:=g) (o:=.cells cur.toArray e (0,0)) ((Pick.head).app _)).1
   have hfit:o+n*i.size+[nu].length≤cur.toArray.size:=by rw [hi2];simp;omega
   have hr:=run_append_roomO (P:=P) w T ty e i (SlT.of hT).u hi1 g o n cap cur.toArray hlook ⟨b0,o0,none⟩ 1 c0 [nu] (by rw [hi2];rfl) hnews (by simpa using h1) hroom hfit
   rw [hi2,Nat.mul_one] at hr
   refine ⟨_,_,_,.inl (hrun _ _ hr),h _ _ _ hroom,?_⟩
   have hv2:=hv.perm (List.perm_middle (l₁:=L++[OwC e 1 (.slice (some ⟨b,0,none⟩) n n) n ss]) (l₂:=H'))
   have h2:=hv2.set (b:=g) (o:=.cells cur.toArray e (0,0)) (o':=.cells (cur.toArray.toList.take (o+n)++[nu]++cur.toArray.toList.drop (o+n+[nu].length)).toArray e (0,0)) (H':=(L++[OwC e 1 (.slice (some ⟨b,0,none⟩) n n) n ss])++H') (w':=w.setRow g (cur.toArray.toList.take (o+n)++[nu]++cur.toArray.toList.drop (o+n+[nu].length)).toArray) (Pick.head) rfl rfl rfl (setRow_size w g _) (setRow_heap w g _ _ _ _ hlook) (fun k hk=>setRow_other hk)
   have h3:=h2.perm (List.perm_middle (l₁:=L++[OwC e 1 (.slice (some ⟨b,0,none⟩) n n) n ss]) (l₂:=H')).symm
   have hsz:o+n<cur.length:=by omega
   have h4:=WinC.shut (e:=e) (n:=n+1) (g:=g) (o:=o) (cap:=cap) (cs:=cs++[nu]) (by simp [hcl]) hroom q2 (by simp;omega) (by
    have e0:(cur.toArray.toList.take (o+n)++[nu]++cur.toArray.toList.drop (o+n+[nu].length)).drop o=(cur.drop o).take n++([nu]++cur.drop (o+n+1)):=by
     rw [List.append_assoc,List.drop_append_of_le_length (by simp;omega),List.drop_take]
     simp
    rw [e0,q4,← List.append_assoc]
    exact List.take_left' (by simp [hcl])) h3
   rw [List.append_assoc] at h4
   exact h4
  ·have hr:=run_append_grow (P:=P) w T ty e i zv (SlT.of hT).u hi1 hi4 ⟨g,o,none⟩ n cap cs (by rw [hi2];omega) (by simpa [base] using hcells) ⟨b0,o0,none⟩ 1 c0 [nu] (by rw [hi2];rfl) hnews (by omega) (by omega) (growslice_fits (by omega) hb)
   have hd:=hv.dropL
   rw [List.append_assoc] at hd
   exact ⟨_,_,_,.inl (hrun _ _ hr),h _ _ _ (grownCap_ge w (n+1) cap e),grown cap _ hcl hd⟩
end
theorem NowP.next {e b n g o c:Nat} {ss cs:List Value} {H H1 H2:List HP} (p:Pick (OwC e 1 (.slice (some ⟨b,0,none⟩) n n) n ss) H H1) (q:Pick (WinC e (.slice (some ⟨g,o,none⟩) (n+1) c) (n+1) cs) H1 H2) :
 ∀ h,sat H h→sat (NowP e b n ss (.slice (if c=1 then some ⟨g,o,none⟩ else ofs (some ⟨g,o,none⟩) (1*1)) (n+1-1) (c-1)) (cs.drop 1)::H2) h:=fun h hs=>by
 obtain ⟨h1,h2,s,a,r⟩:=p.sat hs
 obtain ⟨h3,h4,s2,a2,r2⟩:=q.sat r
 obtain ⟨r',s3,s4⟩:=split_assoc s s2
 refine ⟨r',h4,s3,.inr ⟨h1,h3,s4,a,?_⟩,r2⟩
 obtain ⟨hl,g',o',cap,cur,e1,q1,q2,q3,q4,q5⟩:=a2
 injection e1 with e1 e2 e3
 injection e1 with e1
 injection e1 with e1 e4
 subst e1;subst e4;subst e3
 refine ⟨by simp [hl],?_⟩
 by_cases h1c:c=1
 ·subst h1c
  obtain rfl:n=0:=by omega
  refine ⟨g,o,0,cur,by simp,by omega,by omega,by omega,?_,q5⟩
  rw [← q4];simp
 ·refine ⟨g,o+1,c-1,cur,?_,by omega,by omega,by omega,?_,q5⟩
  ·rw [if_neg h1c];simp [ofs,Addr.add_lit]
  ·rw [← q4,show n+1=1+n by omega,List.drop_take,List.drop_drop];simp
end Go.TH
namespace Go.Proofs.YtncjabmlkgacdaaGreat.Wv
open Go Go.TH Go.TH.Wv
attribute [local irreducible] W WO pt
set_option maxRecDepth 10000
set_option maxHeartbeats 1000000
theorem flat_encI:∀ (xs:List Int),xs.flatMap encI=xs.map fun x=>Value.int .i64 x
  | []=>rfl
  | x::r=>by rw [List.flatMap_cons,flat_encI r];rfl
/-- a start that runs on -/
def ext (taps start:List Int):Nat→List Int
  | 0=>start
  | n+1=>ext taps start n++[nx (ext taps start n) taps]
theorem ext_len (taps start:List Int):∀ n,(ext taps start n).length=start.length+n
  | 0=>rfl
  | n+1=>by unfold ext;rw [List.length_append,ext_len taps start n];simp;omega
theorem nx_01 (l taps:List Int):nx l taps=0∨nx l taps=1:=by unfold nx;omega
theorem ext_ok {taps start:List Int} (h:OkBs start):∀ n,OkBs (ext taps start n)
  | 0=>h
  | n+1=>fun x hx=>by
    unfold ext at hx
    rcases List.mem_append.1 hx with g | g
    · exact ext_ok h n x g
    · rw [List.mem_singleton] at g;subst g;exact nx_01 _ _
theorem ext_get {taps start:List Int} {n i:Nat} (hi:i<start.length+n):∀ m,n≤m→bt (ext taps start m) i=bt (ext taps start n) i
  | 0,h=>by obtain rfl:n=0:=(by omega);rfl
  | m+1,h=>by
    rcases Nat.lt_or_ge m n with g | g
    · obtain rfl:n=m+1:=(by omega);rfl
    · rw [← ext_get hi m g]
      unfold bt
      rw [ext,List.getD_eq_getElem?_getD,List.getElem?_append_left (by rw [ext_len];omega),← List.getD_eq_getElem?_getD]
/-- the first bits of a register that runs on -/
def runL (taps start:List Int) (n:Nat):List Int:=(ext taps start (n-start.length)).take n
def runE (taps start:List Int) (many:Int):Int:=if chkS taps start≠0 then chkS taps start else if many<0 then 2 else if 4096<many then 6 else 0
theorem runE_a {taps start:List Int} {many:Int} (h:chkS taps start≠0):runE taps start many=chkS taps start:=if_pos h
theorem runE_b {taps start:List Int} {many:Int} (h:chkS taps start=0) (h2:many<0):runE taps start many=2:=by unfold runE;rw [if_neg (by omega),if_pos h2]
theorem runE_c {taps start:List Int} {many:Int} (h:chkS taps start=0) (h2:4096<many):runE taps start many=6:=by unfold runE;rw [if_neg (by omega),if_neg (by omega),if_pos h2]
theorem runE_0 {taps start:List Int} {many:Int}:runE taps start many=0↔chkS taps start=0∧0≤many∧many≤4096:=by
  unfold runE
  split
  · omega
  · split
    · omega
    · split <;> omega
theorem ext_more {taps start:List Int} {n:Nat}:ext taps start (n+1)=ext taps start n++[nx (ext taps start n) taps]:=rfl
end Go.Proofs.YtncjabmlkgacdaaGreat.Wv
namespace Go.Proofs.YtncjabmlkgacdaaGreat.Wv
open Go Go.TH Go.TH.Wv
attribute [local irreducible] W WO pt
set_option maxRecDepth 10000
set_option maxHeartbeats 1000000
theorem Iter.ofI {f:FuncId} {fn:Func} {c:Code} {vs:List Value} {w:World} {M:List Nat} {B:Nat} {Hit:List HP} {A A':List HP} (hm:Tryz.prog.follows .mixedOrders=true) (tt:TTab Tryz.prog) (hB:B≤w.heap.size) (hM:∀ b∈M,B≤b)
 (hf:Tryz.prog.funcs[f]?=some fn) (hb:fn.body=some c) (ha:Nat.ble vs.length fn.ntmps=true) (hi:TH.Inv w M (Hit++A) w)
 (h:W (itCx hm tt fn.ntmps w M B hB hM) c (fin (itCx hm tt fn.ntmps w M B hB hM) fn (fun _ H=>∀ h,sat H h→sat (Hit++[sat A']) h)) (enumE 0 vs) (Hit++[sat A])):Ct Tryz.prog f vs.toArray w fun _ w'=>TH.Inv w M (Hit++A') w':=by
 have h1:TH.Inv w M (Hit++[sat A]) w:=Inv.chg (L:=Hit) (H:=A++[]) (by simpa using hi) sat_one
 refine (Ct.of_W (M:=M) (Hp:=Hit++[sat A]) (itCx hm tt fn.ntmps w M B hB hM) rfl rfl rfl hf hb rfl (by simpa [itCx] using Nat.ble_eq.mp ha) (fun t v hv=>by
  have:=lk_enumE vs 0 t v hv
  simpa using this.2) h h1).mono ?_
 rintro v w' ⟨Hq,s,hi'⟩
 have h2:TH.Inv w M (Hit++(A'++[])) w':=Inv.chg (L:=Hit) (Inv.chg (L:=[]) hi' s) sat_many
 simpa using h2
theorem run_copy_zero (w:World) (T e:TypeId) (ty:TypeId) (hu:Tryz.prog.underlying T=some (.slice e)) (sz:Nat) (hs:(Tryz.prog.info? e).map (·.size)=some sz) (a b:Option Addr) (c d:Nat) :
 (Builtin.copy_ #[T,T] ty #[.slice a 0 c,.slice b 0 d]).run Tryz.prog w=.ok (goInt 0) w:=by
 have hl:∀ (x:Addr),(loadCells x 0).run Tryz.prog w=.ok #[] w:=fun x=>by simpa using run_loadCells_list (P:=Tryz.prog) w x [] (by simp)
 cases hq:Tryz.prog.info? e with
 | none=>simp [hq] at hs
 | some i =>
  cases a <;> cases b <;> simp [Builtin.copy_,run_underlying hu,Builtin.lenOf,Builtin.firstCells,sizeOf,typeInfo,hq,hl,storeCells,goInt]
section
variable {C:Cx Tryz.prog} {E:Env} {H:List HP}
variable {ops:Array Oper} {K:KP} {rest:List Oper} {d:Nat} {ty:TypeId} {pos:String} {af:Array Edge} {x y:Operand} {T:TypeId}
theorem WO.copyIZ {e by':Nat} {v u:Value} {xs ys:List Int} {H':List HP} (hT:C.tt.sl? T=some (e,1,by')) (hx:ev E x=some v) (hy:ev E y=some u) (p:Pick (OwE encI e 1 v xs) H H') (hS:IsSl u xs.length)
 (hl:ys.length=xs.length) (hc:Cells C H (base u) (ys.flatMap encI)) (hN:Nat.blt d C.N=true)
 (h:WO C ops rest K ((d,.int .i64 (xs.length:Int))::E) (OwE encI e 1 v ys::H')):WO C ops (⟨some d,.call ⟨.builtin .copy,#[x,y],#[T,T]⟩,ty,pos,af,none⟩::rest) K E H:=by
 rcases Nat.eq_zero_or_pos xs.length with h0 | h0
 ·obtain rfl:xs=[]:=List.eq_nil_of_length_eq_zero h0
  obtain rfl:ys=[]:=List.eq_nil_of_length_eq_zero (by simpa using hl)
  refine WO.step rfl rfl hN (XO.run (by simp) fun L a w hf hi=>?_)
  obtain ⟨_,a0,c0,rfl,_⟩:=hS
  have hi':=hi.pickL p
  obtain ⟨a1,c1,rfl⟩:=OwE.form (C:=C) p L w hi
  have hr:=run_copy_zero w T e ty (SlT.of hT).u 1 (by simpa [szv] using (SlT.of hT).size) a1 a0 c1 c0
  refine ⟨_,w,_,.inl ?_,h,hi'⟩
  simp only [execOp,resolve,hf.eval hx,hf.eval hy]
  simp [hf.eval hx,hf.eval hy,Deferred.ofValue,invoke,builtin,hr,goInt]
 ·exact WO.copyE encI_ok hT hx hy p hS h0 hl hc hN h
end
theorem c_newRegister (w:World) (v u:Value) (taps start:List Int) (hR:RdF encI 1 w.heap.size w v taps) (hU:RdF encI 1 w.heap.size w u start) (hl:start.length≤1000):Ct Tryz.prog 49 [v,u].toArray w fun r w'=>∃ Hq,(∃ X:Nat × Nat,r=.pointer (some ⟨X.1,0,none⟩)∧Hq=[pt X.1 (.cells #[v,.slice (some ⟨X.2,0,none⟩) start.length start.length] 194 (0,0)),OwE encI 3 1 (.slice (some ⟨X.2,0,none⟩) start.length start.length) start])∧Inv w [] Hq w':=by
 obtain ⟨hle,va,vc,hve,_⟩:=id hR.sl
 subst hve
 refine Ct.ofI mixed tyTab Tryz.func49 rfl rfl ?_
 replace hR:RdF encI 1 (fnCx mixed tyTab Tryz.f49.ntmps w).B (fnCx mixed tyTab Tryz.f49.ntmps w).w0 (.slice va taps.length vc) taps:=hR
 replace hU:RdF encI 1 (fnCx mixed tyTab Tryz.f49.ntmps w).B (fnCx mixed tyTab Tryz.f49.ntmps w).w0 u start:=hU
 refine W.sreg (WO.p rfl rfl (WO.nil (W.sreg (WO.p rfl rfl (WO.p rfl rfl (WO.len rfl rfl hU.sl rfl (WO.makeI rfl rfl rfl rfl (by omega) (by omega) rfl (fun nb=>(WO.build rfl rfl rfl rfl rfl (WO.boxA rfl rfl (fun b1 hb1=>(WO.p rfl rfl (WO.nil (W.sreg (WO.p rfl rfl (WO.p rfl rfl (WO.fieldL rfl rfl rfl (WO.load rfl rfl (Cell.own Pick.head rfl) rfl (WO.p rfl rfl (WO.copyIZ (xs:=List.replicate start.length 0) (ys:=start) rfl rfl rfl (by repeat first | exact .head | apply Pick.tail) (by rw [List.length_replicate];exact hU.sl) (by rw [List.length_replicate]) (hU.flat encI_ok) rfl (WO.nil (W.sreg (WO.p rfl rfl (WO.p rfl rfl (WO.nil (W.ret ?_))))))))))))))))))))))))))
 refine fin.ret (Res.one rfl (RV.tmp rfl)) ⟨(b1,nb),rfl,fun h hs=>?_⟩
 exact Sub.sat (by repeat (first | exact Sub.nil | refine Sub.cons (by repeat first | exact .head | apply Pick.tail) ?_)) hs
theorem c_bits (w:World) (p:Addr):Ct Tryz.prog 50 [.pointer (some p)].toArray w fun r w'=>∃ Hq,(∃ b:Nat,r=.func (.func 107) #[] #[.pointer (some ⟨b,0,none⟩)]∧Hq=[pt b (.cells #[.pointer (some p)] 119 (0,0))])∧Inv w [] Hq w':=by
 refine Ct.ofI mixed tyTab Tryz.func50 rfl rfl (W.sreg (WO.box1 rfl (by rfl) rfl (fun b1 hb1=>(WO.p rfl rfl (WO.nil (W.sreg (WO.p rfl rfl (WO.p rfl rfl (WO.nil (W.ret ?_))))))))))
 exact fin.ret (Res.one rfl (RV.tmp rfl)) ⟨b1,rfl,fun h hs=>hs⟩
end Go.Proofs.YtncjabmlkgacdaaGreat.Wv
namespace Go.Proofs.YtncjabmlkgacdaaGreat.Wv
open Go Go.TH Go.TH.Wv
attribute [local irreducible] W WO pt
set_option maxRecDepth 10000
set_option maxHeartbeats 1000000
def rb (taps start:List Int) (k:Nat):Int:=bt (ext taps start (k+1)) k
def winL (taps start:List Int) (k:Nat):List Int:=(ext taps start k).drop k
theorem win_len (taps start:List Int) (k:Nat):(winL taps start k).length=start.length:=by unfold winL;rw [List.length_drop,ext_len];omega
theorem win_get (taps start:List Int) (k i:Nat):bt (winL taps start k) i=bt (ext taps start k) (k+i):=by
 unfold bt winL
 simp only [List.getD_eq_getElem?_getD,List.getElem?_drop]
theorem win_ok {taps start:List Int} (h:OkBs start) (k:Nat):OkBs (winL taps start k):=fun x hx=>ext_ok h k x (List.mem_of_mem_drop hx)
theorem rb_win {taps start:List Int} {k:Nat} (h:0<start.length):(winL taps start k).getD 0 0=rb taps start k:=by
 show bt _ 0=_
 rw [win_get]
 unfold rb
 exact (ext_get (by omega) (k+1) (by omega)).symm
theorem nx_win {taps start:List Int} (h:start.length=taps.length) (k:Nat):sm taps.length (fun j=>bt taps j*bt (winL taps start k) (taps.length-1-j))%2=nx (ext taps start k) taps:=by
 unfold nx pre
 refine congrArg (· % 2) (sm_congr fun j hj=>?_)
 rw [win_get,ext_len,show k+(taps.length-1-j)=start.length+k-1-j by omega]
theorem rb_nil {taps start:List Int} {k:Nat} (h:start.length=0):nx (ext taps start k) taps=rb taps start k:=by
 unfold rb bt
 rw [ext_more,List.getD_eq_getElem?_getD,List.getElem?_append_right (by rw [ext_len];omega),ext_len,h]
 simp
theorem win_next (taps start:List Int) (k:Nat):((winL taps start k).flatMap encI++[Value.int .i64 (nx (ext taps start k) taps)]).drop 1=(winL taps start (k+1)).flatMap encI:=by
 have h1:(ext taps start k++[nx (ext taps start k) taps]).drop k=(ext taps start k).drop k++[nx (ext taps start k) taps]:=List.drop_append_of_le_length (by rw [ext_len];omega)
 have e:(winL taps start k++[nx (ext taps start k) taps]).drop 1=winL taps start (k+1):=by
  unfold winL
  rw [ext_more,← h1,List.drop_drop]
 rw [← e,flat_encI,flat_encI,List.map_drop,List.map_append]
 rfl
theorem runL_map (taps start:List Int) (n:Nat):runL taps start n=(List.range n).map (rb taps start):=by
 have hlen:(runL taps start n).length=n:=by unfold runL;rw [List.length_take,ext_len];omega
 refine ext_getD 0 (by rw [hlen];simp) fun i hi=>?_
 rw [hlen] at hi
 rw [mapR_get 0 hi]
 show bt _ i=_
 unfold runL
 rw [bt_take hi]
 unfold rb
 rcases Nat.le_total (n-start.length) (i+1) with g | g
 ·exact (ext_get (by omega) _ g).symm
 ·exact ext_get (by omega) _ g
def gI (x:Int) (v:Value):HP:=fun _=>v=.int .i64 x
theorem gI_in {x y:Int} (h:y=x) {H:List HP}:∀ h,sat H h→sat (gI x (.int .i64 y)::H) h:=fun h' hs=>⟨fun _=>none,h',split_none h',by subst h;rfl,hs⟩
theorem gI_val {C:Cx Tryz.prog} {H:List HP} {x:Int} {v:Value} (s:Sub H [gI x v]):∀ (L:List HP) w,TH.Inv C.w0 C.M (L++H) w→v=.int .i64 x:=fun L w hi=>by
 cases s with
 | cons p _ =>
  obtain ⟨_,h⟩:=(hi.pickL p).piece
  exact h
theorem bits_get {taps start:List Int} {k many:Nat} (h:k≤many):((List.range (many+1)).map (rb taps start))[k]?=some (rb taps start k):=by rw [List.getElem?_map,List.getElem?_range (by omega)];rfl
theorem cellNow {C:Cx Tryz.prog} {H:List HP} {nb i:Nat} {v:Value} {taps start:List Int} {k:Nat} (s:Sub H [NowP 3 nb start.length (start.flatMap encI) v ((winL taps start k).flatMap encI)]) (hi:i<start.length):Cell C H (elt v i 1) (.int .i64 (bt (winL taps start k) i)):=by
 cases s with
 | cons p _ =>
  have h1:i<((winL taps start k).flatMap encI).length:=by rw [flat_encI,List.length_map,win_len];exact hi
  have:=NowP.cell (C:=C) p h1
  have e:((winL taps start k).flatMap encI).getD i undef=.int .i64 (bt (winL taps start k) i):=by
   have h2:i<(winL taps start k).length:=by rw [win_len];exact hi
   rw [flat_encI];unfold bt;simp [h2]
  rwa [e] at this
theorem x3_step {a c:Int}:(a%2+c)%2=(a+c)%2:=by omega
theorem c_bits1 (B:Nat) (wr:World) (tv:Value) (taps start:List Int) (hR0:RdF encI 1 B wr tv taps) (ht:OkBs taps) (hs:OkBs start) (hl:start.length=taps.length) (h128:taps.length≤128) (many:Nat) (l:Nat) (Hc:Nat→List HP)
 (hy:∀ k x v,((List.range (many+1)).map (rb taps start))[k]?=some x→k≤many→YieldB Tryz.prog B wr l #[v] (bl (k<many)) (gI x v::Hc k) (Hc (k+1))) (cb b2 nb:Nat) (w:World) (M':List Nat) (hB:B≤w.heap.size) (hk:∀ k,k<B→w.heap[k]?=wr.heap[k]?) (hM:∀ b∈M',B≤b)
 (hi:TH.Inv w M' ([pt cb (.cells #[.pointer (some ⟨b2,0,none⟩)] 119 (0,0)),pt b2 (.cells #[tv,.slice (some ⟨nb,0,none⟩) start.length start.length] 194 (0,0)),OwE encI 3 1 (.slice (some ⟨nb,0,none⟩) start.length start.length) start]++Hc 0) w) :
 Ct Tryz.prog 107 ([.func (.yield l) #[] #[],.pointer (some ⟨cb,0,none⟩)]:List Value).toArray w fun _ w'=>TH.Inv w M' ([pt cb (.cells #[.pointer (some ⟨b2,0,none⟩)] 119 (0,0)),pt b2 (.cells #[tv,.slice (some ⟨nb,0,none⟩) start.length start.length] 194 (0,0)),OwE encI 3 1 (.slice (some ⟨nb,0,none⟩) start.length start.length) start]++Hc (min ((List.range (many+1)).map (rb taps start)).length (many+1))) w':=by
 have hR:=hR0.agree hk
 refine Iter.ofI mixed tyTab hB hM Tryz.func107 rfl rfl hi ?_
 replace hR:RdF encI 1 (itCx mixed tyTab Tryz.f107.ntmps w M' B hB hM).B (itCx mixed tyTab Tryz.f107.ntmps w M' B hB hM).w0 tv taps:=hR
 refine W.sreg (WO.load rfl rfl (Cell.own Pick.head rfl) rfl (WO.p rfl rfl (WO.fieldL rfl rfl rfl (WO.load rfl rfl (Cell.own (Pick.tail (Pick.head)) rfl) rfl (WO.p rfl rfl (WO.nil (W.block (W.chg (NowP.start (e:=3) (b:=nb) (n:=start.length) (ss:=start.flatMap encI) (by repeat first | exact .head | apply Pick.tail)) ?_))))))))
 refine W.loop2 (fun (k:Nat) (v:Value)=>k≤many)
  (fun (k:Nat) (v:Value)=>[(3,v),(0,.func (.yield l) #[] #[]),(1,.pointer (some ⟨cb,0,none⟩))])
  (fun (k:Nat) (v:Value)=>[pt cb (.cells #[.pointer (some ⟨b2,0,none⟩)] 119 (0,0)),pt b2 (.cells #[tv,.slice (some ⟨nb,0,none⟩) start.length start.length] 194 (0,0)),NowP 3 nb start.length (start.flatMap encI) v ((winL taps start k).flatMap encI),sat (Hc k)])
  (fun (k:Nat) (v:Value)=>many-k) 0 _
  (by omega) ⟨rfl,rfl,rfl,trivial⟩ (by repeat (first | exact Sub.nil | refine Sub.cons (by repeat first | exact .head | apply Pick.tail) ?_)) ?_
 rintro k v hk0
 refine W.fact (p:=IsSl v start.length) (fun L w hi=>(NowP.len (by repeat first | exact .head | apply Pick.tail) L w hi).2) ?_
 intro hnl
 have hwin:=win_ok (taps:=taps) hs k
 have hget:=bits_get (taps:=taps) (start:=start) hk0
 refine W.block (W.sreg (WO.p rfl rfl (WO.nil (W.seq (W.sreg (WO.load rfl rfl (Cell.own Pick.head rfl) rfl (WO.p rfl rfl (WO.field0 rfl rfl rfl (WO.load rfl rfl (Cell.own (Pick.tail (Pick.head)) rfl) rfl (WO.len rfl rfl hR.sl rfl (WO.p rfl rfl (WO.nil (W.block ?_)))))))))))))
 refine W.loop2 (fun (i:Nat) (n:Int)=>i≤taps.length∧n=sm i (fun j=>bt taps j*bt (winL taps start k) (taps.length-1-j))%2)
  (fun (i:Nat) (n:Int)=>[(17,.int .i64 (i:Int)),(16,.int .i64 (taps.length:Int)),(15,tv),(4,.int .i64 n),(3,v),(0,.func (.yield l) #[] #[]),(1,.pointer (some ⟨cb,0,none⟩))])
  (fun (i:Nat) (n:Int)=>[pt cb (.cells #[.pointer (some ⟨b2,0,none⟩)] 119 (0,0)),pt b2 (.cells #[tv,.slice (some ⟨nb,0,none⟩) start.length start.length] 194 (0,0)),NowP 3 nb start.length (start.flatMap encI) v ((winL taps start k).flatMap encI),sat (Hc k)])
  (fun (i:Nat) (n:Int)=>taps.length-i) 0 0
  (by exact ⟨by omega,rfl⟩) ⟨rfl,rfl,rfl,rfl,rfl,rfl,rfl,trivial⟩ (by repeat (first | exact Sub.nil | refine Sub.cons (by repeat exact .head) ?_)) ?_
 rintro i n ⟨hi0,hn0⟩
 refine W.sreg (WO.p rfl rfl (WO.nil (W.seq ?_)))
 refine W.cond_bl rfl (fun c1=>?_) (fun c1=>?_)
 ·refine W.skip (W.seq (W.block (W.sreg (WO.p rfl rfl (WO.indexAddr rfl rfl rfl hR.sl (by omega) rfl ?_)))))
  refine' WO.load (v:=_) rfl rfl ?hc rfl ?_
  case hc=>(first | (refine hR.cell0 (i:=i) ?_ 0 ?_ <;> first | rfl | omega))
  refine WO.p rfl rfl (WO.p rfl rfl (WO.nil (W.region (WO.p rfl rfl (WO.p rfl rfl (WO.p rfl rfl (WO.p rfl rfl (WO.len rfl rfl hnl rfl (WO.ar rfl rfl rfl (by unfold in64;omega) rfl (WO.p rfl rfl (WO.ar rfl rfl rfl (by unfold in64;omega) rfl ?_)))))))))))
  refine' WO.indexAddrZ (n:=_) rfl rfl rfl ?hs ?h00 ?h1 rfl ?_
  case hs=>exact hnl
  case h00=>omega
  case h1=>(omega)
  refine' WO.load (v:=_) rfl rfl ?hc rfl ?_
  case hc=>(first | (refine cellNow (nb:=nb) (taps:=taps) (start:=start) (k:=k) (i:=((start.length:Int)-1-(i:Int)).toNat) ?_ (by omega);repeat (first | exact Sub.nil | refine Sub.cons (by repeat first | exact .head | apply Pick.tail) ?_)))
  refine WO.and01 rfl rfl (bt_ok ht i) (bt_ok hwin _) rfl (WO.xor01 rfl rfl (by omega) (mul01 (bt_ok ht i) (bt_ok hwin _)) rfl (WO.p rfl rfl (WO.nil (W.region (WO.ar rfl rfl rfl (by unfold in64;omega) rfl (WO.p rfl rfl (WO.nil ?_)))))))
  refine' ⟨i+1,_,?hp,?hmu,⟨rfl,rfl,rfl,rfl,rfl,rfl,rfl,trivial⟩,?hS⟩
  case hS=>repeat (first | exact Sub.nil | refine Sub.cons (by repeat exact .head) ?_)
  case hp=>exact ⟨by omega,by rw [hn0];show _=(sm i (fun j=>bt taps j*bt (winL taps start k) (taps.length-1-j))+bt taps i*bt (winL taps start k) (taps.length-1-i))%2;rw [show ((start.length:Int)-1-(i:Int)).toNat=taps.length-1-i by omega];exact x3_step⟩
  case hmu=>omega
 ·refine W.exit (blk_same ?_)
  obtain rfl:i=taps.length:=by omega
  rw [nx_win hl] at hn0
  subst hn0
  refine W.sreg (WO.p rfl rfl (WO.p rfl rfl (WO.nil (W.seq (W.sreg (WO.p rfl rfl (WO.len rfl rfl hnl rfl (WO.p rfl rfl (WO.nil ?_)))))))))
  refine W.cond_bl rfl (fun c2=>?_) (fun c2=>?_)
  ·refine W.region (WO.p rfl rfl (WO.indexAddr (i:=0) rfl rfl rfl hnl (by omega) rfl ?_))
   refine' WO.load (v:=_) rfl rfl ?hc rfl ?_
   case hc=>(first | (refine cellNow (nb:=nb) (taps:=taps) (start:=start) (k:=k) (i:=0) ?_ (by omega);repeat (first | exact Sub.nil | refine Sub.cons (by repeat first | exact .head | apply Pick.tail) ?_)))
   refine WO.p rfl rfl (WO.nil (W.seq (W.sreg (WO.p rfl rfl (WO.p rfl rfl ?_)))))
   refine WO.chg (gI_in (rb_win (taps:=taps) (start:=start) (k:=k) (by omega))) ?_
   refine WO.yieldB (go:=bl (k<many)) rfl rfl (by repeat exact .head) (by repeat first | exact .head | apply Pick.tail) (((hy k _ _ hget hk0).one).agree hk) rfl (WO.p rfl rfl (WO.nil ?_))
   refine W.cond_nbl rfl (fun c3=>?_) (fun c3=>?_)
   ·refine W.ret ?_
    obtain rfl:k=many:=by omega
    refine fin.ret (Res.none rfl) ?_
    rw [show min ((List.range (k+1)).map (rb taps start)).length (k+1)=k+1 by simp]
    exact fun h hs=>Sub.sat (.cons (.tail (.tail .head)) (.cons (.tail (.tail .head)) (.cons .head (.cons .head .nil)))) (NowP.stop (e:=3) (b:=nb) (n:=start.length) (ss:=start.flatMap encI) (.tail (.tail (.tail .head))) h hs)
   ·refine W.skip (W.region (WO.p rfl rfl (WO.p rfl rfl (WO.buildSl rfl rfl rfl rfl rfl rfl rfl rfl rfl (fun v1=>(WO.appendNow (ss:=start.flatMap encI) (cs:=(winL taps start k).flatMap encI) (n:=start.length) (nu:=.int .i64 (nx (ext taps start k) taps)) rfl rfl rfl rfl rfl (by repeat first | exact .head | apply Pick.tail) (isSl_lit (by omega) (fun _=>⟨_,_,rfl⟩)) (OwC.cells (by repeat exact .head)) rfl (by omega) (by omega) rfl (fun g o c hc=>(WO.slSl (lo:=1) (hi:=start.length+1) (mx:=c) rfl rfl (bnd.at rfl) bnd.no bnd.no (by simp) (by omega) (by omega) (by omega) rfl ?_))))))))
    refine WO.chg (NowP.next (by repeat exact .head) (by repeat exact .head)) ?_
    rw [win_next]
    refine WO.p rfl rfl (WO.nil ?_)
    refine' ⟨k+1,_,?hp,?hmu,⟨rfl,rfl,rfl,trivial⟩,?hS⟩
    case hS=>repeat (first | exact Sub.nil | refine Sub.cons (by repeat first | exact .head | apply Pick.tail) ?_)
    case hp=>omega
    case hmu=>omega
  ·refine W.skip (W.seq (W.sreg (WO.p rfl rfl (WO.p rfl rfl ?_))))
   refine WO.chg (gI_in (rb_nil (taps:=taps) (start:=start) (k:=k) (by omega))) ?_
   refine WO.yieldB (go:=bl (k<many)) rfl rfl (by repeat exact .head) (by repeat first | exact .head | apply Pick.tail) (((hy k _ _ hget hk0).one).agree hk) rfl (WO.p rfl rfl (WO.nil ?_))
   refine W.cond_nbl rfl (fun c4=>?_) (fun c4=>?_)
   ·refine W.ret ?_
    obtain rfl:k=many:=by omega
    refine fin.ret (Res.none rfl) ?_
    rw [show min ((List.range (k+1)).map (rb taps start)).length (k+1)=k+1 by simp]
    exact fun h hs=>Sub.sat (.cons (.tail (.tail .head)) (.cons (.tail (.tail .head)) (.cons .head (.cons .head .nil)))) (NowP.stop (e:=3) (b:=nb) (n:=start.length) (ss:=start.flatMap encI) (.tail (.tail (.tail .head))) h hs)
   ·refine W.skip (W.region (WO.p rfl rfl (WO.p rfl rfl (WO.buildSl rfl rfl rfl rfl rfl rfl rfl rfl rfl (fun v2=>(WO.appendNow (ss:=start.flatMap encI) (cs:=(winL taps start k).flatMap encI) (n:=start.length) (nu:=.int .i64 (nx (ext taps start k) taps)) rfl rfl rfl rfl rfl (by repeat first | exact .head | apply Pick.tail) (isSl_lit (by omega) (fun _=>⟨_,_,rfl⟩)) (OwC.cells (by repeat exact .head)) rfl (by omega) (by omega) rfl (fun g o c hc=>(WO.slSl (lo:=1) (hi:=start.length+1) (mx:=c) rfl rfl (bnd.at rfl) bnd.no bnd.no (by simp) (by omega) (by omega) (by omega) rfl ?_))))))))
    refine WO.chg (NowP.next (by repeat exact .head) (by repeat exact .head)) ?_
    rw [win_next]
    refine WO.p rfl rfl (WO.nil ?_)
    refine' ⟨k+1,_,?hp,?hmu,⟨rfl,rfl,rfl,trivial⟩,?hS⟩
    case hS=>repeat (first | exact Sub.nil | refine Sub.cons (by repeat first | exact .head | apply Pick.tail) ?_)
    case hp=>omega
    case hmu=>omega
end Go.Proofs.YtncjabmlkgacdaaGreat.Wv
namespace Go.Proofs.YtncjabmlkgacdaaGreat.Wv
open Go Go.TH Go.TH.Wv
attribute [local irreducible] W WO pt
set_option maxRecDepth 10000
set_option maxHeartbeats 1000000
def OutP (b:Nat) (xs:List Int):HP:=fun h=>∃ (a:Option Addr) (c:Nat),sat [pt b (.cells #[.slice a xs.length c] 64 (0,0)),OwE encI 3 1 (.slice a xs.length c) xs] h
theorem out_open {b n:Nat} {xs:List Int} {H H':List HP} (p:Pick (OutP b xs) H H') (e:xs.length=n):∀ h,sat H h→∃ x:Option Addr × Nat,True∧sat (pt b (.cells #[.slice x.1 n x.2] 64 (0,0))::OwE encI 3 1 (.slice x.1 n x.2) xs::H') h:=fun h hs=>by
 subst e
 obtain ⟨h1,h2,s,⟨a,c,hp⟩,hr⟩:=p.sat hs
 exact ⟨(a,c),trivial,sat_join (H1:=[_,_]) s hp hr⟩
theorem out_pack {b n c:Nat} {a:Option Addr} {xs:List Int} {H Hr:List HP} (s:Sub H (pt b (.cells #[.slice a n c] 64 (0,0))::OwE encI 3 1 (.slice a n c) xs::Hr)) (e:xs.length=n):∀ h,sat H h→sat (OutP b xs::Hr) h:=fun h hs=>by
 subst e
 obtain ⟨h1,h2,s2,hp,hr⟩:=sat_app (H1:=[_,_]) (s.sat hs)
 exact ⟨h1,h2,s2,⟨a,c,hp⟩,hr⟩
theorem out_nil {b:Nat} {H H':List HP} (p:Pick (pt b (.cells #[.slice none 0 0] 64 (0,0))) H H'):∀ h,sat H h→sat (OutP b []::H') h:=fun h hs =>
 out_pack (xs:=[]) (.cons (.tail .head) (.cons .head (Sub.refl _))) rfl h (owNil (enc:=encI) (e:=3) (sz:=1) h ((Sub.cons p (Sub.refl _)).sat hs))
theorem runK_succ {taps start:List Int} {k many:Nat} (h:k<many):(List.range (min k many)).map (rb taps start)++[rb taps start k]=(List.range (min (k+1) many)).map (rb taps start):=by
 rw [show min (k+1) many=k+1 by omega,show min k many=k by omega,List.range_succ,List.map_append];rfl
theorem err_run {taps start:List Int} {many E:Int} {H:List HP} (h0:runE taps start many=E) (hE:E≠0):∃ x:Value,Value.tuple #[.slice none 0 0,.int .i64 E]=.tuple #[x,.int .i64 (runE taps start many)]∧∀ h,sat H h→sat [OwE encI 3 1 x (if runE taps start many=0 then runL taps start many.toNat else [])] h :=
 ⟨.slice none 0 0,by rw [h0],fun h hs=>by rw [h0,if_neg hE];exact Sub.sat (.cons .head .nil) (owNil (enc:=encI) (e:=3) (sz:=1) h hs)⟩
theorem run_a {taps start:List Int} {many:Int} (h:chk2 taps start≠0):runE taps start many=chk2 taps start:=by
 have hs:chkS taps start=chk2 taps start:=if_pos h
 rw [runE_a (by rw [hs];exact h),hs]
theorem run_l {taps start:List Int} {many:Int} (h:¬ chk2 taps start≠0) (h2:start.length≠taps.length):runE taps start many=15:=by
 have hs:chkS taps start=15:=by unfold chkS;rw [if_neg h,if_pos h2]
 rw [runE_a (by rw [hs];decide),hs]
theorem c_Run (w:World) (v u:Value) (taps start:List Int) (many:Int) (hR:RdF encI 1 w.heap.size w v taps) (hU:RdF encI 1 w.heap.size w u start):Ct Tryz.prog 19 [v,u,.int .i64 many].toArray w fun r w'=>∃ Hq,(∃ x:Value,r=.tuple #[x,.int .i64 (runE taps start many)]∧Hq=[OwE encI 3 1 x (if runE taps start many=0 then runL taps start many.toNat else [])])∧Inv w [] Hq w':=by
 refine Ct.ofI mixed tyTab Tryz.func19 rfl rfl ?_
 replace hR:RdF encI 1 (fnCx mixed tyTab Tryz.f19.ntmps w).B (fnCx mixed tyTab Tryz.f19.ntmps w).w0 v taps:=hR
 replace hU:RdF encI 1 (fnCx mixed tyTab Tryz.f19.ntmps w).B (fnCx mixed tyTab Tryz.f19.ntmps w).w0 u start:=hU
 obtain ⟨hle,va,vc,hve,_⟩:=id hR.sl
 subst hve
 obtain ⟨hlu,ua,uc,hue,_⟩:=id hU.sl
 subst hue
 refine W.sreg (WO.box1 rfl (by rfl) rfl (fun b1 hb1=>(WO.p rfl rfl (WO.p rfl rfl (WO.nil (W.sreg (WO.p rfl rfl (WO.p rfl rfl (WO.buildSl rfl rfl rfl rfl rfl rfl rfl rfl rfl (fun v2=>(WO.callR (r:=.int .i64 (chk2 taps start)) rfl Tryz.call47 (fun L w hi=>by rw [← chkAll_two];exact c_checkAll w _ [.slice va taps.length vc,.slice ua start.length uc] [taps,start] (RdR.of_two (e':=64) (a:=.slice va taps.length vc) (b:=.slice ua start.length uc) (xs:=taps) (ys:=start) (by repeat exact .head) hi (hR.later hi) (hU.later hi))) rfl (WO.p rfl rfl (WO.nil (W.seq (W.block (W.sreg ?_))))))))))))))))
 refine WO.p rfl rfl (WO.p rfl rfl (WO.p rfl rfl (WO.nil ?_)))
 refine W.cond_bl rfl (fun c1=>?_) (fun c1=>?_)
 ·refine W.sreg (WO.p rfl rfl (WO.p rfl rfl (WO.p rfl rfl (WO.nil (W.ret (fin.ret (Res.two rfl (RV.tmp rfl) (RV.tmp rfl)) ?_))))))
  exact err_run (run_a (by assumption)) (by assumption)
 ·refine W.sreg (WO.p rfl rfl (WO.len rfl rfl hU.sl rfl (WO.p rfl rfl (WO.len rfl rfl hR.sl rfl (WO.p rfl rfl (WO.p rfl rfl (WO.nil ?_)))))))
  refine W.cond_bl rfl (fun c2=>?_) (fun c2=>?_)
  ·refine W.sreg (WO.p rfl rfl (WO.p rfl rfl (WO.nil (W.ret (fin.ret (Res.two rfl (RV.tmp rfl) (RV.tmp rfl)) ?_)))))
   exact err_run (run_l (by assumption) (by omega)) (by decide)
  ·refine W.sreg (WO.load rfl rfl (Cell.own (Pick.tail (Pick.head)) rfl) rfl (WO.p rfl rfl (WO.p rfl rfl (WO.nil ?_))))
   refine W.cond_bl rfl (fun c3=>?_) (fun c3=>?_)
   ·refine W.sreg (WO.p rfl rfl (WO.p rfl rfl (WO.nil (W.ret (fin.ret (Res.two rfl (RV.tmp rfl) (RV.tmp rfl)) ?_)))))
    exact err_run (runE_b (chkS0.2 ⟨chk20.1 (by omega),(by omega)⟩) (by assumption)) (by decide)
   ·refine W.sreg (WO.load rfl rfl (Cell.own (Pick.tail (Pick.head)) rfl) rfl (WO.p rfl rfl (WO.p rfl rfl (WO.nil ?_))))
    refine W.cond_bl rfl (fun c4=>?_) (fun c4=>?_)
    ·refine W.sreg (WO.p rfl rfl (WO.p rfl rfl (WO.nil (W.ret (fin.ret (Res.two rfl (RV.tmp rfl) (RV.tmp rfl)) ?_)))))
     exact err_run (runE_c (chkS0.2 ⟨chk20.1 (by omega),(by omega)⟩) (by assumption)) (by decide)
    ·refine W.skip ?_
     have hok:chkS taps start=0:=chkS0.2 ⟨chk20.1 (by omega),by omega⟩
     have h1:=chkB0.1 (chkS0.1 hok).1.1
     have h2:=chkB0.1 (chkS0.1 hok).1.2
     have hln:=(chkS0.1 hok).2
     have hm:((many.toNat:Nat):Int)=many:=by omega
     refine W.sreg (WO.alloc rfl rfl rfl (fun b3 hb3=>(WO.nil (W.seq (W.sreg (WO.p rfl rfl (WO.p rfl rfl (WO.call (Post:=fun r Hq=>∃ X:Nat × Nat,r=.pointer (some ⟨X.1,0,none⟩)∧Hq=[pt X.1 (.cells #[.slice va taps.length vc,.slice (some ⟨X.2,0,none⟩) start.length start.length] 194 (0,0)),OwE encI 3 1 (.slice (some ⟨X.2,0,none⟩) start.length start.length) start]) rfl Tryz.call49 (fun L w hi=>c_newRegister w _ _ taps start (hR.later hi) (hU.later hi) (by omega)) rfl ?_))))))))
     rintro _ _ ⟨⟨rg,nb⟩,rfl,rfl⟩
     refine WO.call (Post:=fun r Hq=>∃ b:Nat,r=.func (.func 107) #[] #[.pointer (some ⟨b,0,none⟩)]∧Hq=[pt b (.cells #[.pointer (some ⟨rg,0,none⟩)] 119 (0,0))]) rfl Tryz.call50 (fun L w hi=>c_bits w ⟨rg,0,none⟩) rfl ?_
     rintro _ _ ⟨cb,rfl,rfl⟩
     refine WO.nil (W.block (W.chg (out_nil (b:=b3) (by repeat first | exact .head | apply Pick.tail)) ?_))
     refine W.rangeFuncB (Jmp.exit 1) [pt cb (.cells #[.pointer (some ⟨rg,0,none⟩)] 119 (0,0)),pt rg (.cells #[.slice va taps.length vc,.slice (some ⟨nb,0,none⟩) start.length start.length] 194 (0,0)),OwE encI 3 1 (.slice (some ⟨nb,0,none⟩) start.length start.length) start] (fun k=>[OutP b3 ((List.range (min k many.toNat)).map (rb taps start)),pt b1 (.cells #[.int .i64 many] 3 (0,0))]) ((List.range (many.toNat+1)).map (rb taps start)) (gI) (many.toNat) rfl rfl rfl Tryz.call107 (by repeat (first | exact Sub.nil | refine Sub.cons (by repeat first | exact .head | apply Pick.tail) ?_)) ?_ ?_ ?_ ?_
     ·intro ll Hc hy w1 M1 hB1 hk1 hM1 hi1
      exact c_bits1 _ _ _ taps start hR h1.2 h2.2 hln h1.1 many.toNat ll Hc hy cb rg nb w1 M1 hB1 hk1 hM1 hi1
     ·intro ll w1 M1 hB1 hM1 hk1 k x1 v1 hx hle1
      refine W.fact (gI_val (x:=x1) (v:=v1) (.cons .head .nil)) ?_
      rintro rfl
      obtain rfl:rb taps start k=x1:=by rw [bits_get hle1] at hx;exact Option.some.inj hx
      have hlk:((List.range (min k many.toNat)).map (rb taps start)).length=k:=by simp;omega
      refine W.chgE (out_open (by repeat first | exact .head | apply Pick.tail) hlk) ?_
      rintro ⟨oa,oc⟩ _
      refine W.fact (OwE.sl (enc:=encI) (e:=3) (sz:=1) (v:=.slice oa k oc) (xs:=(List.range (min k many.toNat)).map (rb taps start)) (.tail .head)) ?_
      intro hsl
      rw [hlk] at hsl
      refine W.region (WO.p rfl rfl (WO.nil (W.block (W.seq (W.sreg (WO.load rfl rfl (Cell.own Pick.head rfl) rfl (WO.len rfl rfl hsl rfl (WO.load rfl rfl (Cell.own (Pick.tail (Pick.tail (Pick.tail (Pick.head)))) rfl) rfl (WO.p rfl rfl (WO.nil ?_))))))))))
      refine W.cond_bl rfl (fun c5=>?_) (fun c5=>?_)
      ·refine W.exit (blk_other rfl (endR.stop (bl_f.2 (by omega)) rfl ?_))
       rw [show min (k+1) many.toNat=min k many.toNat by omega]
       exact out_pack (by repeat (first | exact Sub.nil | refine Sub.cons (by repeat first | exact .head | apply Pick.tail) ?_)) hlk
      ·refine W.skip (W.region (WO.load rfl rfl (Cell.own Pick.head rfl) rfl (WO.p rfl rfl (WO.buildSl rfl rfl rfl rfl rfl rfl rfl rfl rfl (fun v4=>?_)))))
       refine' WO.appendE (enc:=encI) (m:=1) (xs:=(List.range (min k many.toNat)).map (rb taps start)) (ys:=[rb taps start k]) encI_ok rfl rfl rfl rfl rfl (by repeat first | exact .head | apply Pick.tail) (isSl_lit (by omega) (fun _=>⟨_,_,rfl⟩)) (by omega) rfl (OwC.cells (by repeat exact .head)) (by omega) (by omega) rfl (fun g c=>?_)
       rw [hlk]
       refine WO.store1 rfl rfl rfl (by rfl) (Pick.tail (Pick.tail (Pick.head))) rfl (WO.nil (endR.go (bl_t.2 (by omega)) ?_))
       rw [← runK_succ (show k<many.toNat by omega)]
       exact out_pack (by repeat (first | exact Sub.nil | refine Sub.cons (by repeat first | exact .head | apply Pick.tail) ?_)) (by rw [List.length_append,hlk];rfl)
     ·intro hAll
      exfalso;simp at hAll;omega
     ·intro hStop
      rw [show min (many.toNat+1) many.toNat=many.toNat by omega,← runL_map]
      refine W.chgE (out_open (by repeat first | exact .head | apply Pick.tail) rfl) ?_
      rintro ⟨oa,oc⟩ _
      refine W.exit (blk_same (W.sreg (WO.load rfl rfl (Cell.own Pick.head rfl) rfl (WO.p rfl rfl (WO.p rfl rfl (WO.nil (W.ret (fin.ret (Res.two rfl (RV.tmp rfl) (RV.tmp rfl)) ?_))))))))
      (have q:=hm;have h0:runE taps start many=0:=runE_0.2 ⟨(by omega),(by omega),(by omega)⟩;refine ⟨_,by rw [h0],fun h hs=>?_⟩;rw [if_pos h0];exact Sub.sat (.cons (.tail .head) .nil) hs)
end Go.Proofs.YtncjabmlkgacdaaGreat.Wv
namespace Go.Proofs.YtncjabmlkgacdaaGreat.Wv
open Go Go.TH Go.TH.Wv
set_option maxRecDepth 10000
set_option maxHeartbeats 1000000
/-- among more numbers than there are, two are equal -/
theorem php:∀ (N:Nat) (f:Nat→Nat),(∀ i,i≤N→f i<N)→∃ i j,i<j∧j≤N∧f i=f j
  | 0,f,h=>absurd (h 0 (Nat.le_refl 0)) (by omega)
  | N+1,f,h=>by
    by_cases hx:∃ i,i<N+1∧f i=f (N+1)
    · obtain ⟨i,hi,e⟩:=hx
      exact ⟨i,N+1,hi,Nat.le_refl _,e⟩
    · have hne:∀ i,i<N+1→f i≠f (N+1):=fun i hi e=>hx ⟨i,hi,e⟩
      have hN:=h (N+1) (Nat.le_refl _)
      obtain ⟨i,j,h1,h2,h3⟩:=php N (fun i=>if f (N+1)<f i then f i-1 else f i) (fun i hi=>by
        have h4:=h i (by omega)
        have h5:=hne i (by omega)
        show (if f (N+1)<f i then f i-1 else f i)<N
        split <;> omega)
      refine ⟨i,j,h1,by omega,?_⟩
      have h4:=hne i (by omega)
      have h5:=hne j (by omega)
      have h6:(if f (N+1)<f i then f i-1 else f i)=(if f (N+1)<f j then f j-1 else f j):=h3
      split at h6 <;> split at h6 <;> omega
theorem cfb {a b:Nat} (h:∀ i,a.testBit i=b.testBit i):a=b:=Nat.eq_of_testBit_eq h
/-- bits as a number: the first one is the lowest -/
def accS (l:List Int):Nat→Nat
  | 0=>0
  | i+1=>accS l i|||(bt l i).toNat<<<i
def sN (l:List Int):Nat:=accS l l.length
/-- taps as a number: the first one is the highest -/
def accT (l:List Int):Nat→Nat
  | 0=>0
  | j+1=>accT l j|||(bt l j).toNat<<<(l.length-1-j)
def tN (l:List Int):Nat:=accT l l.length
theorem shl_bit {x:Int} (h:x=0∨x=1) (s i:Nat):(x.toNat<<<s).testBit i=(decide (s=i)&&decide (x=1)):=by
  rcases h with rfl | rfl
  · simp
  · rw [show (1:Int).toNat=1 from rfl,one_bit];simp
theorem accS_bit {l:List Int} (h:OkBs l):∀ n i,(accS l n).testBit i=(decide (i<n)&&decide (bt l i=1))
  | 0,i=>by simp [accS]
  | n+1,i=>by
    unfold accS
    rw [Nat.testBit_or,accS_bit h n i,shl_bit (bt_ok h n)]
    by_cases e:n=i
    · subst e;simp
    · have h1:(i<n+1)↔(i<n):=by omega
      simp [e,h1]
theorem accT_bit {l:List Int} (h:OkBs l):∀ n i,n≤l.length→(accT l n).testBit i=(decide (l.length-n≤i∧i<l.length)&&decide (bt l (l.length-1-i)=1))
  | 0,i,hn=>by
    have:¬ (l.length-0≤i∧i<l.length):=by omega
    simp [accT];omega
  | n+1,i,hn=>by
    unfold accT
    rw [Nat.testBit_or,accT_bit h n i (by omega),shl_bit (bt_ok h n)]
    by_cases e:l.length-1-n=i
    · subst e
      have h1:l.length-1-(l.length-1-n)=n:=by omega
      have h2:¬ (l.length-n≤l.length-1-n∧l.length-1-n<l.length):=by omega
      have h3:(l.length-(n+1)≤l.length-1-n∧l.length-1-n<l.length):=by omega
      rw [h1];simp only [h2,h3];simp
    · have h1:(l.length-(n+1)≤i∧i<l.length)↔(l.length-n≤i∧i<l.length):=by omega
      simp only [h1,e];simp
theorem bt_out {l:List Int} {i:Nat} (h:l.length≤i):bt l i=0:=by
  unfold bt;rw [List.getD_eq_getElem?_getD,List.getElem?_eq_none h];rfl
theorem sN_bit {l:List Int} (h:OkBs l) (i:Nat):(sN l).testBit i=decide (bt l i=1):=by
  unfold sN
  rw [accS_bit h]
  by_cases g:i<l.length
  · simp [g]
  · have:bt l i=0:=bt_out (by omega)
    simp [g,this]
theorem tN_bit {l:List Int} (h:OkBs l) (i:Nat):(tN l).testBit i=(decide (i<l.length)&&decide (bt l (l.length-1-i)=1)):=by
  unfold tN
  rw [accT_bit h _ _ (Nat.le_refl _)]
  have h1:(l.length-l.length≤i∧i<l.length)↔(i<l.length):=by omega
  simp only [h1]
theorem bits_lt {a n:Nat} (h:∀ i,n≤i→a.testBit i=false):a<2 ^ n:=Nat.lt_pow_two_of_testBit a h
theorem accS_lt {l:List Int} (h:OkBs l) (n:Nat):accS l n<2 ^ n:=bits_lt fun i hi=>by rw [accS_bit h];simp;omega
theorem accT_lt {l:List Int} (h:OkBs l) {n:Nat} (hn:n≤l.length):accT l n<2 ^ l.length:=bits_lt fun i hi=>by rw [accT_bit h _ _ hn];simp;omega
theorem sN_inj {l l':List Int} (h:OkBs l) (h':OkBs l') (hl:l.length=l'.length) (e:sN l=sN l'):l=l':=ext_getD 0 hl fun i hi=>by
  have h1:=sN_bit h i
  have h2:=sN_bit h' i
  rw [e,h2] at h1
  have a:=bt_ok h i
  have b:=bt_ok h' i
  show bt l i=bt l' i
  rcases a with a | a <;> rcases b with b | b <;> rw [a,b] at h1 <;> simp at h1 <;> omega
/-- the parity of a number's bits -/
def par (n:Nat):Nat:=if h:n=0 then 0 else (n%2+par (n/2))%2
  termination_by n
  decreasing_by omega
theorem par_0:par 0=0:=by unfold par;simp
theorem par_step (n:Nat):par n=(n%2+par (n/2))%2:=by
  by_cases h:n=0
  · subst h;simp [par_0]
  · conv=>lhs;unfold par
    rw [dif_neg h]
theorem and_pred_odd (m:Nat):(2*m+1)&&&(2*m)=2*m:=by
  refine cfb fun i=>?_
  rw [Nat.testBit_and]
  cases i with
  | zero=>simp
  | succ i=>simp [Nat.testBit_succ];rw [show (2*m+1)/2=m by omega];simp
theorem and_pred_even {m:Nat} (h:0<m):(2*m)&&&(2*m-1)=2*(m&&&(m-1)):=by
  refine cfb fun i=>?_
  rw [Nat.testBit_and]
  cases i with
  | zero=>simp
  | succ i=>simp [Nat.testBit_succ];rw [show (2*m-1)/2=m-1 by omega]
theorem par_pred:∀ n:Nat,0<n→par n=(par (n&&&(n-1))+1)%2:=by
  intro n
  induction n using Nat.strongRecOn with
  | ind n ih =>
    intro hn
    obtain ⟨m,hm⟩:∃ m,n=2*m∨n=2*m+1:=⟨n/2,by omega⟩
    rcases hm with rfl | rfl
    · have h0:0<m:=by omega
      rw [and_pred_even h0,par_step,par_step (2*(m&&&(m-1)))]
      rw [show 2*m/2=m by omega,show 2*(m&&&(m-1))/2=m&&&(m-1) by omega,ih m (by omega) h0]
      omega
    · rw [show 2*m+1-1=2*m by omega,and_pred_odd,par_step,par_step (2*m)]
      rw [show (2*m+1)/2=m by omega,show 2*m/2=m by omega]
      omega
theorem and_pred_lt {n:Nat} (h:0<n):n&&&(n-1)<n:=Nat.lt_of_le_of_lt Nat.and_le_right (by omega)
theorem par_cf:∀ (K n:Nat),n<2 ^ K→((par n:Nat):Int)=sm K (cf n)%2
  | 0,n,h=>by
    obtain rfl:n=0:=by omega
    rw [par_0];rfl
  | K+1,n,h=>by
    rw [par_step,sm_front]
    have h1:=par_cf K (n/2) (by rw [Nat.pow_succ] at h;omega)
    have e:sm K (fun j=>cf n (j+1))=sm K (cf (n/2)):=sm_congr fun j _=>by unfold cf;rw [Nat.testBit_succ]
    rw [e]
    have e2:cf n 0=((n%2:Nat):Int):=by
      unfold cf
      have:=Nat.mod_two_eq_zero_or_one n
      rcases this with g | g <;> simp [Nat.testBit_zero,g]
    rw [e2]
    omega
theorem sm_rev:∀ (n:Nat) (f:Nat→Int),sm n f=sm n fun j=>f (n-1-j)
  | 0,f=>rfl
  | n+1,f=>by
    rw [sm_front n (fun j=>f (n+1-1-j))]
    show sm n f+f n=_
    rw [show n+1-1-0=n by omega,sm_rev n f,Int.add_comm]
    congr 1
    exact sm_congr fun j hj=>by rw [show n+1-1-(j+1)=n-1-j by omega]
theorem cf_of {a:Nat} {i:Nat} {p:Prop} [Decidable p] (h:a.testBit i=decide p):cf a i=if p then 1 else 0:=by
  unfold cf;rw [h];by_cases g:p <;> simp [g]
theorem cf_sN {l:List Int} (h:OkBs l) (i:Nat):cf (sN l) i=bt l i:=by
  rw [cf_of (sN_bit h i)]
  rcases bt_ok h i with g | g <;> rw [g] <;> simp
theorem cf_tN {l:List Int} (h:OkBs l) {i:Nat} (hi:i<l.length):cf (tN l) i=bt l (l.length-1-i):=by
  have:=tN_bit h i
  rw [show decide (i<l.length)=true by simp [hi],Bool.true_and] at this
  rw [cf_of this]
  rcases bt_ok h (l.length-1-i) with g | g <;> rw [g] <;> simp
/-- what comes behind a window -/
def stepW (taps l:List Int):List Int:=l.drop 1++[nx l taps]
theorem par_nx {taps l:List Int} (ht:OkBs taps) (h:OkBs l) (hl:l.length=taps.length):((par (sN l&&&tN taps):Nat):Int)=nx l taps:=by
  have h1:sN l&&&tN taps<2 ^ taps.length:=Nat.lt_of_le_of_lt Nat.and_le_right (accT_lt ht (Nat.le_refl _))
  rw [par_cf _ _ h1]
  unfold nx pre
  rw [sm_rev]
  refine congrArg (· % 2) (sm_congr fun j hj=>?_)
  show cf (sN l&&&tN taps) (taps.length-1-j)=_
  rw [cf_and,cf_sN h,cf_tN ht (by omega),show taps.length-1-(taps.length-1-j)=j by omega,hl,Int.mul_comm]
theorem stepW_ok {taps l:List Int} (h:OkBs l):OkBs (stepW taps l):=fun x hx=>by
  unfold stepW at hx
  rcases List.mem_append.1 hx with g | g
  · exact h x (List.mem_of_mem_drop g)
  · rw [List.mem_singleton] at g;subst g;exact nx_01 _ _
theorem stepW_bt {taps l:List Int} (h0:0<l.length) (i:Nat):bt (stepW taps l) i=if i<l.length-1 then bt l (i+1) else if i=l.length-1 then nx l taps else 0:=by
  unfold stepW bt
  simp only [List.getD_eq_getElem?_getD,List.getElem?_append,List.length_drop,List.getElem?_drop]
  by_cases g:i<l.length-1
  · rw [if_pos g,if_pos g,Nat.add_comm 1 i]
  · rw [if_neg g,if_neg g]
    by_cases g2:i=l.length-1
    · subst g2;simp
    · rw [if_neg g2]
      obtain ⟨d,hd⟩:∃ d,i-(l.length-1)=d+1:=⟨i-(l.length-1)-1,by omega⟩
      rw [hd];simp
/-- the next state, as a number -/
theorem sN_step {taps l:List Int} (ht:OkBs taps) (h:OkBs l) (hl:l.length=taps.length) (h0:0<l.length):sN l>>>1|||par (sN l&&&tN taps)<<<(taps.length-1)=sN (stepW taps l):=by
  refine cfb fun i=>?_
  have hp:=par_nx ht h hl
  have hn:=nx_01 l taps
  rw [Nat.testBit_or,Nat.testBit_shiftRight,sN_bit h,sN_bit (stepW_ok h),stepW_bt h0]
  have e:par (sN l&&&tN taps)=(nx l taps).toNat:=by omega
  rw [e,shl_bit hn,← hl]
  by_cases g:i<l.length-1
  · rw [if_pos g,Nat.add_comm 1 i]
    have:¬ l.length-1=i:=by omega
    simp [this]
  · rw [if_neg g]
    have e2:bt l (1+i)=0:=bt_out (by omega)
    rw [e2]
    by_cases g2:i=l.length-1
    · subst g2;simp
    · rw [if_neg g2]
      have:¬ l.length-1=i:=fun e=>g2 e.symm
      simp [this]
theorem win_step {taps start:List Int} (h0:0<start.length) (hl:start.length=taps.length) (k:Nat):winL taps start (k+1)=stepW taps (winL taps start k):=by
  have hw:=win_len taps start k
  have e:nx (winL taps start k) taps=nx (ext taps start k) taps:=by
    rw [← nx_win hl k]
    unfold nx pre
    rw [hw,hl]
  unfold stepW
  rw [e]
  unfold winL
  rw [ext_more,List.drop_append_of_le_length (by rw [ext_len];omega),List.drop_drop]
/-- the period -/
def IsPer (taps start:List Int) (n:Nat):Prop:=0<n∧winL taps start n=start∧∀ m,0<m→m<n→winL taps start m≠start
theorem per_uniq {taps start:List Int} {n m:Nat} (h:IsPer taps start n) (h':IsPer taps start m):n=m:=by
  rcases Nat.lt_trichotomy n m with g | g | g
  · exact absurd h.2.1 (h'.2.2 n h.1 g)
  · exact g
  · exact absurd h'.2.1 (h.2.2 m h'.1 g)
open Classical in
noncomputable def per (taps start:List Int):Nat:=if h:∃ n,IsPer taps start n then Classical.choose h else 0
theorem per_eq {taps start:List Int} {n:Nat} (h:IsPer taps start n):per taps start=n:=by
  unfold per
  rw [dif_pos ⟨n,h⟩]
  exact per_uniq (Classical.choose_spec _) h
/-- a step can be taken back, if the last tap is 1 -/
theorem stepW_inj {taps l l':List Int} (h:OkBs l) (h':OkBs l') (hl:l.length=taps.length) (hl':l'.length=taps.length) (h0:0<taps.length) (hlast:bt taps (taps.length-1)=1) (e:stepW taps l=stepW taps l'):l=l':=by
  have hx:∀ i,i<taps.length-1→bt l (i+1)=bt l' (i+1):=fun i hi=>by
    have h1:=stepW_bt (taps:=taps) (l:=l) (by omega) i
    have h2:=stepW_bt (taps:=taps) (l:=l') (by omega) i
    rw [if_pos (by omega)] at h1 h2
    rw [← h1,← h2,e]
  have hn:nx l taps=nx l' taps:=by
    have h1:=stepW_bt (taps:=taps) (l:=l) (by omega) (taps.length-1)
    have h2:=stepW_bt (taps:=taps) (l:=l') (by omega) (taps.length-1)
    rw [if_neg (by omega),if_pos (by omega)] at h1 h2
    rw [← h1,← h2,e]
  have h00:bt l 0=bt l' 0:=by
    unfold nx pre at hn
    obtain ⟨m,hm⟩:∃ m,taps.length=m+1:=⟨taps.length-1,by omega⟩
    rw [hl,hl',hm] at hn
    have e1:sm m (fun j=>bt taps j*bt l (m+1-1-j))=sm m (fun j=>bt taps j*bt l' (m+1-1-j)):=sm_congr fun j hj=>by
      obtain ⟨q,hq⟩:∃ q,m+1-1-j=q+1:=⟨m-1-j,by omega⟩
      rw [hq,hx q (by omega)]
    have e2:(sm m (fun j=>bt taps j*bt l (m+1-1-j))+bt taps m*bt l (m+1-1-m))%2=(sm m (fun j=>bt taps j*bt l' (m+1-1-j))+bt taps m*bt l' (m+1-1-m))%2:=hn
    rw [e1,show m+1-1-m=0 by omega,show bt taps m=1 by rw [← hlast,hm];rfl] at e2
    have a:=bt_ok h 0
    have b:=bt_ok h' 0
    omega
  refine ext_getD 0 (by omega) fun i hi=>?_
  show bt l i=bt l' i
  cases i with
  | zero=>exact h00
  | succ i=>exact hx i (by omega)
theorem win_back {taps start:List Int} (hs:OkBs start) (hl:start.length=taps.length) (h0:0<taps.length) (hlast:bt taps (taps.length-1)=1):∀ i d,winL taps start (i+d)=winL taps start i→winL taps start d=start
  | 0,d,e=>by rw [Nat.zero_add] at e;rw [e];rfl
  | i+1,d,e=>by
    refine win_back hs hl h0 hlast i d ?_
    have h1:=win_step (taps:=taps) (start:=start) (by omega) hl (i+d)
    have h2:=win_step (taps:=taps) (start:=start) (by omega) hl i
    rw [show i+1+d=i+d+1 by omega,h1,h2] at e
    exact stepW_inj (win_ok hs _) (win_ok hs _) (by rw [win_len];exact hl) (by rw [win_len];exact hl) h0 hlast e
theorem least {p:Nat→Prop} [DecidablePred p]:∀ N,p N→∃ n,n≤N∧p n∧∀ m,m<n→¬ p m:=by
  intro N
  induction N using Nat.strongRecOn with
  | ind N ih =>
    intro h
    by_cases hx:∃ m,m<N∧p m
    · obtain ⟨m,h1,h2⟩:=hx
      obtain ⟨n,q1,q2,q3⟩:=ih m h1 h2
      exact ⟨n,by omega,q2,q3⟩
    · exact ⟨N,Nat.le_refl _,h,fun m hm hp=>hx ⟨m,hm,hp⟩⟩
theorem per_of {taps start:List Int} {N:Nat} (h0:0<N) (h:winL taps start N=start):∃ n,n≤N∧IsPer taps start n:=by
  obtain ⟨n,h1,h2,h3⟩:=least (p:=fun n=>0<n∧winL taps start n=start) N ⟨h0,h⟩
  exact ⟨n,h1,h2.1,h2.2,fun m hm hmn e=>h3 m hmn ⟨hm,e⟩⟩
/-- whether a register's period is told -/
def LastOk (taps:List Int):Prop:=taps.length=0∨bt taps (taps.length-1)=1
theorem per_ex {taps start:List Int} (hs:OkBs start) (hl:start.length=taps.length) (hlast:LastOk taps):∃ n,n≤2 ^ taps.length∧IsPer taps start n:=by
  rcases Nat.eq_zero_or_pos taps.length with g | g
  · refine per_of (Nat.two_pow_pos _) ?_
    have e1:winL taps start (2 ^ taps.length)=[]:=List.eq_nil_of_length_eq_zero (by rw [win_len];omega)
    have e2:start=[]:=List.eq_nil_of_length_eq_zero (by omega)
    rw [e1,e2]
  · have h1:=hlast.resolve_left (by omega)
    obtain ⟨i,j,hij,hj,e⟩:=php (2 ^ taps.length) (fun k=>sN (winL taps start k)) (fun k _=>by
      have:=accS_lt (win_ok (taps:=taps) hs k) (winL taps start k).length
      rw [win_len,hl] at this
      show accS _ _<_
      rw [win_len,hl]
      exact this)
    have e2:=sN_inj (win_ok hs i) (win_ok hs j) (by rw [win_len,win_len]) e
    obtain ⟨n,q1,q2⟩:=per_of (taps:=taps) (start:=start) (N:=j-i) (by omega) (win_back hs hl g h1 i (j-i) (by rw [show i+(j-i)=j by omega];exact e2.symm))
    exact ⟨n,by omega,q2⟩
/-- what Period answers -/
def perE (taps start:List Int):Int:=if chkS taps start≠0 then chkS taps start else if 12<taps.length then 6 else if 0<taps.length∧bt taps (taps.length-1)=0 then 5 else 0
theorem perE_a {taps start:List Int} (h:chkS taps start≠0):perE taps start=chkS taps start:=if_pos h
theorem perE_b {taps start:List Int} (h:chkS taps start=0) (h2:12<taps.length):perE taps start=6:=by unfold perE;rw [if_neg (by omega),if_pos h2]
theorem perE_c {taps start:List Int} (h:chkS taps start=0) (h2:¬ 12<taps.length) (h3:0<taps.length∧bt taps (taps.length-1)=0):perE taps start=5:=by unfold perE;rw [if_neg (by omega),if_neg h2,if_pos h3]
theorem perE_d {taps start:List Int} (h:chkS taps start=0) (h2:¬ 12<taps.length) (h3:¬ (0<taps.length∧bt taps (taps.length-1)=0)):perE taps start=0:=by unfold perE;rw [if_neg (by omega),if_neg h2,if_neg h3]
theorem perE_0 {taps start:List Int} (h:perE taps start=0):chkS taps start=0∧taps.length≤12∧LastOk taps:=by
  unfold perE at h
  split at h
  · omega
  · rename_i h1
    split at h
    · omega
    · split at h
      · omega
      · rename_i h2 h3
        refine ⟨by omega,by omega,?_⟩
        unfold LastOk
        have h4:=(chkB0.1 (chkS0.1 (by omega:chkS taps start=0)).1.1).2
        have:=bt_ok h4 (taps.length-1)
        omega
open Classical in
noncomputable def perN (taps start:List Int):Nat:=if perE taps start=0 then per taps start else 0
end Go.Proofs.YtncjabmlkgacdaaGreat.Wv
namespace Go.Proofs.YtncjabmlkgacdaaGreat.Wv
open Go Go.TH Go.TH.Wv
attribute [local irreducible] W WO pt
set_option maxRecDepth 10000
set_option maxHeartbeats 1000000
section
variable {P:Program} {C:Cx P} {E:Env} {H:List HP}
variable {ops:Array Oper} {K:KP} {rest:List Oper} {d:Nat} {ty:TypeId} {pos:String} {af:Array Edge} {x y:Operand} {T T':TypeId} {k:IntKind} {a b:Nat}
theorem WO.subN (hx:ev E x=some (.int k (a:Int))) (hy:ev E y=some (.int k (b:Int))) (ha:Fits k a) (hb:b≤a) (hN:Nat.blt d C.N=true) (h:WO C ops rest K ((d,.int k ((a-b:Nat):Int))::E) H):WO C ops (⟨some d,.binOp .sub T x y T',ty,pos,af,none⟩::rest) K E H :=
 WO.pure _ (by simp) (fun L c w hf _=>by
  have h1:Fits k (a-b):=Nat.lt_of_le_of_lt (Nat.sub_le a b) ha
  have h2:=wrap_nat h1
  rw [Int.ofNat_sub hb] at h2
  simp only [execOp,hf.eval hx,hf.eval hy]
  simp [binOp_sub,eqGuard_sub,Op.intArith]
  rw [h2,Int.ofNat_sub hb]) hN h
end
theorem fits32 {a n:Nat} (h:a<2 ^ n) (hn:n≤32):Fits .u32 a:=Nat.lt_of_lt_of_le h (Nat.pow_le_pow_right (by decide) hn)
theorem bit_nat {x:Int} (h:x=0∨x=1):IntKind.u32.wrap x=((x.toNat:Nat):Int):=by rcases h with rfl | rfl <;> rfl
theorem bit_shl {x:Int} (h:x=0∨x=1) {s:Nat} (hs:s<32):Fits .u32 (x.toNat<<<s):=by
 rcases h with rfl | rfl
 ·show 0<<<s<2 ^ 32;rw [Nat.zero_shiftLeft];decide
 ·show 1<<<s<2 ^ 32;rw [Nat.shiftLeft_eq,Nat.one_mul];exact Nat.pow_lt_pow_right (by decide) hs
def stateV (n:Nat):Value:=.agg #[.int .u32 (n:Int)]
def stepV (n L:Nat):Value:=.agg #[.int .u32 (n:Int),.int .i64 (L:Int)]
theorem par_le (n:Nat):par n≤1:=by rw [par_step];omega
theorem par_01 (n:Nat):par n=(par n+0)%2:=by have:=par_le n;omega
theorem xor1_le {o:Nat} (h:o≤1):o^^^1≤1:=by rcases (show o=0∨o=1 by omega) with rfl | rfl <;> decide
theorem xor1_par {o a:Nat} (h:o≤1):(a+(o^^^1))%2=((a+1)%2+o)%2:=by
 rcases (show o=0∨o=1 by omega) with rfl | rfl
 ·show (a+1)%2=_;omega
 ·show (a+0)%2=_;omega
theorem par_shl {n s:Nat} (hs:s<32):Fits .u32 (par n<<<s):=by
 rcases (show par n=0∨par n=1 by have:=par_le n;omega) with e | e <;> rw [e]
 ·show 0<<<s<2 ^ 32;rw [Nat.zero_shiftLeft];decide
 ·show 1<<<s<2 ^ 32;rw [Nat.shiftLeft_eq,Nat.one_mul];exact Nat.pow_lt_pow_right (by decide) hs
theorem c_newState (w:World) (v:Value) (l:List Int) (hR:RdF encI 1 w.heap.size w v l) (h:OkBs l) (hl:l.length≤20):Ret Tryz.prog 48 [v].toArray w (stateV (sN l)):=by
 refine Ret.of mixed tyTab Tryz.func48 rfl rfl ?_
 replace hR:RdF encI 1 (fnCx mixed tyTab Tryz.f48.ntmps w).B (fnCx mixed tyTab Tryz.f48.ntmps w).w0 v l:=hR
 refine W.sreg (WO.alloc rfl rfl rfl (fun b1 hb1=>(WO.nil (W.sreg (WO.build rfl rfl rfl rfl rfl (WO.alloc rfl rfl rfl (fun b2 hb2=>(WO.storeA rfl rfl rfl rfl Pick.head rfl rfl (WO.nil (W.seq (W.sreg (WO.p rfl rfl (WO.len rfl rfl hR.sl rfl (WO.p rfl rfl (WO.nil (W.block ?_))))))))))))))))
 refine W.loop (fun (i:Nat)=>i≤l.length)
  (fun (i:Nat)=>[(9,.int .i64 (i:Int)),(8,.int .i64 (l.length:Int)),(7,v),(3,.pointer (some ⟨b2,0,none⟩)),(2,.pointer (some ⟨b1,0,none⟩))])
  (fun (i:Nat)=>[pt b2 (.cells #[.int .u32 (accS l i:Int)] 113 (0,0)),pt b1 (.cells #[.int .u32 0] 113 (0,0))])
  (fun (i:Nat)=>l.length-i) 0
  (by omega) ⟨rfl,rfl,rfl,rfl,rfl,trivial⟩ (by repeat (first | exact Sub.nil | refine Sub.cons (by repeat exact .head) ?_)) ?_
 rintro i hi0
 refine W.sreg (WO.p rfl rfl (WO.nil (W.seq ?_)))
 refine W.cond_bl rfl (fun c1=>?_) (fun c1=>?_)
 ·refine W.skip (W.seq (W.block (W.sreg (WO.p rfl rfl (WO.indexAddr rfl rfl rfl hR.sl (by omega) rfl ?_)))))
  refine' WO.load (v:=_) rfl rfl ?hc rfl ?_
  case hc=>(first | (refine hR.cell0 (i:=i) ?_ 0 ?_ <;> first | rfl | omega))
  refine WO.p rfl rfl (WO.p rfl rfl (WO.nil ?_))
  refine W.drawD 6 [.r 0 [],.b 1 [],.r 2 [],.r 3 [],.r 4 [],.r 5 []] [] (A0:=[]) (Sub.refl _) (by kernel_rfl) ?_ ?_
  ·repeat constructor
  refine DT.r rfl rfl rfl (WO.field0 rfl rfl rfl (WO.nil ⟨rfl,rfl⟩)) (DT.b rfl rfl rfl (WO.load rfl rfl (Cell.own Pick.head rfl) rfl (WO.nil ⟨rfl,rfl⟩)) (DT.r rfl rfl rfl (WO.p rfl rfl (WO.nil ⟨rfl,rfl⟩)) (DT.r rfl rfl rfl (WO.convI (b:=(((bt l i).toNat:Nat):Int)) rfl rfl rfl (bit_nat (bt_ok h i)) rfl (WO.nil ⟨rfl,rfl⟩)) (DT.r rfl rfl rfl (WO.p rfl rfl (WO.nil ⟨rfl,rfl⟩)) (DT.r rfl rfl rfl (WO.shlN (a:=(bt l i).toNat) (s:=i) rfl rfl (show i≤32 by omega) (bit_shl (bt_ok h i) (by omega)) rfl (WO.nil ⟨rfl,rfl⟩)) (DT.nil [_,_] rfl ?_))))))
  refine WO.orN (a:=accS l i) (b:=(bt l i).toNat<<<i) rfl rfl (fits32 (accS_lt h i) (by omega)) (bit_shl (bt_ok h i) (by omega)) rfl (WO.field0 rfl rfl rfl (WO.store1 rfl rfl rfl (by rfl) Pick.head rfl (WO.nil (W.region (WO.ar rfl rfl rfl (by unfold in64;omega) rfl (WO.p rfl rfl (WO.nil ?_)))))))
  refine' ⟨i+1,?hp,?hmu,⟨rfl,rfl,rfl,rfl,rfl,trivial⟩,?hS⟩
  case hS=>repeat (first | exact Sub.nil | refine Sub.cons (by repeat exact .head) ?_)
  case hp=>omega
  case hmu=>omega
 ·refine W.exit (blk_same (W.sreg (WO.loadA rfl rfl (Cells.own Pick.head) rfl rfl (WO.storeA rfl rfl rfl rfl (Pick.tail (Pick.head)) rfl rfl (WO.nil (W.ret ?_))))))
  obtain rfl:i=l.length:=by omega
  exact fin.ret (Res.one rfl (RV.cell rfl rfl rfl (Cells.own (by repeat exact .head)))) rfl
theorem c_newStep (w:World) (v:Value) (l:List Int) (hR:RdF encI 1 w.heap.size w v l) (h:OkBs l) (hl:l.length≤20):Ret Tryz.prog 45 [v].toArray w (stepV (tN l) l.length):=by
 refine Ret.of mixed tyTab Tryz.func45 rfl rfl ?_
 replace hR:RdF encI 1 (fnCx mixed tyTab Tryz.f45.ntmps w).B (fnCx mixed tyTab Tryz.f45.ntmps w).w0 v l:=hR
 refine W.sreg (WO.alloc rfl rfl rfl (fun b1 hb1=>(WO.nil (W.sreg (WO.p rfl rfl (WO.len rfl rfl hR.sl rfl (WO.build rfl rfl rfl rfl rfl (WO.alloc rfl rfl rfl (fun b2 hb2=>(WO.storeA rfl rfl rfl rfl Pick.head rfl rfl (WO.nil (W.seq (W.sreg (WO.p rfl rfl (WO.len rfl rfl hR.sl rfl (WO.p rfl rfl (WO.nil (W.block ?_))))))))))))))))))
 refine W.loop (fun (i:Nat)=>i≤l.length)
  (fun (i:Nat)=>[(11,.int .i64 (i:Int)),(10,.int .i64 (l.length:Int)),(9,v),(0,v),(3,.pointer (some ⟨b2,0,none⟩)),(2,.pointer (some ⟨b1,0,none⟩))])
  (fun (i:Nat)=>[pt b2 (.cells #[.int .u32 (accT l i:Int),.int .i64 (l.length:Int)] 109 (0,0)),pt b1 (.cells #[.int .u32 0,.int .i64 0] 109 (0,0))])
  (fun (i:Nat)=>l.length-i) 0
  (by omega) ⟨rfl,rfl,rfl,rfl,rfl,rfl,trivial⟩ (by repeat (first | exact Sub.nil | refine Sub.cons (by repeat exact .head) ?_)) ?_
 rintro i hi0
 refine W.sreg (WO.p rfl rfl (WO.nil (W.seq ?_)))
 refine W.cond_bl rfl (fun c1=>?_) (fun c1=>?_)
 ·refine W.skip (W.seq (W.block (W.sreg (WO.p rfl rfl (WO.indexAddr rfl rfl rfl hR.sl (by omega) rfl ?_)))))
  refine' WO.load (v:=_) rfl rfl ?hc rfl ?_
  case hc=>(first | (refine hR.cell0 (i:=i) ?_ 0 ?_ <;> first | rfl | omega))
  refine WO.p rfl rfl (WO.p rfl rfl (WO.nil ?_))
  refine W.drawD 10 [.r 0 [],.b 1 [],.r 2 [],.r 3 [],.r 4 [],.r 5 [],.r 6 [],.r 7 [],.r 8 [],.r 9 []] [] (A0:=[]) (Sub.refl _) (by kernel_rfl) ?_ ?_
  ·repeat constructor
  refine DT.r rfl rfl rfl (WO.field0 rfl rfl rfl (WO.nil ⟨rfl,rfl⟩)) (DT.b rfl rfl rfl (WO.load rfl rfl (Cell.own Pick.head rfl) rfl (WO.nil ⟨rfl,rfl⟩)) (DT.r rfl rfl rfl (WO.p rfl rfl (WO.nil ⟨rfl,rfl⟩)) (DT.r rfl rfl rfl (WO.convI (b:=(((bt l i).toNat:Nat):Int)) rfl rfl rfl (bit_nat (bt_ok h i)) rfl (WO.nil ⟨rfl,rfl⟩)) (DT.r rfl rfl rfl (WO.p rfl rfl (WO.nil ⟨rfl,rfl⟩)) (DT.r rfl rfl rfl (WO.len rfl rfl hR.sl rfl (WO.nil ⟨rfl,rfl⟩)) (DT.r rfl rfl rfl (WO.ar rfl rfl rfl (by unfold in64;omega) rfl (WO.nil ⟨rfl,rfl⟩)) (DT.r rfl rfl rfl (WO.p rfl rfl (WO.nil ⟨rfl,rfl⟩)) (DT.r rfl rfl rfl (WO.ar rfl rfl rfl (by unfold in64;omega) rfl (WO.nil ⟨rfl,rfl⟩)) ?_))))))))
  refine DT.r rfl rfl rfl (WO.shlN (a:=(bt l i).toNat) (s:=l.length-1-i) rfl (by rw [show ((l.length-1-i:Nat):Int)=(l.length:Int)-1-(i:Int) by omega];rfl) (show l.length-1-i≤32 by omega) (bit_shl (bt_ok h i) (by omega)) rfl (WO.nil ⟨rfl,rfl⟩)) (DT.nil [_,_] rfl (WO.orN (a:=accT l i) (b:=(bt l i).toNat<<<(l.length-1-i)) rfl rfl (fits32 (accT_lt h (by omega)) (by omega)) (bit_shl (bt_ok h i) (by omega)) rfl (WO.field0 rfl rfl rfl (WO.store1 rfl rfl rfl (by rfl) Pick.head rfl (WO.nil (W.region (WO.ar rfl rfl rfl (by unfold in64;omega) rfl (WO.p rfl rfl (WO.nil ?_)))))))))
  refine' ⟨i+1,?hp,?hmu,⟨rfl,rfl,rfl,rfl,rfl,rfl,trivial⟩,?hS⟩
  case hS=>repeat (first | exact Sub.nil | refine Sub.cons (by repeat exact .head) ?_)
  case hp=>omega
  case hmu=>omega
 ·refine W.exit (blk_same (W.sreg (WO.loadA rfl rfl (Cells.own Pick.head) rfl rfl (WO.storeA rfl rfl rfl rfl (Pick.tail (Pick.head)) rfl rfl (WO.nil (W.ret ?_))))))
  obtain rfl:i=l.length:=by omega
  exact fin.ret (Res.one rfl (RV.cell rfl rfl rfl (Cells.own (by repeat exact .head)))) rfl
theorem c_on (w:World) (taps l:List Int) (ht:OkBs taps) (h:OkBs l) (hl:l.length=taps.length) (h20:taps.length≤20):Ret Tryz.prog 46 [stepV (tN taps) taps.length,stateV (sN l)].toArray w (stateV (if taps.length=0 then sN l else sN (stepW taps l))):=by
 refine Ret.of mixed tyTab Tryz.func46 rfl rfl ?_
 have f1:Fits .u32 (sN l):=fits32 (accS_lt h _) (by omega)
 have f2:Fits .u32 (tN taps):=fits32 (accT_lt ht (Nat.le_refl _)) (by omega)
 refine W.sreg (WO.boxA rfl rfl (fun b1 hb1=>(WO.boxA rfl rfl (fun b2 hb2=>(WO.alloc rfl rfl rfl (fun b3 hb3=>(WO.nil (W.sreg (WO.field0 rfl rfl rfl (WO.load rfl rfl (Cell.own (Pick.tail (Pick.head)) rfl) rfl (WO.field0 rfl rfl rfl (WO.load rfl rfl (Cell.own (Pick.tail (Pick.tail (Pick.head))) rfl) rfl (WO.andN (a:=sN l) (b:=tN taps) rfl rfl f1 f2 rfl (WO.p rfl rfl (WO.nil (W.sreg (WO.p rfl rfl (WO.nil (W.seq (W.block ?_))))))))))))))))))))
 refine W.loop2 (fun (n:Nat) (o:Nat)=>Fits .u32 n∧o≤1∧par (sN l&&&tN taps)=(par n+o)%2)
  (fun (n:Nat) (o:Nat)=>[(6,.int .u32 (o:Int)),(5,.int .u32 (n:Int)),(4,.pointer (some ⟨b3,0,none⟩)),(3,.pointer (some ⟨b2,0,none⟩)),(2,.pointer (some ⟨b1,0,none⟩))])
  (fun (n:Nat) (o:Nat)=>[pt b3 (.cells #[.int .u32 0] 113 (0,0)),pt b2 (.cells #[.int .u32 (sN l:Int)] 113 (0,0)),pt b1 (.cells #[.int .u32 (tN taps:Int),.int .i64 (taps.length:Int)] 109 (0,0))])
  (fun (n:Nat) (o:Nat)=>n) _ 0
  (by exact ⟨f1.and,by omega,par_01 _⟩) ⟨rfl,rfl,rfl,rfl,rfl,trivial⟩ (by repeat (first | exact Sub.nil | refine Sub.cons (by repeat exact .head) ?_)) ?_
 rintro n o ⟨hfn,ho,hn0⟩
 refine W.seq (W.sreg (WO.p rfl rfl (WO.p rfl rfl (WO.nil ?_))))
 refine W.cond_bl rfl (fun c1=>?_) (fun c1=>?_)
 ·refine W.skip (W.seq (W.block (W.region (WO.p rfl rfl (WO.xorN (a:=o) (b:=1) rfl rfl (fits01 (by omega)) (fits01 (Nat.le_refl 1)) rfl (WO.p rfl rfl (WO.nil (W.region (WO.p rfl rfl (WO.p rfl rfl (WO.subN (a:=n) (b:=1) rfl rfl hfn (by omega) rfl (WO.andN (a:=n) (b:=n-1) rfl rfl hfn (Nat.lt_of_le_of_lt (Nat.sub_le n 1) hfn) rfl (WO.p rfl rfl (WO.nil ?_))))))))))))))
  refine' ⟨_,_,?hp,?hmu,⟨rfl,rfl,rfl,rfl,rfl,trivial⟩,?hS⟩
  case hS=>repeat (first | exact Sub.nil | refine Sub.cons (by repeat exact .head) ?_)
  case hp=>exact ⟨hfn.and,xor1_le ho,by rw [hn0,par_pred n (by omega)];exact (xor1_par ho).symm⟩
  case hmu=>exact and_pred_lt (by omega)
 ·refine W.exit (blk_same (W.seq ?_))
  obtain rfl:n=0:=by omega
  obtain rfl:o=par (sN l&&&tN taps):=by have:=par_le (sN l&&&tN taps);rw [par_0] at hn0;omega
  refine W.sreg (WO.fieldL rfl rfl rfl (WO.load rfl rfl (Cell.own (Pick.tail (Pick.tail (Pick.head))) rfl) rfl (WO.p rfl rfl (WO.nil ?_))))
  refine W.cond_bl rfl (fun c2=>?_) (fun c2=>?_)
  ·refine W.sreg (WO.loadA rfl rfl (Cells.own (Pick.tail (Pick.head))) rfl rfl (WO.storeA rfl rfl rfl rfl Pick.head rfl rfl (WO.nil (W.ret ?_))))
   first | exact fin.ret (Res.one rfl (RV.cell rfl rfl rfl (Cells.own (by repeat exact .head)))) (by rw [if_pos (show taps.length=0 by omega)];rfl) | exact fin.ret (Res.one rfl (RV.cell rfl rfl rfl (Cells.own (by repeat first | exact .head | apply Pick.tail)))) (by rw [if_neg (show ¬ taps.length=0 by omega),← sN_step ht h hl (by omega)];rfl)
  ·refine W.skip (W.seq ?_)
   refine W.drawD 8 [.r 0 [],.b 1 [],.r 2 [],.r 3 [],.r 4 [],.b 5 [],.r 6 [],.r 7 []] [] (A0:=[]) (Sub.refl _) (by kernel_rfl) ?_ ?_
   ·repeat constructor
   refine DT.r rfl rfl rfl (WO.field0 rfl rfl rfl (WO.nil ⟨rfl,rfl⟩)) (DT.b rfl rfl rfl (WO.load rfl rfl (Cell.own (Pick.tail (Pick.head)) rfl) rfl (WO.nil ⟨rfl,rfl⟩)) (DT.r rfl rfl rfl (WO.shrN (a:=sN l) (s:=1) rfl rfl (by decide) rfl (WO.nil ⟨rfl,rfl⟩)) (DT.r rfl rfl rfl (WO.p rfl rfl (WO.nil ⟨rfl,rfl⟩)) (DT.r rfl rfl rfl (WO.fieldL rfl rfl rfl (WO.nil ⟨rfl,rfl⟩)) (DT.b rfl rfl rfl (WO.load rfl rfl (Cell.own (Pick.tail (Pick.tail (Pick.head))) rfl) rfl (WO.nil ⟨rfl,rfl⟩)) (DT.r rfl rfl rfl (WO.ar rfl rfl rfl (by unfold in64;omega) rfl (WO.nil ⟨rfl,rfl⟩)) ?_))))))
   refine DT.r rfl rfl rfl (WO.shlN (a:=par (sN l&&&tN taps)) (s:=taps.length-1) rfl (by rw [show ((taps.length-1:Nat):Int)=(taps.length:Int)-1 by omega];rfl) (show taps.length-1≤32 by omega) (par_shl (by omega)) rfl (WO.nil ⟨rfl,rfl⟩)) (DT.nil [_,_,_] rfl (WO.orN (a:=sN l>>>1) (b:=par (sN l&&&tN taps)<<<(taps.length-1)) rfl rfl f1.shr (par_shl (by omega)) rfl (WO.build rfl rfl rfl rfl rfl (WO.storeA rfl rfl rfl rfl Pick.head rfl rfl (WO.nil (W.ret ?_))))))
   exact fin.ret (Res.one rfl (RV.cell rfl rfl rfl (Cells.own (by repeat exact .head)))) (by rw [if_neg (show ¬ taps.length=0 by omega),← sN_step ht h hl (by omega)];rfl)
end Go.Proofs.YtncjabmlkgacdaaGreat.Wv
