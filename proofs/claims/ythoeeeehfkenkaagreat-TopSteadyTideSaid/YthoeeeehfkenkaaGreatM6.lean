/-
  What is proved here: the corners, and the function that yields them. Conditions: none; each contract states its own.
-/
import Derived.Test.YthoeeeehfkenkaaGreatM5
import Derived.Test.YthoeeeehfkenkaaGreatM4
import Derived.Maps.RangeRun
set_option linter.unusedVariables false
set_option linter.unusedSimpArgs false
namespace Go.Proofs.YthoeeeehfkenkaaGreat.Sp
open Go Go.TH
attribute [local irreducible] W WO pt
set_option maxRecDepth 10000
set_option maxHeartbeats 2000000
abbrev sAt (S:List Sd) (i:Nat):Sd:=S.getD i sd0
def cJ (S:List Sd) (i j:Nat):List Tru:=if crs (sAt S i) (sAt S j)=0 then [] else [if crs (sAt S i) (sAt S j)<0 then cnr (sAt S j) (sAt S i) else cnr (sAt S i) (sAt S j)]
def cI (S:List Sd) (i:Nat):List Tru:=foot (sAt S i)::seg 0 i (cJ S i)
def crnS (S:List Sd):List Tru:=seg 0 S.length (cI S)
def pI (S:List Sd) (i:Nat):Nat:=(seg 0 i (cI S)).length
def pJ (S:List Sd) (i j:Nat):Nat:=pI S i+((seg 0 j (cJ S i)).length+1)
section
variable {S:List Sd} {i j:Nat}
theorem crn_foot (h:i<S.length):(crnS S)[pI S i]?=some (foot (sAt S i)):=seg_get (lo:=0) (i:=i) (t:=0) (g:=cI S) (by omega) rfl h
theorem crn_at (h:i<S.length) (hj:j<i) {t:Tru} (hc:cJ S i j=[t]):(crnS S)[pJ S i j]?=some t:=by
 refine seg_get (lo:=0) (i:=i) (g:=cI S) (by omega) ?_ h
 unfold cI
 rw [List.getElem?_cons_succ]
 have:=seg_get (lo:=0) (i:=j) (t:=0) (g:=cJ S i) (x:=t) (by omega) (by rw [hc];rfl) (hi:=i) hj
 exact this
theorem pJ_0:pJ S i 0=pI S i+1:=by unfold pJ;rw [seg_none];rfl
theorem pJ_succ:pJ S i (j+1)=pJ S i j+(cJ S i j).length:=by unfold pJ;rw [seg_succ (by omega),List.length_append];omega
theorem pI_succ:pI S (i+1)=pJ S i i:=by unfold pJ pI;rw [seg_succ (by omega),List.length_append];rfl
theorem crnS_len:(crnS S).length=pI S S.length:=rfl
theorem pI_0:pI S 0=0:=by unfold pI;rw [seg_none];rfl
theorem cJ_z (h:crs (sAt S i) (sAt S j)=0):cJ S i j=[]:=if_pos h
theorem cJ_n (h:crs (sAt S i) (sAt S j)<0):cJ S i j=[cnr (sAt S j) (sAt S i)]:=by unfold cJ;rw [if_neg (by omega),if_pos h]
theorem cJ_p (h:0<crs (sAt S i) (sAt S j)):cJ S i j=[cnr (sAt S i) (sAt S j)]:=by unfold cJ;rw [if_neg (by omega),if_neg (by omega)]
theorem crn_mem {a b:Sd} (ha:a∈S) (hb:b∈S) (hd:0<crs a b):cnr a b∈crnS S:=by
 obtain ⟨i,hi,rfl⟩:=ex_at ha
 obtain ⟨j,hj,rfl⟩:=ex_at hb
 have hij:i≠j:=fun e=>by subst e;unfold crs at hd;have:=Int.mul_comm (S.getD i sd0).a (S.getD i sd0).b;omega
 rcases Nat.lt_or_gt_of_ne hij with h | h
 ·exact mem_seg.2 ⟨j,by omega,hj,by
   unfold cI
   refine List.mem_cons_of_mem _ (mem_seg.2 ⟨i,by omega,h,?_⟩)
   rw [cJ_n (by rw [crs_anti];have h0:0<crs (sAt S i) (sAt S j):=hd;omega)];exact List.mem_singleton.2 rfl⟩
 ·exact mem_seg.2 ⟨i,by omega,hi,by
   unfold cI
   refine List.mem_cons_of_mem _ (mem_seg.2 ⟨j,by omega,h,?_⟩)
   rw [cJ_p hd];exact List.mem_singleton.2 rfl⟩
theorem foot_mem {b:Sd} (hb:b∈S):foot b∈crnS S:=by
 obtain ⟨i,hi,rfl⟩:=ex_at hb
 exact mem_seg.2 ⟨i,by omega,hi,by unfold cI;exact List.mem_cons_self⟩
end
theorem sds_get {l:List Rn}:∀ {i:Nat},i<2*l.length→sAt (sds l) i=if i%2=0 then loS (l.getD (i/2) rn0) else hiS (l.getD (i/2) rn0):=by
 induction l with
 | nil=>intro i h;simp at h
 | cons r l ih =>
  intro i h
  match i with
  | 0=>rfl
  | 1=>rfl
  | i+2 =>
   have:=ih (i:=i) (by simp at h;omega)
   show sAt (sds l) i=_
   rw [this,show (i+2)%2=i%2 by omega,show (i+2)/2=i/2+1 by omega]
   rfl
theorem sds_sq {l:List Rn} {i:Nat} (h:i<2*l.length):(l.getD (i/2) rn0).p*(l.getD (i/2) rn0).p+(l.getD (i/2) rn0).q*(l.getD (i/2) rn0).q=sq (sAt (sds l) i):=by
 rw [sds_get h]
 split
 ·rfl
 ·show _ = -(l.getD (i/2) rn0).p * -(l.getD (i/2) rn0).p + -(l.getD (i/2) rn0).q * -(l.getD (i/2) rn0).q
  rw [Int.neg_mul_neg,Int.neg_mul_neg]
def gT (x:Tru) (v:Value):HP:=fun _=>v=truV x
theorem gT_in {x:Tru} {a b d:Int} (ha:a=x.a) (hb:b=x.b) (hd:d=x.d) {H:List HP}:∀ h,sat H h→sat (gT x (.agg #[.int .i64 a,.int .i64 b,.int .i64 d])::H) h:=fun h' hs=>⟨fun _=>none,h',split_none h',by subst ha hb hd;rfl,hs⟩
theorem gT_val {C:Cx Tryz.prog} {H:List HP} {x:Tru} {v:Value} (s:Sub H [gT x v]):∀ (L:List HP) w,TH.Inv C.w0 C.M (L++H) w→v=truV x:=fun L w hi=>by
 cases s with
 | cons p _ =>
  obtain ⟨_,h⟩:=(hi.pickL p).piece
  exact h
theorem c_corners (w:World) (p:Addr):Ct Tryz.prog 69 [.pointer (some p)].toArray w fun v w'=>∃ Hq,(∃ b1,v=.func (.func 128) #[] #[.pointer (some ⟨b1,0,none⟩)] ∧
 Hq=[pt b1 (.cells #[.pointer (some p)] 79 (0,0))])∧Inv w [] Hq w':=by
 refine Ct.of mixed tyTab Tryz.func69 rfl rfl (W.sreg (WO.box1 rfl (by rfl) rfl (fun b1 hb1=>(WO.p rfl rfl (WO.nil (W.sreg (WO.p rfl rfl (WO.p rfl rfl (WO.nil (W.ret ?_))))))))))
 exact fin.ret (Res.one rfl (RV.tmp rfl)) ⟨b1,rfl,rfl⟩
theorem sub0v (lb n i:Nat):Value.slice (if n=0 then some ⟨lb,0,none⟩ else ofs (some ⟨lb,0,none⟩) (0*3)) (i-0) (n-0)=.slice (some ⟨lb,0,none⟩) i n:=by
 split <;> simp [ofs,Addr.add]
theorem OwE.cellsSub {C:Cx Tryz.prog} {H:List HP} {e lb n i j:Nat} {S:List Sd} (s:Sub H [OwE encSd e 3 (.slice (some ⟨lb,0,none⟩) n n) S]) (hj:j<S.length):Cells C H (elt (.slice (some ⟨lb,0,none⟩) i n) j 3) [.int .i64 (sAt S j).a,.int .i64 (sAt S j).b,.int .i64 (sAt S j).c]:=by
 cases s with
 | cons p _ =>
  have:=OwE.cells (C:=C) encSd_ok p hj sd0
  rw [elt_eq] at this ⊢
  exact this
theorem RdF.cellsPr {C:Cx Tryz.prog} {H:List HP} {o:Value} {l:List Rn} (h:RdF encPr 10 C.B C.w0 o l) {z:Int} {i:Nat} (hz:z=((i/2:Nat):Int)) (h1:i<2*l.length):Cells C H (elt o z.toNat 10) (encPr (l.getD (i/2) rn0)):=by
 subst hz
 exact RdF.cells h (by omega) rn0
end Go.Proofs.YthoeeeehfkenkaaGreat.Sp
namespace Go.Proofs.YthoeeeehfkenkaaGreat.Sp
open Go Go.TH
attribute [local irreducible] W WO pt
set_option maxRecDepth 10000
set_option maxHeartbeats 20000000
theorem mstL_1 {S:List Sd} {p q:Int} {g:List Int} (h:g.length=1) (h2:fit2 (atS S g 0) ⟨p,q,0⟩ (siz ⟨p,q,0⟩) (-(siz (atS S g 0)))):mstL S p q g=[(tkS S g [siz ⟨p,q,0⟩] g.length,siz (atS S g 0))]:=by
 have e:mstG S p q g=some ([siz ⟨p,q,0⟩],siz (atS S g 0)):=by unfold mstG;rw [if_pos h];unfold mst1;rw [if_pos h2]
 unfold mstL;rw [e]
theorem mstL_1n {S:List Sd} {p q:Int} {g:List Int} (h:g.length=1) (h2:¬ fit2 (atS S g 0) ⟨p,q,0⟩ (siz ⟨p,q,0⟩) (-(siz (atS S g 0)))):mstL S p q g=[]:=by
 have e:mstG S p q g=none:=by unfold mstG;rw [if_pos h];unfold mst1;rw [if_neg h2]
 unfold mstL;rw [e]
theorem mstL_2 {S:List Sd} {p q:Int} {g:List Int} {x y d:Int} (h:¬ g.length=1) (hc:(crs (atS S g 0) (atS S g 1)<0∧d = -(crs (atS S g 0) (atS S g 1))∧x = -(crs ⟨p,q,0⟩ (atS S g 1))∧y = -(crs (atS S g 0) ⟨p,q,0⟩))∨(¬ crs (atS S g 0) (atS S g 1)<0∧d=crs (atS S g 0) (atS S g 1)∧x=crs ⟨p,q,0⟩ (atS S g 1)∧y=crs (atS S g 0) ⟨p,q,0⟩)):mstL S p q g=if 0<d∧0≤x∧0≤y then [(tkS S g [x,y] g.length,d)] else []:=by
 have e:mstG S p q g=if 0<d∧0≤x∧0≤y then some ([x,y],d) else none:=by
  unfold mstG;rw [if_neg h];unfold mst2
  rcases hc with ⟨h1,rfl,rfl,rfl⟩ | ⟨h1,rfl,rfl,rfl⟩
  ·rw [if_pos h1]
  ·rw [if_neg h1]
 unfold mstL;rw [e]
 split
 ·rename_i c
  split at c
  ·rename_i c2;cases c;rw [if_pos c2]
  ·cases c
 ·rename_i c
  split at c
  ·cases c
  ·rename_i c2;rw [if_neg c2]
theorem c_most (w:World) (p:Addr) (rv sv:Value) (rl:List Rn) (hT:Tbl w.heap.size w p rv sv rl) (hok:OkRs rl) (hl:rl.length≤12) (u v:Int) (hu:OkN u) (hv:OkN v) :
 RetE Tryz.prog 73 [.pointer (some p),.int .i64 u,.int .i64 v].toArray w (fun r=>∃ (q:Option Nat) (s:Sd) (t:Int),r=.tuple #[mdV (.map q) s t,.bool (bl (Bnd (sds rl) u v))]∧(Bnd (sds rl) u v→MostI (sds rl) u v (s,t))):=by
 refine RetE.of mixed tyTab Tryz.func73 rfl rfl ?_
 replace hT:Tbl (fnCx mixed tyTab Tryz.f73.ntmps w).B (fnCx mixed tyTab Tryz.f73.ntmps w).w0 p rv sv rl:=hT
 have hsl:=sds_len rl
 have hS:=sds_ok hok
 have hw:=want_ok hu hv
 have zw:=siz_bd hw
 have hg2:=g2_len (S:=sds rl) (by omega)
 refine W.sreg (WO.box1 rfl (by rfl) rfl (fun b1 hb1=>(WO.alloc rfl rfl rfl (fun b2 hb2=>(WO.p rfl rfl (WO.nil (W.sreg (WO.p rfl rfl (WO.p rfl rfl (WO.build rfl rfl rfl rfl rfl (WO.alloc rfl rfl rfl (fun b3 hb3=>(WO.storeA rfl rfl rfl rfl Pick.head rfl rfl (WO.nil (W.seq (W.sreg (WO.loadA rfl rfl (Cells.own Pick.head) rfl rfl (WO.build rfl rfl rfl rfl rfl (WO.eqT rfl rfl (eq124z u v) rfl (WO.nil ?_))))))))))))))))))))
 refine W.cond_bl rfl (fun c1=>?_) (fun c1=>?_)
 ·refine W.sreg (WO.makeMap rfl (fun mb=>(WO.build rfl rfl rfl rfl rfl (WO.build rfl rfl rfl rfl rfl (WO.storeA rfl rfl rfl rfl (Pick.tail (Pick.tail (Pick.head))) rfl rfl (WO.p rfl rfl (WO.nil (W.ret ?_))))))))
  (have q:=mb;exact fin.ret (Res.two rfl (RV.cell rfl rfl rfl (Cells.own (by repeat exact .head))) (RV.tmp rfl)) ⟨some mb,sd0,1,by rw [bl_t.2 (show Bnd (sds rl) u v from .inl ⟨by omega,by omega⟩)] <;> rfl,fun _=>⟨.inl ⟨by omega,by omega,rfl⟩,fun y _ h0=>absurd ⟨by omega,by omega⟩ h0⟩⟩)
 ·refine W.skip (W.sreg (WO.alloc rfl rfl rfl (fun b4 hb4=>(WO.nil (W.seq (W.sreg (WO.load rfl rfl (Cell.own (Pick.tail (Pick.tail (Pick.tail (Pick.head)))) rfl) rfl (WO.call (Post:=fun v Hq=>∃ b1 b2,v=.func (.func 141) #[] #[.pointer (some ⟨b1,0,none⟩),.pointer (some ⟨b2,0,none⟩)]∧Hq=[pt b2 (.cells #[.int .i64 2] 3 (0,0)),pt b1 (.cells #[.pointer (some p)] 79 (0,0))]) rfl Tryz.call78 (fun L w hi=>c_groups w p 2) rfl ?_))))))))
  rintro _ _ ⟨b5,b6,rfl,rfl⟩
  refine WO.nil (W.block (W.chg (all_nil (b:=b4) (by repeat constructor)) ?_))
  refine W.rangeFuncB (Jmp.ret) [pt b6 (.cells #[.int .i64 ((2:Nat):Int)] 3 (0,0)),pt b5 (.cells #[.pointer (some p)] 79 (0,0))] (fun t=>[AllP b4 (msts (sds rl) u v t),pt b3 (.cells #[.int .i64 u,.int .i64 v,.int .i64 0] 72 (0,0)),pt b2 (.cells #[.map none,.int .i64 0,.int .i64 0,.int .i64 0,.int .i64 0] 74 (0,0)),pt b1 (.cells #[.pointer (some p)] 79 (0,0))]) (g2S (sds rl)) (fun g1 v1_=>OwE encI 3 1 v1_ g1) ((g2S (sds rl)).length) rfl rfl rfl Tryz.call141 (by repeat (first | exact Sub.nil | refine Sub.cons (by repeat constructor) ?_)) ?_ ?_ ?_ ?_
  ·intro ll Hc hy w1 M1 hB1 hk1 hM1 hi1
   exact c_groups1 _ _ p rv sv rl hT (sds rl).length rfl 2 (by omega) (by omega) _ ll Hc hy b5 b6 w1 M1 hB1 hk1 hM1 hi1
  ·intro ll w1 M1 hB1 hM1 hk1 t g1 v1_ hx hle1
   have hlt:=(List.getElem?_eq_some_iff.1 hx).1
   have hg12:=grp_ok (m:=2) (by omega) (List.mem_of_getElem? hx)
   obtain ⟨hgr,hg2⟩:=hg12
   have hgn:=hgr.len
   replace hT:=hT.agree hk1
   refine W.fact (OwE.sl (enc:=encI) (e:=3) (sz:=1) (v:=v1_) (xs:=g1) (by repeat exact .head)) (fun hgsl=>(W.region (WO.p rfl rfl (WO.nil (W.block (W.seq ?_))))))
   have h0:=hgr.rng _ (getD_mem (show 0<g1.length by omega) 0)
   have s0:OkS 20 100000 (atS (sds rl) g1 0):=hS _ (getD_mem (show (g1.getD 0 0).toNat<(sds rl).length by omega) sd0)
   have z0:=siz_bd s0
   have u0:=s0.up (A':=20) (B':=1000000) (by omega) (by omega)
   have v0:=(OkS.by_ s0 (n:=siz ⟨u,v,0⟩) (N:=40) (by omega)).up (A':=1000000000000000) (B':=1000000000000000) (by omega) (by omega)
   have v1:=(OkS.by_ hw (n := -(siz (atS (sds rl) g1 0))) (N:=40) (by omega)).up (A':=1000000000000000) (B':=1000000000000000) (by omega) (by omega)
   refine W.drawD 10 [.b 0 [],.r 1 [],.r 2 [],.b 3 [],.r 4 [],.r 5 [],.b 6 [],.r 7 [],.b 8 [],.a 9 11 (.cells #[.int .i64 0,.int .i64 0,.int .i64 0] 72 (0,0))] [] (A0:=[]) (Sub.refl _) (by kernel_rfl) ?_ ?_
   ·exact (ALok.b (ALok.r (ALok.r (ALok.b (ALok.r (ALok.r (ALok.b (ALok.r (ALok.b (ALok.cons rfl rfl rfl rfl rfl ALok.nil))))))))))
   refine DT.b rfl rfl rfl (WO.load rfl rfl (Cell.own (Pick.tail (Pick.tail (Pick.tail (Pick.tail (Pick.head))))) rfl) rfl (WO.nil ⟨rfl,rfl⟩)) (DT.r rfl rfl rfl (WO.p rfl rfl (WO.nil ⟨rfl,rfl⟩)) (DT.r rfl rfl rfl (WO.field rfl rfl rfl (WO.nil ⟨rfl,rfl⟩)) ?_))
   refine' DT.b rfl rfl rfl ?hq ?_
   case hq =>
    refine' WO.load (v:=_) rfl rfl ?hc rfl ?_
    case hc=>((refine RdC.cellAt hT.c (j:=1) ?_;rfl))
    exact WO.nil ⟨rfl,rfl⟩
   refine DT.r rfl rfl rfl (WO.p rfl rfl (WO.nil ⟨rfl,rfl⟩)) (DT.r rfl rfl rfl (WO.indexAddr (i:=0) rfl rfl rfl hgsl (by omega) rfl (WO.nil ⟨rfl,rfl⟩)) ?_)
   refine' DT.b rfl rfl rfl ?hq ?_
   case hq =>
    refine' WO.load (v:=_) rfl rfl ?hc rfl ?_
    case hc=>(first | (refine OwE.cell0 (enc:=encI) (e:=3) (sz:=1) (xs:=g1) (i:=0) encI_ok (by repeat exact .head) (by omega) 0 ?_;rfl))
    exact WO.nil ⟨rfl,rfl⟩
   refine' DT.r rfl rfl rfl ?hq ?_
   case hq =>
    refine' WO.indexAddrZ (n:=_) rfl rfl rfl ?hs ?h00 ?h1 rfl ?_
    case hs=>exact hT.s.sl
    case h00=>omega
    case h1=>(omega)
    exact WO.nil ⟨rfl,rfl⟩
   refine' DT.b rfl rfl rfl ?hq ?_
   case hq =>
    refine' WO.loadA (vs:=_) rfl rfl ?hc ?hl rfl ?_
    case hc=>((refine RdF.cellsT ?_ h0.1 h0.2 rfl;exact hT.s))
    case hl=>rfl
    exact WO.nil ⟨rfl,rfl⟩
   refine DT.a (fun b5=>(DT.nil [_,_,_,_,_,_] rfl (WO.storeA rfl rfl rfl rfl Pick.head rfl rfl (WO.nil (W.seq (W.sreg (WO.p rfl rfl (WO.len rfl rfl hgsl rfl (WO.p rfl rfl (WO.nil ?_))))))))))
   refine W.cond_bl rfl (fun c2=>?_) (fun c2=>?_)
   ·refine W.seq ?_
    refine W.drawD 3 [.b 0 [],.b 1 [],.b 2 []] [] (A0:=[]) (Sub.refl _) (by kernel_rfl) ?_ ?_
    ·repeat constructor
    refine DT.b rfl rfl rfl (WO.loadA rfl rfl (Cells.own (Pick.tail (Pick.tail (Pick.tail (Pick.head))))) rfl rfl (WO.nil ⟨rfl,rfl⟩)) (DT.b rfl rfl rfl (WO.callR rfl Tryz.call133 (fun L w hi=>c_size w ⟨u,v,0⟩ hw) rfl (WO.nil ⟨rfl,rfl⟩)) (DT.b rfl rfl rfl (WO.loadA rfl rfl (Cells.own Pick.head) rfl rfl (WO.nil ⟨rfl,rfl⟩)) (DT.nil [_,_,_,_,_,_] rfl (WO.callR rfl Tryz.call133 (fun L w hi=>c_size w (atS (sds rl) g1 0) u0) rfl (WO.p rfl rfl (WO.p rfl rfl (WO.nil (W.seq (W.seq ?_)))))))))
    refine W.drawD 16 [.b 0 [],.b 1 [],.b 2 [],.r 3 [],.r 4 [],.b 5 [],.r 6 [],.b 7 [],.b 8 [],.r 9 [],.r 10 [],.b 11 [],.r 15 [],.c 12 [],.f 13 [],.b 14 []] [] (A0:=[]) (Sub.refl _) (by kernel_rfl) ?_ ?_
    ·repeat constructor
    refine DT.b rfl rfl rfl (WO.loadA rfl rfl (Cells.own Pick.head) rfl rfl (WO.nil ⟨rfl,rfl⟩)) (DT.b rfl rfl rfl (WO.loadA rfl rfl (Cells.own (Pick.tail (Pick.tail (Pick.tail (Pick.head))))) rfl rfl (WO.nil ⟨rfl,rfl⟩)) (DT.b rfl rfl rfl (WO.callR rfl Tryz.call129 (fun L w hi=>c_cross w (atS (sds rl) g1 0) ⟨u,v,0⟩ u0 hw) rfl (WO.nil ⟨rfl,rfl⟩)) (DT.r rfl rfl rfl (WO.p rfl rfl (WO.nil ⟨rfl,rfl⟩)) ?_)))
    refine DT.rB rfl rfl rfl (WO.p rfl rfl (WO.nil ⟨rfl,rfl⟩)) (fun c3=>?_) (fun c3=>?_)
    ·refine DT.b rfl rfl rfl (WO.go' rfl (WO.loadA rfl rfl (Cells.own Pick.head) rfl rfl (WO.nil ⟨rfl,rfl⟩))) (DT.r rfl rfl rfl (WO.pg rfl rfl rfl (WO.nil ⟨rfl,rfl⟩)) (DT.b rfl rfl rfl (WO.go' rfl (WO.callR rfl Tryz.call135 (fun L w hi=>c_by w (atS (sds rl) g1 0) (siz ⟨u,v,0⟩) (s0.up (by omega) (by omega)) (by omega)) rfl (WO.nil ⟨rfl,rfl⟩))) (DT.b rfl rfl rfl (WO.go' rfl (WO.loadA rfl rfl (Cells.own (Pick.tail (Pick.tail (Pick.tail (Pick.head))))) rfl rfl (WO.nil ⟨rfl,rfl⟩))) (DT.r rfl rfl rfl (WO.pg rfl rfl rfl (WO.nil ⟨rfl,rfl⟩)) (DT.r rfl rfl rfl (WO.go' rfl (WO.neg rfl (by unfold in64;omega) rfl (WO.nil ⟨rfl,rfl⟩))) ?_)))))
     refine DT.b rfl rfl rfl (WO.go' rfl (WO.callR rfl Tryz.call135 (fun L w hi=>c_by w ⟨u,v,0⟩ (-(siz (atS (sds rl) g1 0))) (hw.up (by omega) (by omega)) (by omega)) rfl (WO.nil ⟨rfl,rfl⟩))) (DT.r rfl rfl rfl (WO.go' rfl (WO.build rfl rfl rfl rfl rfl (WO.nil ⟨rfl,rfl⟩))) (DT.c [_,_,_,_,_,_] rfl rfl rfl rfl (WO.go' rfl (WO.buildSl rfl rfl rfl rfl rfl rfl rfl rfl rfl (fun v6=>?_)))))
     refine WO.nil ⟨_,[_],rfl,rfl,(Keep.r (Keep.b (Keep.r (Keep.r (Keep.b (Keep.b (Keep.r (Keep.b (Keep.r (Keep.r (Keep.b (Keep.b (Keep.b Keep.nil))))))))))))),?_⟩
     refine DT.f [_,_,_,_,_,_,_] rfl rfl rfl rfl (WO.go' rfl (WO.callR (r:=sdV (addS (byS (atS (sds rl) g1 0) (siz ⟨u,v,0⟩)) (byS ⟨u,v,0⟩ (-(siz (atS (sds rl) g1 0)))))) rfl Tryz.call134 (fun L w hi=>by have h:=c_sum w _ [byS (atS (sds rl) g1 0) (siz ⟨u,v,0⟩),byS ⟨u,v,0⟩ (-(siz (atS (sds rl) g1 0)))] (RdF.of_ow (e:=72) encSd_ok (by repeat exact .head) hi) (by simp) (all_twoS v0 v1);rw [addS_two] at h;exact h) rfl (WO.nil ⟨rfl,rfl⟩))) (DT.b rfl rfl rfl (WO.go' rfl (WO.callR rfl Tryz.call80 (fun L w hi=>c_flat w _) rfl (WO.nil ⟨rfl,rfl⟩))) (DT.nil [_,_,_,_,_,_,_] rfl (WO.go' rfl ?_)))
     refine WO.eqT rfl rfl (eq124z (addS (byS (atS (sds rl) g1 0) (siz ⟨u,v,0⟩)) (byS ⟨u,v,0⟩ (-(siz (atS (sds rl) g1 0))))).a (addS (byS (atS (sds rl) g1 0) (siz ⟨u,v,0⟩)) (byS ⟨u,v,0⟩ (-(siz (atS (sds rl) g1 0))))).b) rfl (WO.p rfl rfl (WO.nil ?_))
     refine W.cond_bl rfl (fun c4=>?_) (fun c4=>?_)
     ·have hml:=mstL_1 (p:=u) (q:=v) (show g1.length=1 by omega) ⟨by assumption,by assumption⟩
      refine W.chgE (all_open1 (b:=b4) (cs:=msts (sds rl) u v t) (by repeat constructor)) ?_
      rintro gv -
      refine W.chgE (all_open2 (b:=b4) (v:=gv) (cs:=msts (sds rl) u v t)) ?_
      rintro gxs hgx
      have hgl:gxs.length≤1000:=by have:=msts_len (sds rl) u v t;rw [← hgx,List.length_map] at this;omega
      refine W.drawD 8 [.b 0 [],.b 1 [],.r 2 [],.r 3 [],.r 4 [],.c 5 [],.c 6 [],.c 7 []] [] (A0:=[_]) (H0:=[_,_,_,_,_,_,_]) (.cons (Pick.tail .head) (.cons .head (.cons .head (.cons .head (.cons .head (.cons .head (.cons .head (.cons .head .nil)))))))) (by kernel_rfl) ?_ ?_
      ·repeat constructor
      refine DT.b rfl rfl rfl (WO.load rfl rfl (Cell.own Pick.head rfl) rfl (WO.nil ⟨rfl,rfl⟩)) (DT.b rfl rfl rfl (WO.load rfl rfl (Cell.own (Pick.tail (Pick.tail (Pick.tail (Pick.tail (Pick.tail (Pick.tail (Pick.head))))))) rfl) rfl (WO.nil ⟨rfl,rfl⟩)) (DT.r rfl rfl rfl (WO.p rfl rfl (WO.nil ⟨rfl,rfl⟩)) (DT.r rfl rfl rfl (WO.p rfl rfl (WO.nil ⟨rfl,rfl⟩)) (DT.r rfl rfl rfl (WO.p rfl rfl (WO.nil ⟨rfl,rfl⟩)) (DT.c [_,_,_,_,_,_,_,_] rfl rfl rfl rfl (WO.buildSl rfl rfl rfl rfl rfl rfl rfl rfl rfl (fun v7=>?_)))))))
      refine WO.nil ⟨_,[_,_],rfl,rfl,(Keep.r (Keep.r (Keep.r (Keep.b (Keep.b Keep.nil))))),?_⟩
      refine DT.c [_,_,_,_,_,_,_,_,_] rfl rfl rfl rfl (WO.call (Post:=fun r Hq=>∃ mb:Nat,r=mdV (.map (some mb)) (tkS (sds rl) g1 [siz ⟨u,v,0⟩] g1.length) (siz (atS (sds rl) g1 0))∧Hq=[pt mb (.map (tkL g1 [siz ⟨u,v,0⟩] g1.length).toArray g1.length)]) rfl Tryz.call136 (fun L w hi=>c_take w p rv sv rl (hT.later hi) hok _ _ g1 _ (siz (atS (sds rl) g1 0)) (RdF.of_ow (e:=3) encI_ok (by repeat constructor) hi) (RdF.of_ow (e:=2) (xs:=[siz ⟨u,v,0⟩]) encI_ok (by repeat exact .head) hi) hgr.rng hgr.nd (by show 1=_;omega) hgr.len.2 (fun y hy=>by simp at hy;subst hy;omega)) rfl ?_)
      rintro _ _ ⟨mb,rfl,rfl⟩
      refine WO.nil ⟨_,[_,_,_],rfl,rfl,(Keep.c (Keep.r (Keep.r (Keep.r (Keep.b (Keep.b Keep.nil)))))),?_⟩
      refine DT.c [_,_,_,_,_,_,_,_,_,_] rfl rfl rfl rfl (WO.buildSl rfl rfl rfl rfl rfl rfl rfl rfl rfl (fun v8=>?_))
      refine WO.nil ⟨_,[_,_,_,_],rfl,rfl,(Keep.c (Keep.c (Keep.r (Keep.r (Keep.r (Keep.b (Keep.b Keep.nil))))))),?_⟩
      refine DT.nil [_,_,_,_,_,_,_,_,_,_,_] rfl ?_
      refine' WO.appendE (enc:=encMd) (m:=1) (xs:=gxs) (ys:=[(mb,tkS (sds rl) g1 [siz ⟨u,v,0⟩] g1.length,siz (atS (sds rl) g1 0))]) encMd_ok rfl rfl rfl rfl rfl (by repeat constructor) (isSl_lit (by omega) (fun _=>⟨_,_,rfl⟩)) (by omega) rfl (OwC.cells .head) (by omega) (by omega) rfl (fun g c=>?_)
      refine WO.store1 rfl rfl rfl (by rfl) (Pick.tail (Pick.tail (Pick.tail (Pick.tail (Pick.head))))) rfl (WO.nil (W.exit (blk_same (endR.go (bl_t.2 hlt) ?_))))
      (rw [msts_succ hx,hml];exact all_pack (by repeat (first | exact Sub.nil | refine Sub.cons (by repeat constructor) ?_)) (by rw [List.map_append,hgx];rfl))
     ·refine W.skip (W.exit (blk_same (endR.go (bl_t.2 hlt) ?_)))
      (rw [msts_succ hx,mstL_1n (by omega) (fun q=>by exact absurd q.2 (by assumption)),List.append_nil];exact fun h hs=>Sub.sat (by repeat (first | exact Sub.nil | refine Sub.cons (by repeat constructor) ?_)) hs)
    ·refine DT.b rfl rfl rfl (WO.no rfl rfl (WO.nil ⟨rfl,rfl⟩)) (DT.r rfl rfl rfl (WO.no rfl rfl (WO.nil ⟨rfl,rfl⟩)) (DT.b rfl rfl rfl (WO.no rfl rfl (WO.nil ⟨rfl,rfl⟩)) (DT.b rfl rfl rfl (WO.no rfl rfl (WO.nil ⟨rfl,rfl⟩)) (DT.r rfl rfl rfl (WO.no rfl rfl (WO.nil ⟨rfl,rfl⟩)) (DT.r rfl rfl rfl (WO.no rfl rfl (WO.nil ⟨rfl,rfl⟩)) (DT.b rfl rfl rfl (WO.no rfl rfl (WO.nil ⟨rfl,rfl⟩)) (DT.r rfl rfl rfl (WO.no rfl rfl (WO.nil ⟨rfl,rfl⟩)) (DT.c [_,_,_,_,_,_] rfl rfl rfl rfl (WO.no rfl rfl ?_)))))))))
     refine WO.nil ⟨_,[],rfl,rfl,(Keep.r (Keep.b (Keep.r (Keep.r (Keep.b (Keep.b (Keep.r (Keep.b (Keep.r (Keep.r (Keep.b (Keep.b (Keep.b Keep.nil))))))))))))),?_⟩
     refine DT.f [_,_,_,_,_,_] rfl rfl rfl rfl (WO.no rfl rfl (WO.nil ⟨rfl,rfl⟩)) (DT.b rfl rfl rfl (WO.no rfl rfl (WO.nil ⟨rfl,rfl⟩)) (DT.nil [_,_,_,_,_,_] rfl (WO.no rfl rfl (WO.p rfl rfl (WO.nil (W.cond_f rfl (W.skip (W.exit (blk_same (endR.go (bl_t.2 hlt) ?_))))))))))
     (rw [msts_succ hx,mstL_1n (by omega) (fun q=>by exact absurd q.1 (by assumption)),List.append_nil];exact fun h hs=>Sub.sat (by repeat (first | exact Sub.nil | refine Sub.cons (by repeat constructor) ?_)) hs)
   ·refine W.skip (W.seq ?_)
    have h1:=hgr.rng _ (getD_mem (show 1<g1.length by omega) 0)
    have s1:OkS 20 100000 (atS (sds rl) g1 1):=hS _ (getD_mem (show (g1.getD 1 0).toNat<(sds rl).length by omega) sd0)
    have u1:=s1.up (A':=20) (B':=1000000) (by omega) (by omega)
    have d1:=(crs_bd u0 u1).2.2
    have d2:=(crs_bd hw u1).2.2
    have d3:=(crs_bd u0 hw).2.2
    refine W.drawD 10 [.b 0 [],.r 1 [],.r 2 [],.b 3 [],.r 4 [],.r 5 [],.b 6 [],.r 7 [],.b 8 [],.a 9 14 (.cells #[.int .i64 0,.int .i64 0,.int .i64 0] 72 (0,0))] [] (A0:=[]) (Sub.refl _) (by kernel_rfl) ?_ ?_
    ·exact (ALok.b (ALok.r (ALok.r (ALok.b (ALok.r (ALok.r (ALok.b (ALok.r (ALok.b (ALok.cons rfl rfl rfl rfl rfl ALok.nil))))))))))
    refine DT.b rfl rfl rfl (WO.load rfl rfl (Cell.own (Pick.tail (Pick.tail (Pick.tail (Pick.tail (Pick.tail (Pick.head)))))) rfl) rfl (WO.nil ⟨rfl,rfl⟩)) (DT.r rfl rfl rfl (WO.p rfl rfl (WO.nil ⟨rfl,rfl⟩)) (DT.r rfl rfl rfl (WO.field rfl rfl rfl (WO.nil ⟨rfl,rfl⟩)) ?_))
    refine' DT.b rfl rfl rfl ?hq ?_
    case hq =>
     refine' WO.load (v:=_) rfl rfl ?hc rfl ?_
     case hc=>((refine RdC.cellAt hT.c (j:=1) ?_;rfl))
     exact WO.nil ⟨rfl,rfl⟩
    refine DT.r rfl rfl rfl (WO.p rfl rfl (WO.nil ⟨rfl,rfl⟩)) (DT.r rfl rfl rfl (WO.indexAddr (i:=1) rfl rfl rfl hgsl (by omega) rfl (WO.nil ⟨rfl,rfl⟩)) ?_)
    refine' DT.b rfl rfl rfl ?hq ?_
    case hq =>
     refine' WO.load (v:=_) rfl rfl ?hc rfl ?_
     case hc=>(first | (refine OwE.cell0 (enc:=encI) (e:=3) (sz:=1) (xs:=g1) (i:=1) encI_ok (by repeat constructor) (by omega) 0 ?_;rfl))
     exact WO.nil ⟨rfl,rfl⟩
    refine' DT.r rfl rfl rfl ?hq ?_
    case hq =>
     refine' WO.indexAddrZ (n:=_) rfl rfl rfl ?hs ?h00 ?h1 rfl ?_
     case hs=>exact hT.s.sl
     case h00=>omega
     case h1=>(omega)
     exact WO.nil ⟨rfl,rfl⟩
    refine' DT.b rfl rfl rfl ?hq ?_
    case hq =>
     refine' WO.loadA (vs:=_) rfl rfl ?hc ?hl rfl ?_
     case hc=>((refine RdF.cellsT ?_ h1.1 h1.2 rfl;exact hT.s))
     case hl=>rfl
     exact WO.nil ⟨rfl,rfl⟩
    refine DT.a (fun b9=>(DT.nil [_,_,_,_,_,_,_] rfl (WO.storeA rfl rfl rfl rfl Pick.head rfl rfl (WO.nil (W.sreg (WO.loadA rfl rfl (Cells.own (Pick.tail (Pick.head))) rfl rfl (WO.p rfl rfl (WO.p rfl rfl (WO.nil (W.sreg (WO.p rfl rfl (WO.loadA rfl rfl (Cells.own Pick.head) rfl rfl (WO.callCR (first:=[sdV (atS (sds rl) g1 0)]) (captured:=[]) rfl rfl Tryz.call129 (fun L w hi=>c_cross w (atS (sds rl) g1 0) (atS (sds rl) g1 1) u0 u1) rfl (WO.p rfl rfl (WO.nil (W.seq ?_))))))))))))))))
    refine W.drawD 5 [.b 0 [],.b 1 [],.b 2 [],.r 3 [],.b 4 []] [] (A0:=[]) (Sub.refl _) (by kernel_rfl) ?_ ?_
    ·repeat constructor
    refine DT.b rfl rfl rfl (WO.loadA rfl rfl (Cells.own (Pick.tail (Pick.tail (Pick.tail (Pick.tail (Pick.head)))))) rfl rfl (WO.nil ⟨rfl,rfl⟩)) (DT.b rfl rfl rfl (WO.loadA rfl rfl (Cells.own Pick.head) rfl rfl (WO.nil ⟨rfl,rfl⟩)) (DT.b rfl rfl rfl (WO.callR rfl Tryz.call129 (fun L w hi=>c_cross w ⟨u,v,0⟩ (atS (sds rl) g1 1) hw u1) rfl (WO.nil ⟨rfl,rfl⟩)) (DT.r rfl rfl rfl (WO.p rfl rfl (WO.nil ⟨rfl,rfl⟩)) (DT.b rfl rfl rfl (WO.loadA rfl rfl (Cells.own (Pick.tail (Pick.tail (Pick.tail (Pick.tail (Pick.head)))))) rfl rfl (WO.nil ⟨rfl,rfl⟩)) (DT.nil [_,_,_,_,_,_,_] rfl ?_)))))
    refine WO.callCR (first:=[sdV (atS (sds rl) g1 0)]) (captured:=[]) rfl rfl Tryz.call129 (fun L w hi=>c_cross w (atS (sds rl) g1 0) ⟨u,v,0⟩ u0 hw) rfl (WO.p rfl rfl (WO.p rfl rfl (WO.nil (W.seq (W.sreg (WO.p rfl rfl (WO.p rfl rfl (WO.nil ?_))))))))
    refine W.cond_bl rfl (fun c5=>?_) (fun c5=>?_)
    ·refine W.region (WO.p rfl rfl (WO.neg rfl (by unfold in64;omega) rfl (WO.p rfl rfl (WO.neg rfl (by unfold in64;omega) rfl (WO.p rfl rfl (WO.neg rfl (by unfold in64;omega) rfl (WO.p rfl rfl (WO.p rfl rfl (WO.p rfl rfl (WO.nil (W.sreg (WO.p rfl rfl (WO.p rfl rfl (WO.p rfl rfl ?_))))))))))))))
     refine WO.guard_bl rfl rfl (fun c6=>?_) (fun c6=>?_)
     ·refine WO.pg rfl rfl rfl (WO.pg rfl rfl rfl (WO.p rfl rfl (WO.p rfl rfl ?_)))
      refine WO.guard_bl rfl rfl (fun c7=>?_) (fun c7=>?_)
      ·refine WO.pg rfl rfl rfl (WO.pg rfl rfl rfl (WO.p rfl rfl (WO.nil ?_)))
       refine W.cond_bl rfl (fun c8=>?_) (fun c8=>?_)
       ·(have hml:=(mstL_2 (S:=sds rl) (p:=u) (q:=v) (g:=g1) (d := -(crs (atS (sds rl) g1 0) (atS (sds rl) g1 1))) (x := -(crs ⟨u,v,0⟩ (atS (sds rl) g1 1))) (y := -(crs (atS (sds rl) g1 0) ⟨u,v,0⟩)) (by omega) (.inl ⟨by assumption,rfl,rfl,rfl⟩)).trans (if_pos ⟨by assumption,by assumption,by assumption⟩);have hneg:True:=trivial)
        refine W.chgE (all_open1 (b:=b4) (cs:=msts (sds rl) u v t) (by repeat constructor)) ?_
        rintro gv -
        refine W.chgE (all_open2 (b:=b4) (v:=gv) (cs:=msts (sds rl) u v t)) ?_
        rintro gxs hgx
        have hgl:gxs.length≤1000:=by have:=msts_len (sds rl) u v t;rw [← hgx,List.length_map] at this;omega
        refine W.drawD 9 [.b 0 [],.b 1 [],.r 2 [],.r 3 [],.r 4 [],.r 5 [],.c 6 [],.c 7 [],.c 8 []] [] (A0:=[_]) (H0:=[_,_,_,_,_,_,_]) (.cons (Pick.tail .head) (.cons .head (.cons .head (.cons .head (.cons .head (.cons .head (.cons .head (.cons .head .nil)))))))) (by kernel_rfl) ?_ ?_
        ·repeat constructor
        refine DT.b rfl rfl rfl (WO.load rfl rfl (Cell.own Pick.head rfl) rfl (WO.nil ⟨rfl,rfl⟩)) (DT.b rfl rfl rfl (WO.load rfl rfl (Cell.own (Pick.tail (Pick.tail (Pick.tail (Pick.tail (Pick.tail (Pick.tail (Pick.head))))))) rfl) rfl (WO.nil ⟨rfl,rfl⟩)) (DT.r rfl rfl rfl (WO.p rfl rfl (WO.nil ⟨rfl,rfl⟩)) (DT.r rfl rfl rfl (WO.p rfl rfl (WO.nil ⟨rfl,rfl⟩)) (DT.r rfl rfl rfl (WO.p rfl rfl (WO.nil ⟨rfl,rfl⟩)) (DT.r rfl rfl rfl (WO.p rfl rfl (WO.nil ⟨rfl,rfl⟩)) (DT.c [_,_,_,_,_,_,_,_] rfl rfl rfl rfl (WO.buildSl rfl rfl rfl rfl rfl rfl rfl rfl rfl (fun v10=>?_))))))))
        refine WO.nil ⟨_,[_,_],rfl,rfl,(Keep.r (Keep.r (Keep.r (Keep.r (Keep.b (Keep.b Keep.nil)))))),?_⟩
        refine DT.c [_,_,_,_,_,_,_,_,_] rfl rfl rfl rfl ?_
        (have q:=hneg;clear q;refine WO.call (Post:=fun r Hq=>∃ mb:Nat,r=mdV (.map (some mb)) (tkS (sds rl) g1 [-(crs ⟨u,v,0⟩ (atS (sds rl) g1 1)),-(crs (atS (sds rl) g1 0) ⟨u,v,0⟩)] g1.length) (-(crs (atS (sds rl) g1 0) (atS (sds rl) g1 1)))∧Hq=[pt mb (.map (tkL g1 [-(crs ⟨u,v,0⟩ (atS (sds rl) g1 1)),-(crs (atS (sds rl) g1 0) ⟨u,v,0⟩)] g1.length).toArray g1.length)]) rfl Tryz.call136 (fun L w hi=>c_take w p rv sv rl (hT.later hi) hok _ _ g1 _ _ (RdF.of_ow (e:=3) encI_ok (by repeat constructor) hi) (RdF.of_ow (e:=2) (xs:=[-(crs ⟨u,v,0⟩ (atS (sds rl) g1 1)),-(crs (atS (sds rl) g1 0) ⟨u,v,0⟩)]) encI_ok (by repeat exact .head) hi) hgr.rng hgr.nd (by show 2=_;omega) hgr.len.2 (y2_bd (by omega) (by omega))) rfl ?_)
        rintro _ _ ⟨mb,rfl,rfl⟩
        refine WO.nil ⟨_,[_,_,_],rfl,rfl,(Keep.c (Keep.r (Keep.r (Keep.r (Keep.r (Keep.b (Keep.b Keep.nil))))))),?_⟩
        refine DT.c [_,_,_,_,_,_,_,_,_,_] rfl rfl rfl rfl (WO.buildSl rfl rfl rfl rfl rfl rfl rfl rfl rfl (fun v11=>?_))
        refine WO.nil ⟨_,[_,_,_,_],rfl,rfl,(Keep.c (Keep.c (Keep.r (Keep.r (Keep.r (Keep.r (Keep.b (Keep.b Keep.nil)))))))),?_⟩
        refine DT.nil [_,_,_,_,_,_,_,_,_,_,_] rfl ?_
        (have q:=hneg;clear q;refine' WO.appendE (enc:=encMd) (m:=1) (xs:=gxs) (ys:=[(mb,tkS (sds rl) g1 [-(crs ⟨u,v,0⟩ (atS (sds rl) g1 1)),-(crs (atS (sds rl) g1 0) ⟨u,v,0⟩)] g1.length,-(crs (atS (sds rl) g1 0) (atS (sds rl) g1 1)))]) encMd_ok rfl rfl rfl rfl rfl (by repeat constructor) (isSl_lit (by omega) (fun _=>⟨_,_,rfl⟩)) (by omega) rfl (OwC.cells .head) (by omega) (by omega) rfl (fun g c=>?_))
        refine WO.store1 rfl rfl rfl (by rfl) (Pick.tail (Pick.tail (Pick.tail (Pick.tail (Pick.head))))) rfl (WO.nil (endR.go (bl_t.2 hlt) ?_))
        (rw [msts_succ hx,hml];exact all_pack (by repeat (first | exact Sub.nil | refine Sub.cons (by repeat constructor) ?_)) (by rw [List.map_append,hgx];rfl))
       ·refine W.skip (endR.go (bl_t.2 hlt) ?_)
        (rw [msts_succ hx,mstL_2 (d := -(crs (atS (sds rl) g1 0) (atS (sds rl) g1 1))) (x := -(crs ⟨u,v,0⟩ (atS (sds rl) g1 1))) (y := -(crs (atS (sds rl) g1 0) ⟨u,v,0⟩)) (by omega) (.inl ⟨by assumption,rfl,rfl,rfl⟩),if_neg (by omega),List.append_nil];exact fun h hs=>Sub.sat (by repeat (first | exact Sub.nil | refine Sub.cons (by repeat constructor) ?_)) hs)
      ·refine WO.no rfl rfl (WO.no rfl rfl (WO.p rfl rfl (WO.nil (W.cond_f rfl (W.skip (endR.go (bl_t.2 hlt) ?_))))))
       (rw [msts_succ hx,mstL_2 (d := -(crs (atS (sds rl) g1 0) (atS (sds rl) g1 1))) (x := -(crs ⟨u,v,0⟩ (atS (sds rl) g1 1))) (y := -(crs (atS (sds rl) g1 0) ⟨u,v,0⟩)) (by omega) (.inl ⟨by assumption,rfl,rfl,rfl⟩),if_neg (by omega),List.append_nil];exact fun h hs=>Sub.sat (by repeat (first | exact Sub.nil | refine Sub.cons (by repeat constructor) ?_)) hs)
     ·exfalso;omega
    ·refine W.skip (W.sreg (WO.p rfl rfl (WO.p rfl rfl (WO.p rfl rfl ?_))))
     refine WO.guard_bl rfl rfl (fun c9=>?_) (fun c9=>?_)
     ·refine WO.pg rfl rfl rfl (WO.pg rfl rfl rfl (WO.p rfl rfl (WO.p rfl rfl ?_)))
      refine WO.guard_bl rfl rfl (fun c10=>?_) (fun c10=>?_)
      ·refine WO.pg rfl rfl rfl (WO.pg rfl rfl rfl (WO.p rfl rfl (WO.nil ?_)))
       refine W.cond_bl rfl (fun c11=>?_) (fun c11=>?_)
       ·(have hml:=(mstL_2 (S:=sds rl) (p:=u) (q:=v) (g:=g1) (d:=crs (atS (sds rl) g1 0) (atS (sds rl) g1 1)) (x:=crs ⟨u,v,0⟩ (atS (sds rl) g1 1)) (y:=crs (atS (sds rl) g1 0) ⟨u,v,0⟩) (by omega) (.inr ⟨by assumption,rfl,rfl,rfl⟩)).trans (if_pos ⟨by assumption,by assumption,by assumption⟩);have hpos:True:=trivial)
        refine W.chgE (all_open1 (b:=b4) (cs:=msts (sds rl) u v t) (by repeat constructor)) ?_
        rintro gv -
        refine W.chgE (all_open2 (b:=b4) (v:=gv) (cs:=msts (sds rl) u v t)) ?_
        rintro gxs hgx
        have hgl:gxs.length≤1000:=by have:=msts_len (sds rl) u v t;rw [← hgx,List.length_map] at this;omega
        refine W.drawD 9 [.b 0 [],.b 1 [],.r 2 [],.r 3 [],.r 4 [],.r 5 [],.c 6 [],.c 7 [],.c 8 []] [] (A0:=[_]) (H0:=[_,_,_,_,_,_,_]) (.cons (Pick.tail .head) (.cons .head (.cons .head (.cons .head (.cons .head (.cons .head (.cons .head (.cons .head .nil)))))))) (by kernel_rfl) ?_ ?_
        ·repeat constructor
        refine DT.b rfl rfl rfl (WO.load rfl rfl (Cell.own Pick.head rfl) rfl (WO.nil ⟨rfl,rfl⟩)) (DT.b rfl rfl rfl (WO.load rfl rfl (Cell.own (Pick.tail (Pick.tail (Pick.tail (Pick.tail (Pick.tail (Pick.tail (Pick.head))))))) rfl) rfl (WO.nil ⟨rfl,rfl⟩)) (DT.r rfl rfl rfl (WO.p rfl rfl (WO.nil ⟨rfl,rfl⟩)) (DT.r rfl rfl rfl (WO.p rfl rfl (WO.nil ⟨rfl,rfl⟩)) (DT.r rfl rfl rfl (WO.p rfl rfl (WO.nil ⟨rfl,rfl⟩)) (DT.r rfl rfl rfl (WO.p rfl rfl (WO.nil ⟨rfl,rfl⟩)) (DT.c [_,_,_,_,_,_,_,_] rfl rfl rfl rfl (WO.buildSl rfl rfl rfl rfl rfl rfl rfl rfl rfl (fun v12=>?_))))))))
        refine WO.nil ⟨_,[_,_],rfl,rfl,(Keep.r (Keep.r (Keep.r (Keep.r (Keep.b (Keep.b Keep.nil)))))),?_⟩
        refine DT.c [_,_,_,_,_,_,_,_,_] rfl rfl rfl rfl ?_
        (have q:=hpos;clear q;refine WO.call (Post:=fun r Hq=>∃ mb:Nat,r=mdV (.map (some mb)) (tkS (sds rl) g1 [crs ⟨u,v,0⟩ (atS (sds rl) g1 1),crs (atS (sds rl) g1 0) ⟨u,v,0⟩] g1.length) (crs (atS (sds rl) g1 0) (atS (sds rl) g1 1))∧Hq=[pt mb (.map (tkL g1 [crs ⟨u,v,0⟩ (atS (sds rl) g1 1),crs (atS (sds rl) g1 0) ⟨u,v,0⟩] g1.length).toArray g1.length)]) rfl Tryz.call136 (fun L w hi=>c_take w p rv sv rl (hT.later hi) hok _ _ g1 _ _ (RdF.of_ow (e:=3) encI_ok (by repeat constructor) hi) (RdF.of_ow (e:=2) (xs:=[crs ⟨u,v,0⟩ (atS (sds rl) g1 1),crs (atS (sds rl) g1 0) ⟨u,v,0⟩]) encI_ok (by repeat exact .head) hi) hgr.rng hgr.nd (by show 2=_;omega) hgr.len.2 (y2_bd (by omega) (by omega))) rfl ?_)
        rintro _ _ ⟨mb,rfl,rfl⟩
        refine WO.nil ⟨_,[_,_,_],rfl,rfl,(Keep.c (Keep.r (Keep.r (Keep.r (Keep.r (Keep.b (Keep.b Keep.nil))))))),?_⟩
        refine DT.c [_,_,_,_,_,_,_,_,_,_] rfl rfl rfl rfl (WO.buildSl rfl rfl rfl rfl rfl rfl rfl rfl rfl (fun v13=>?_))
        refine WO.nil ⟨_,[_,_,_,_],rfl,rfl,(Keep.c (Keep.c (Keep.r (Keep.r (Keep.r (Keep.r (Keep.b (Keep.b Keep.nil)))))))),?_⟩
        refine DT.nil [_,_,_,_,_,_,_,_,_,_,_] rfl ?_
        (have q:=hpos;clear q;refine' WO.appendE (enc:=encMd) (m:=1) (xs:=gxs) (ys:=[(mb,tkS (sds rl) g1 [crs ⟨u,v,0⟩ (atS (sds rl) g1 1),crs (atS (sds rl) g1 0) ⟨u,v,0⟩] g1.length,crs (atS (sds rl) g1 0) (atS (sds rl) g1 1))]) encMd_ok rfl rfl rfl rfl rfl (by repeat constructor) (isSl_lit (by omega) (fun _=>⟨_,_,rfl⟩)) (by omega) rfl (OwC.cells .head) (by omega) (by omega) rfl (fun g c=>?_))
        refine WO.store1 rfl rfl rfl (by rfl) (Pick.tail (Pick.tail (Pick.tail (Pick.tail (Pick.head))))) rfl (WO.nil (endR.go (bl_t.2 hlt) ?_))
        (rw [msts_succ hx,hml];exact all_pack (by repeat (first | exact Sub.nil | refine Sub.cons (by repeat constructor) ?_)) (by rw [List.map_append,hgx];rfl))
       ·refine W.skip (endR.go (bl_t.2 hlt) ?_)
        (rw [msts_succ hx,mstL_2 (d:=crs (atS (sds rl) g1 0) (atS (sds rl) g1 1)) (x:=crs ⟨u,v,0⟩ (atS (sds rl) g1 1)) (y:=crs (atS (sds rl) g1 0) ⟨u,v,0⟩) (by omega) (.inr ⟨by assumption,rfl,rfl,rfl⟩),if_neg (by omega),List.append_nil];exact fun h hs=>Sub.sat (by repeat (first | exact Sub.nil | refine Sub.cons (by repeat constructor) ?_)) hs)
      ·refine WO.no rfl rfl (WO.no rfl rfl (WO.p rfl rfl (WO.nil (W.cond_f rfl (W.skip (endR.go (bl_t.2 hlt) ?_))))))
       (rw [msts_succ hx,mstL_2 (d:=crs (atS (sds rl) g1 0) (atS (sds rl) g1 1)) (x:=crs ⟨u,v,0⟩ (atS (sds rl) g1 1)) (y:=crs (atS (sds rl) g1 0) ⟨u,v,0⟩) (by omega) (.inr ⟨by assumption,rfl,rfl,rfl⟩),if_neg (by omega),List.append_nil];exact fun h hs=>Sub.sat (by repeat (first | exact Sub.nil | refine Sub.cons (by repeat constructor) ?_)) hs)
     ·refine WO.no rfl rfl (WO.no rfl rfl (WO.p rfl rfl (WO.p rfl rfl (WO.no rfl rfl (WO.no rfl rfl (WO.p rfl rfl (WO.nil (W.cond_f rfl (W.skip (endR.go (bl_t.2 hlt) ?_))))))))))
      (rw [msts_succ hx,mstL_2 (d:=crs (atS (sds rl) g1 0) (atS (sds rl) g1 1)) (x:=crs ⟨u,v,0⟩ (atS (sds rl) g1 1)) (y:=crs (atS (sds rl) g1 0) ⟨u,v,0⟩) (by omega) (.inr ⟨by assumption,rfl,rfl,rfl⟩),if_neg (by omega),List.append_nil];exact fun h hs=>Sub.sat (by repeat (first | exact Sub.nil | refine Sub.cons (by repeat constructor) ?_)) hs)
  ·intro hAll
   rw [msts_end]
   refine W.seq (W.chgE (all_open1 (b:=b4) (cs:=mstA (sds rl) u v) (by repeat constructor)) ?_)
   rintro gv -
   refine W.chgE (all_open2 (b:=b4) (v:=gv) (cs:=mstA (sds rl) u v)) ?_
   rintro gxs hgx
   refine W.fact (OwE.formCap (enc:=encMd) (e:=74) (sz:=5) (v:=gv) (xs:=gxs) (by repeat constructor)) (fun hfc=>?_)
   obtain ⟨ga,gc,rfl,hgc⟩:=hfc
   refine W.fact (OwE.sl (enc:=encMd) (e:=74) (sz:=5) (v:=.slice ga gxs.length gc) (xs:=gxs) (by repeat constructor)) (fun hgs=>?_)
   have hgk:∀ y∈gxs,OkM y.2:=fun y hy=>mstA_ok hS (sds_nz hok) hu hv _ (hgx▸List.mem_map_of_mem hy)
   refine W.sreg (WO.load rfl rfl (Cell.own Pick.head rfl) rfl (WO.len rfl rfl hgs rfl (WO.p rfl rfl (WO.nil ?_))))
   refine W.cond_bl rfl (fun c12=>?_) (fun c12=>?_)
   ·refine W.sreg (WO.build rfl rfl rfl rfl rfl (WO.storeA rfl rfl rfl rfl (Pick.tail (Pick.tail (Pick.tail (Pick.tail (Pick.tail (Pick.head)))))) rfl rfl (WO.p rfl rfl (WO.nil (W.ret ?_)))))
    (have hz:mstA (sds rl) u v=[]:=(by rw [← hgx];exact List.map_eq_nil_iff.2 (List.eq_nil_of_length_eq_zero (by omega)));have hb:¬ Bnd (sds rl) u v:=fun q=>q.elim (fun q=>by omega) (fun q=>q hz);exact fin.ret (Res.two rfl (RV.cell rfl rfl rfl (Cells.own (by repeat exact .head))) (RV.tmp rfl)) ⟨none,sd0,0,by rw [bl_f.2 hb] <;> rfl,fun q=>absurd q hb⟩)
   ·refine W.skip (W.sreg (WO.load rfl rfl (Cell.own Pick.head rfl) rfl (WO.callE rfl Tryz.call137 (fun L w hi=>c_first w ga gc gxs (RdF.of_ow (e:=74) encMd_ok (by repeat constructor) hi) hgc (by omega) hgk) rfl ?_)))
    rintro _ ⟨y,hy,rfl⟩
    refine WO.storeA rfl rfl rfl rfl (Pick.tail (Pick.tail (Pick.tail (Pick.tail (Pick.tail (Pick.head)))))) rfl rfl (WO.p rfl rfl (WO.nil (W.ret ?_)))
    (have q:=hy;exact fin.ret (Res.two rfl (RV.cell rfl rfl rfl (Cells.own (by repeat exact .head))) (RV.tmp rfl)) ⟨some y.1,y.2.1,y.2.2,by rw [bl_t.2 (show Bnd (sds rl) u v from .inr (fun e=>by rw [e] at hgx;have hz:=congrArg List.length hgx;rw [List.length_map] at hz;exact absurd hz (by show ¬ (gxs.length=0);omega)))] <;> rfl,fun _=>firstM_most (by omega) hgx hy⟩)
  ·intro hStop
   exfalso;omega
end Go.Proofs.YthoeeeehfkenkaaGreat.Sp
namespace Go.Proofs.YthoeeeehfkenkaaGreat.Sp
open Go Go.TH
attribute [local irreducible] W WO pt
set_option maxRecDepth 10000
set_option maxHeartbeats 2000000
def leE (l:List Rn) (p q:Int):Int:=if chkA l p q≠0 then chkA l p q else if Dbt (sds l) then 20 else if Bnd (sds l) p q then 0 else 5
theorem leE_1 {l:List Rn} {p q:Int} (h:chkA l p q≠0):leE l p q=chkA l p q:=by unfold leE;rw [if_pos h]
theorem leE_20 {l:List Rn} {p q:Int} (h:¬ chkA l p q≠0) (g:Dbt (sds l)):leE l p q=20:=by unfold leE;rw [if_neg h,if_pos g]
theorem leE_5 {l:List Rn} {p q:Int} (h:¬ chkA l p q≠0) (g:¬ Dbt (sds l)) (b:¬ Bnd (sds l) p q):leE l p q=5:=by unfold leE;rw [if_neg h,if_neg g,if_neg b]
theorem leE_0 {l:List Rn} {p q:Int} (h:¬ chkA l p q≠0) (g:¬ Dbt (sds l)) (b:Bnd (sds l) p q):leE l p q=0:=by unfold leE;rw [if_neg h,if_neg g,if_pos b]
def BestR (l:List Rn) (p q:Int) (r:Value):Prop:=∃ (m:Option Nat) (s:Sd) (t:Int),r=.tuple #[mdV (.map m) s t,.int .i64 (leE l p q)]∧(leE l p q=0→MostI (sds l) p q (s,t))
theorem c_best (w:World) (v:Value) (l:List Rn) (p q:Int) (hR:RdF encRn 4 w.heap.size w v l):RetE Tryz.prog 26 [v,.int .i64 p,.int .i64 q].toArray w (BestR l p q):=by
 refine RetE.of mixed tyTab Tryz.func26 rfl rfl ?_
 replace hR:RdF encRn 4 (fnCx mixed tyTab Tryz.f26.ntmps w).B (fnCx mixed tyTab Tryz.f26.ntmps w).w0 v l:=hR
 refine W.sreg (WO.alloc rfl rfl rfl (fun b1 hb1=>(WO.p rfl rfl (WO.nil (W.seq (W.sreg (WO.p rfl rfl (WO.p rfl rfl (WO.p rfl rfl (WO.callR rfl Tryz.call72 (fun L w hi=>c_check w v l p q (hR.later hi)) rfl (WO.p rfl rfl (WO.nil (W.sreg (WO.p rfl rfl (WO.p rfl rfl (WO.nil ?_))))))))))))))))
 refine W.cond_bl rfl (fun c1=>?_) (fun c1=>?_)
 ·refine W.sreg (WO.build rfl rfl rfl rfl rfl (WO.p rfl rfl (WO.storeA rfl rfl rfl rfl Pick.head rfl rfl (WO.p rfl rfl (WO.nil (W.ret ?_))))))
  first
  | exact fin.ret (Res.two rfl (RV.cell rfl rfl rfl (Cells.own (by repeat exact .head))) (RV.tmp rfl)) ⟨none,sd0,0,by rw [leE_1 (by assumption)] <;> rfl,fun e=>by rw [leE_1 (by assumption)] at e;omega⟩
  | exact fin.ret (Res.two rfl (RV.cell rfl rfl rfl (Cells.own (by repeat first | exact .head | apply Pick.tail))) (RV.tmp rfl)) ⟨none,sd0,0,by rw [leE_20 (by assumption) (by assumption)] <;> rfl,fun e=>by rw [leE_20 (by assumption) (by assumption)] at e;omega⟩
  | exact fin.ret (Res.two rfl (RV.cell rfl rfl rfl (Cells.own (by repeat first | exact .head | apply Pick.tail))) (RV.tmp rfl)) ⟨none,sd0,0,by rw [leE_5 (by assumption) (by assumption) (by assumption)] <;> rfl,fun e=>by rw [leE_5 (by assumption) (by assumption) (by assumption)] at e;omega⟩
  | exact fin.ret (Res.two rfl (RV.cell rfl rfl rfl (Cells.own (by repeat first | exact .head | apply Pick.tail))) (RV.tmp rfl)) ⟨mq,ms,mt,by rw [leE_0 (by assumption) (by assumption) (by assumption)],fun _=>hms (by assumption)⟩
 ·refine W.skip (W.sreg (WO.p rfl rfl ?_))
  have hrs:=chkRs0.1 (chkA0.1 (show chkA l p q=0 by omega)).1
  have hpq:=(chkA0.1 (show chkA l p q=0 by omega)).2
  refine WO.call (Post:=fun u Hq=>∃ (b:Nat) (rv sv:Value),u=.pointer (some ⟨b,0,none⟩)∧Hq=[pt b (.cells #[rv,sv] 142 (0,0)),OwE encPr 144 10 rv l,OwE encSd 72 3 sv (sds l)]) rfl Tryz.call29 (fun L w hi=>c_newTable w v l (hR.later hi) hrs.2 hrs.1) rfl ?_
  rintro _ _ ⟨tb,rv,sv,rfl,rfl⟩
  refine WO.p rfl rfl (WO.nil (W.seq (W.sreg (WO.p rfl rfl (WO.call (Post:=fun u Hq=>∃ mb:Nat,u=.tuple #[mdV (.map (dbQ (sds l) mb)) (dbS (sds l)) (dbT (sds l)),.bool (bl (Dbt (sds l)))]∧Hq=[dbP (sds l) mb]) rfl Tryz.call30 (fun L w hi=>c_doubt w ⟨tb,0,none⟩ rv sv l (Tbl.own (b:=tb) (by repeat exact .head) (by repeat first | exact .head | apply Pick.tail) (by repeat first | exact .head | apply Pick.tail) hi) hrs.2 hrs.1) rfl ?_)))))
  rintro _ _ ⟨mb,rfl,rfl⟩
  refine WO.p rfl rfl (WO.p rfl rfl (WO.extract (i:=1) rfl rfl rfl (WO.alloc rfl rfl rfl (fun b2 hb2=>(WO.storeA rfl rfl rfl rfl Pick.head rfl rfl (WO.p rfl rfl (WO.nil (W.sreg (WO.p rfl rfl (WO.nil ?_))))))))))
  refine W.cond_bl rfl (fun c2=>?_) (fun c2=>?_)
  ·refine W.sreg (WO.build rfl rfl rfl rfl rfl (WO.storeA rfl rfl rfl rfl (Pick.tail (Pick.tail (Pick.tail (Pick.tail (Pick.tail (Pick.head)))))) rfl rfl (WO.p rfl rfl (WO.nil (W.ret ?_)))))
   first
   | exact fin.ret (Res.two rfl (RV.cell rfl rfl rfl (Cells.own (by repeat exact .head))) (RV.tmp rfl)) ⟨none,sd0,0,by rw [leE_1 (by assumption)] <;> rfl,fun e=>by rw [leE_1 (by assumption)] at e;omega⟩
   | exact fin.ret (Res.two rfl (RV.cell rfl rfl rfl (Cells.own (by repeat exact .head))) (RV.tmp rfl)) ⟨none,sd0,0,by rw [leE_20 (by assumption) (by assumption)] <;> rfl,fun e=>by rw [leE_20 (by assumption) (by assumption)] at e;omega⟩
   | exact fin.ret (Res.two rfl (RV.cell rfl rfl rfl (Cells.own (by repeat first | exact .head | apply Pick.tail))) (RV.tmp rfl)) ⟨none,sd0,0,by rw [leE_5 (by assumption) (by assumption) (by assumption)] <;> rfl,fun e=>by rw [leE_5 (by assumption) (by assumption) (by assumption)] at e;omega⟩
   | exact fin.ret (Res.two rfl (RV.cell rfl rfl rfl (Cells.own (by repeat first | exact .head | apply Pick.tail))) (RV.tmp rfl)) ⟨mq,ms,mt,by rw [leE_0 (by assumption) (by assumption) (by assumption)],fun _=>hms (by assumption)⟩
  ·refine W.skip (W.sreg (WO.p rfl rfl (WO.p rfl rfl (WO.p rfl rfl (WO.callE rfl Tryz.call73 (fun L w hi=>c_most w ⟨tb,0,none⟩ rv sv l (Tbl.own (b:=tb) (by repeat first | exact .head | apply Pick.tail) (by repeat first | exact .head | apply Pick.tail) (by repeat first | exact .head | apply Pick.tail) hi) hrs.2 hrs.1 p q hpq.1 hpq.2) rfl ?_)))))
   rintro _ ⟨mq,ms,mt,rfl,hms⟩
   refine WO.p rfl rfl (WO.p rfl rfl (WO.extract (i:=1) rfl rfl rfl (WO.alloc rfl rfl rfl (fun b3 hb3=>(WO.storeA rfl rfl rfl rfl Pick.head rfl rfl (WO.p rfl rfl (WO.nil (W.seq (W.sreg (WO.p rfl rfl (WO.p rfl rfl (WO.nil ?_))))))))))))
   refine W.cond_nbl rfl (fun c3=>?_) (fun c3=>?_)
   ·refine W.sreg (WO.build rfl rfl rfl rfl rfl (WO.storeA rfl rfl rfl rfl (Pick.tail (Pick.tail (Pick.tail (Pick.tail (Pick.tail (Pick.tail (Pick.head))))))) rfl rfl (WO.p rfl rfl (WO.nil (W.ret ?_)))))
    first
    | exact fin.ret (Res.two rfl (RV.cell rfl rfl rfl (Cells.own (by repeat exact .head))) (RV.tmp rfl)) ⟨none,sd0,0,by rw [leE_1 (by assumption)] <;> rfl,fun e=>by rw [leE_1 (by assumption)] at e;omega⟩
    | exact fin.ret (Res.two rfl (RV.cell rfl rfl rfl (Cells.own (by repeat exact .head))) (RV.tmp rfl)) ⟨none,sd0,0,by rw [leE_20 (by assumption) (by assumption)] <;> rfl,fun e=>by rw [leE_20 (by assumption) (by assumption)] at e;omega⟩
    | exact fin.ret (Res.two rfl (RV.cell rfl rfl rfl (Cells.own (by repeat exact .head))) (RV.tmp rfl)) ⟨none,sd0,0,by rw [leE_5 (by assumption) (by assumption) (by assumption)] <;> rfl,fun e=>by rw [leE_5 (by assumption) (by assumption) (by assumption)] at e;omega⟩
    | exact fin.ret (Res.two rfl (RV.cell rfl rfl rfl (Cells.own (by repeat first | exact .head | apply Pick.tail))) (RV.tmp rfl)) ⟨mq,ms,mt,by rw [leE_0 (by assumption) (by assumption) (by assumption)],fun _=>hms (by assumption)⟩
   ·refine W.skip (W.sreg (WO.loadA rfl rfl (Cells.own Pick.head) rfl rfl (WO.storeA rfl rfl rfl rfl (Pick.tail (Pick.tail (Pick.tail (Pick.tail (Pick.tail (Pick.tail (Pick.head))))))) rfl rfl (WO.p rfl rfl (WO.nil (W.ret ?_))))))
    first
    | exact fin.ret (Res.two rfl (RV.cell rfl rfl rfl (Cells.own (by repeat exact .head))) (RV.tmp rfl)) ⟨none,sd0,0,by rw [leE_1 (by assumption)] <;> rfl,fun e=>by rw [leE_1 (by assumption)] at e;omega⟩
    | exact fin.ret (Res.two rfl (RV.cell rfl rfl rfl (Cells.own (by repeat exact .head))) (RV.tmp rfl)) ⟨none,sd0,0,by rw [leE_20 (by assumption) (by assumption)] <;> rfl,fun e=>by rw [leE_20 (by assumption) (by assumption)] at e;omega⟩
    | exact fin.ret (Res.two rfl (RV.cell rfl rfl rfl (Cells.own (by repeat exact .head))) (RV.tmp rfl)) ⟨none,sd0,0,by rw [leE_5 (by assumption) (by assumption) (by assumption)] <;> rfl,fun e=>by rw [leE_5 (by assumption) (by assumption) (by assumption)] at e;omega⟩
    | exact fin.ret (Res.two rfl (RV.cell rfl rfl rfl (Cells.own (by repeat exact .head))) (RV.tmp rfl)) ⟨mq,ms,mt,by rw [leE_0 (by assumption) (by assumption) (by assumption)],fun _=>hms (by assumption)⟩
def LeastR (l:List Rn) (p q:Int) (r:Value):Prop:=∃ x:Int × Int,r=.tuple #[raV x,.int .i64 (leE l p q)]∧(leE l p q=0→∃ y:Sd × Int,MostI (sds l) p q y∧x=red y.1.c y.2)
theorem leE_ok {l:List Rn} {p q:Int} (h:leE l p q=0):OkRs l∧l.length≤12∧OkN p∧OkN q∧¬ Dbt (sds l)∧Bnd (sds l) p q:=by
 unfold leE at h
 split at h
 ·omega
 ·rename_i h1
  obtain ⟨h2,h3⟩:=chkA0.1 (show chkA l p q=0 by omega)
  obtain ⟨h4,h5⟩:=chkRs0.1 h2
  split at h
  ·omega
  ·split at h
   ·exact ⟨h5,h4,h3.1,h3.2,by assumption,by assumption⟩
   ·omega
theorem c_Least (w:World) (v:Value) (l:List Rn) (p q:Int) (hR:RdF encRn 4 w.heap.size w v l):RetE Tryz.prog 10 [v,.int .i64 p,.int .i64 q].toArray w (LeastR l p q):=by
 refine RetE.of mixed tyTab Tryz.func10 rfl rfl ?_
 replace hR:RdF encRn 4 (fnCx mixed tyTab Tryz.f10.ntmps w).B (fnCx mixed tyTab Tryz.f10.ntmps w).w0 v l:=hR
 refine W.sreg (WO.alloc rfl rfl rfl (fun b1 hb1=>(WO.p rfl rfl (WO.nil (W.sreg (WO.p rfl rfl (WO.p rfl rfl (WO.p rfl rfl (WO.callE rfl Tryz.call26 (fun L w hi=>c_best w v l p q (hR.later hi)) rfl ?_)))))))))
 rintro _ ⟨mq,ms,mt,rfl,hms⟩
 refine WO.p rfl rfl (WO.p rfl rfl (WO.p rfl rfl (WO.alloc rfl rfl rfl (fun b2 hb2=>(WO.storeA rfl rfl rfl rfl Pick.head rfl rfl (WO.p rfl rfl (WO.nil (W.seq (W.sreg (WO.p rfl rfl (WO.p rfl rfl (WO.nil ?_))))))))))))
 refine W.cond_bl rfl (fun c1=>?_) (fun c1=>?_)
 ·refine W.sreg (WO.build rfl rfl rfl rfl rfl (WO.p rfl rfl (WO.storeA rfl rfl rfl rfl (Pick.tail (Pick.head)) rfl rfl (WO.p rfl rfl (WO.nil (W.ret ?_))))))
  first
  | exact fin.ret (Res.two rfl (RV.cell rfl rfl rfl (Cells.own (by repeat exact .head))) (RV.tmp rfl)) ⟨(0,0),rfl,fun e=>by omega⟩
  | exact fin.ret (Res.two rfl (RV.cell rfl rfl rfl (Cells.own (by repeat first | exact .head | apply Pick.tail))) (RV.tmp rfl)) ⟨red ms.c mt,by rw [show leE l p q=0 by omega],fun _=>⟨(ms,mt),hm,rfl⟩⟩
 ·refine W.skip (W.sreg (WO.loadA rfl rfl (Cells.own Pick.head) rfl rfl ?_))
  have hle:=leE_ok (show leE l p q=0 by omega)
  have hm:=hms (by omega)
  refine WO.callR rfl Tryz.call27 (fun L w hi=>c_boundQ w mq ms mt (hm.ok hle.1 hle.2.2.1 hle.2.2.2.1)) rfl (WO.storeA rfl rfl rfl rfl (Pick.tail (Pick.head)) rfl rfl (WO.p rfl rfl (WO.nil (W.ret ?_))))
  first
  | exact fin.ret (Res.two rfl (RV.cell rfl rfl rfl (Cells.own (by repeat exact .head))) (RV.tmp rfl)) ⟨(0,0),rfl,fun e=>by omega⟩
  | exact fin.ret (Res.two rfl (RV.cell rfl rfl rfl (Cells.own (by repeat exact .head))) (RV.tmp rfl)) ⟨red ms.c mt,by rw [show leE l p q=0 by omega],fun _=>⟨(ms,mt),hm,rfl⟩⟩
end Go.Proofs.YthoeeeehfkenkaaGreat.Sp
namespace Go.Proofs.YthoeeeehfkenkaaGreat.Sp
open Go Go.TH
section
variable {S:List Sd} {p q:Int}
def FitC (S:List Sd) (t:Tru):Prop:=t∈crnS S∧∀ k∈S,fitS k t
theorem line_att (hN:¬ Dbt S) (hn:∀ s∈S,s.a≠0∨s.b≠0) (hS:∀ s∈S,∃ o∈S,o.a = -s.a∧o.b = -s.b) (hw:p≠0∨q≠0) {b:Sd} (hb:b∈S) (hf1:b.a*siz (wS p q)=p*siz b) (hf2:b.b*siz (wS p q)=q*siz b) (hmax:∀ y∈mstA S p q,y.1.c*siz b≤b.c*siz (wS p q)*y.2) :
 ∃ t,FitC S t∧(p*t.a+q*t.b)*siz b=b.c*siz (wS p q)*t.d:=by
 have key:∀ t:Tru,b.a*t.a+b.b*t.b=b.c*t.d→(p*t.a+q*t.b)*siz b=b.c*siz (wS p q)*t.d:=fun t h=>by
  have e:(p*t.a+q*t.b)*siz b=p*siz b*t.a+q*siz b*t.b:=by grind
  rw [e,← hf1,← hf2]
  have e2:b.a*siz (wS p q)*t.a+b.b*siz (wS p q)*t.b=(b.a*t.a+b.b*t.b)*siz (wS p q):=by grind
  rw [e2,h];grind
 rcases line_fit hN hn hS hw hb hf1 hf2 hmax with ⟨j,hj,hd,hfit⟩ | hfit
 ·refine ⟨cnr b j,⟨crn_mem hb hj hd,hfit⟩,key _ ?_⟩
  rw [cnr_val]
  show crs b j*b.c+crs b b*j.c=b.c*crs b j
  unfold crs;grind
 ·refine ⟨foot b,⟨foot_mem hb,hfit⟩,key _ ?_⟩
  show b.a*(b.a*b.c)+b.b*(b.b*b.c)=b.c*sq b
  unfold sq;grind
theorem par_att (hN:¬ Dbt S) (hn:∀ s∈S,s.a≠0∨s.b≠0) (hS:∀ s∈S,∃ o∈S,o.a = -s.a∧o.b = -s.b) (hw:p≠0∨q≠0) {b:Sd} (hb:b∈S) {d e:Int} (hd:0<d) (he:0<e) (h1:p*d=b.a*e) (h2:q*d=b.b*e) (hmax:∀ y∈mstA S p q,y.1.c*d≤e*b.c*y.2) :
 ∃ t,FitC S t∧(p*t.a+q*t.b)*d=e*b.c*t.d:=by
 have hbp:=siz_pos (hn b hb)
 have hs:siz (wS p q)*d=siz b*e:=siz_same (a:=b) (k:=wS p q) (by omega) (by omega) h1 h2
 have can:∀ x y:Int,x*d=y*d→x=y:=fun x y h=>by
  have:=mul_cancel0 (x:=x-y) hd (by rw [Int.sub_mul];omega)
  omega
 have f1:b.a*siz (wS p q)=p*siz b:=can _ _ (by
  have e1:b.a*siz (wS p q)*d=b.a*(siz (wS p q)*d):=by grind
  have e2:p*siz b*d=p*d*siz b:=by grind
  rw [e1,hs,e2,h1];grind)
 have f2:b.b*siz (wS p q)=q*siz b:=can _ _ (by
  have e1:b.b*siz (wS p q)*d=b.b*(siz (wS p q)*d):=by grind
  have e2:q*siz b*d=q*d*siz b:=by grind
  rw [e1,hs,e2,h2];grind)
 obtain ⟨t,ht,hv⟩:=line_att hN hn hS hw hb f1 f2 (fun y hy=>by
  have h3:=Int.mul_le_mul_of_nonneg_right (hmax y hy) (Int.le_of_lt hbp)
  have e1:y.1.c*d*siz b=y.1.c*siz b*d:=by grind
  have e2:e*b.c*y.2*siz b=b.c*(siz b*e)*y.2:=by grind
  rw [e1,e2,← hs] at h3
  have e3:b.c*(siz (wS p q)*d)*y.2=b.c*siz (wS p q)*y.2*d:=by grind
  rw [e3] at h3
  rcases Int.lt_or_le (b.c*siz (wS p q)*y.2) (y.1.c*siz b) with g | g
  ·have:=Int.mul_lt_mul_of_pos_right g hd;omega
  ·exact g)
 refine ⟨t,ht,?_⟩
 have e1:(p*t.a+q*t.b)*d*siz b=(p*t.a+q*t.b)*siz b*d:=by grind
 have e2:e*b.c*t.d*siz b=b.c*(siz b*e)*t.d:=by grind
 have e3:b.c*siz (wS p q)*t.d*d=b.c*(siz (wS p q)*d)*t.d:=by grind
 have e4:(p*t.a+q*t.b)*d*siz b=e*b.c*t.d*siz b:=by rw [e1,hv,e2,← hs,e3]
 have:=mul_cancel0 (x:=(p*t.a+q*t.b)*d-e*b.c*t.d) hbp (by rw [Int.sub_mul];omega)
 omega
theorem att_w (hN:¬ Dbt S) (hn:∀ s∈S,s.a≠0∨s.b≠0) (hS:∀ s∈S,∃ o∈S,o.a = -s.a∧o.b = -s.b) (hw:p≠0∨q≠0) {y:Sd × Int} (hy:y∈mstA S p q) (hmax:∀ z∈mstA S p q,¬ gtM z y):∃ t,FitC S t∧(p*t.a+q*t.b)*y.2=y.1.c*t.d:=by
 have hm:∀ z∈mstA S p q,z.1.c*y.2≤y.1.c*z.2:=fun z hz=>by
  have:=hmax z hz
  unfold gtM at this;omega
 rcases mst_inv hy with ⟨s,hs,hf,h1,h2,h3,h4⟩ | ⟨a,ha,b,hb,hd,hx,hz,h1,h2,h3,h4⟩
 ·have k1:s.a*siz (wS p q)+p * -(siz s)=0:=hf.2.1
  have k2:s.b*siz (wS p q)+q * -(siz s)=0:=hf.2.2
  rw [Int.mul_neg] at k1 k2
  obtain ⟨t,ht,hv⟩:=line_att hN hn hS hw hs (by omega) (by omega) (fun z hz=>by rw [← h1,← h2];exact hm z hz)
  exact ⟨t,ht,by rw [h1,h2];exact hv⟩
 ·rw [h2] at hm
  have la:=lin_a a b (wS p q)
  have lb:=lin_b a b (wS p q)
  have la':p*crs a b=crs (wS p q) b*a.a+crs a (wS p q)*b.a:=la
  have lb':q*crs a b=crs (wS p q) b*a.b+crs a (wS p q)*b.b:=lb
  rcases Int.lt_or_le 0 (crs (wS p q) b) with g1 | g1
  ·rcases Int.lt_or_le 0 (crs a (wS p q)) with g2 | g2
   ·refine ⟨cnr a b,⟨crn_mem ha hb hd,cnr_fit hN hn ha hb hd g1 g2 (fun z hz=>by rw [← h1];exact hm z hz)⟩,?_⟩
    have hv:=cnr_val a b (wS p q)
    have hv':p*(cnr a b).a+q*(cnr a b).b=crs (wS p q) b*a.c+crs a (wS p q)*b.c:=hv
    rw [hv',h1,h2];rfl
   ·have z0:crs a (wS p q)=0:=by omega
    rw [z0,Int.zero_mul,Int.add_zero] at la' lb' h1
    obtain ⟨t,ht,hv⟩:=par_att hN hn hS hw ha hd g1 (by rw [la',Int.mul_comm]) (by rw [lb',Int.mul_comm]) (fun z hz=>by rw [← h1];exact hm z hz)
    exact ⟨t,ht,by rw [h1,h2];exact hv⟩
  ·have z0:crs (wS p q) b=0:=by omega
   rw [z0,Int.zero_mul,Int.zero_add] at la' lb' h1
   have g2:0<crs a (wS p q):=by
    rcases Int.lt_or_le 0 (crs a (wS p q)) with g | g
    ·exact g
    ·have z1:crs a (wS p q)=0:=by omega
     rw [z1,Int.zero_mul] at la' lb'
     rcases hw with h | h
     ·exact absurd (mul_cancel0 hd la') h
     ·exact absurd (mul_cancel0 hd lb') h
   obtain ⟨t,ht,hv⟩:=par_att hN hn hS hw hb hd g2 (by rw [la',Int.mul_comm]) (by rw [lb',Int.mul_comm]) (fun z hz=>by rw [← h1];exact hm z hz)
   exact ⟨t,ht,by rw [h1,h2];exact hv⟩
theorem fit_ex (hN:¬ Dbt S) (hn:∀ s∈S,s.a≠0∨s.b≠0) (hS:∀ s∈S,∃ o∈S,o.a = -s.a∧o.b = -s.b) (h0:S≠[]) (hpos:∀ p q,∀ y∈mstA S p q,0<y.2):∃ t,FitC S t:=by
 obtain ⟨s,hs⟩:=List.exists_mem_of_ne_nil S h0
 have e:siz (wS s.a s.b)=siz s:=rfl
 obtain ⟨y,hy,_⟩:=cand_one (p:=s.a) (q:=s.b) hs ⟨by show s.a*s.b-s.b*s.a=0;rw [Int.mul_comm];omega,by rw [e];show s.a*siz s+s.a * -(siz s)=0;rw [Int.mul_neg];omega,by rw [e];show s.b*siz s+s.b * -(siz s)=0;rw [Int.mul_neg];omega⟩
 obtain ⟨m,hm,hx⟩:=max_frac (fun y:Sd × Int=>y.1.c) (fun y=>y.2) (mstA S s.a s.b) (List.ne_nil_of_mem hy) (hpos _ _)
 obtain ⟨t,ht,_⟩:=att_w hN hn hS (hn s hs) hm (fun z hz=>by have:=hx z hz;unfold gtM;omega)
 exact ⟨t,ht⟩
end
theorem att_ex {l:List Rn} {p q:Int} (h:leE l p q=0) (h0:l≠[]) {y:Sd × Int} (hm:MostI (sds l) p q y):∃ t,FitC (sds l) t∧(p*t.a+q*t.b)*y.2=y.1.c*t.d:=by
 obtain ⟨h1,h2,h3,h4,h5,h6⟩:=leE_ok h
 have hn:=sds_nz h1
 have hS:∀ s∈sds l,∃ o∈sds l,o.a = -s.a∧o.b = -s.b:=fun s hs=>by
  obtain ⟨r,hr,hm⟩:=List.mem_flatMap.1 hs
  have:s=loS r∨s=hiS r:=by simpa using hm
  rcases this with rfl | rfl
  ·exact ⟨hiS r,List.mem_flatMap.2 ⟨r,hr,by simp⟩,rfl,rfl⟩
  ·exact ⟨loS r,List.mem_flatMap.2 ⟨r,hr,by simp⟩,by show r.p = - -r.p;omega,by show r.q = - -r.q;omega⟩
 have hs0:sds l≠[]:=fun e=>by
  have:=sds_len l
  rw [e] at this
  have:=List.length_pos_iff.2 h0
  simp at *;omega
 rcases hm.mem with ⟨rfl,rfl,rfl⟩ | ⟨hpq,hy⟩
 ·obtain ⟨t,ht⟩:=fit_ex h5 hn hS hs0 (fun p q y hy=>by
   obtain ⟨g,hg,hx⟩:=List.mem_flatMap.1 hy
   unfold mstL at hx
   cases e:mstG (sds l) p q g with
   | none=>rw [e] at hx;simp at hx
   | some x =>
    rw [e] at hx
    obtain rfl:y=(tkS (sds l) g x.1 g.length,x.2):=by simpa using hx
    exact mst_pos hn (grp_ok (m:=2) (by omega) hg).1 e)
  exact ⟨t,ht,by simp [sd0]⟩
 ·exact att_w h5 hn hS (by omega) hy (fun z hz=>hm.max z hz hpq)
theorem crn_ok {l:List Rn} (h:OkRs l) {t:Tru} (ht:t∈crnS (sds l)):OkT t:=by
 have hS:=sds_ok h
 have hn:=sds_nz h
 obtain ⟨i,_,hi,hm⟩:=mem_seg.1 ht
 have si:OkS 20 100000 (sAt (sds l) i):=hS _ (getD_mem hi sd0)
 have ni:(sAt (sds l) i).a≠0∨(sAt (sds l) i).b≠0:=hn _ (getD_mem hi sd0)
 have m3:=mul_bd si.a si.c
 have m4:=mul_bd si.b si.c
 have m1:=mul_bd si.a si.a
 have m2:=mul_bd si.b si.b
 have cb:∀ a b:Sd,OkS 20 100000 a→OkS 20 100000 b→0<crs a b→OkT (cnr a b):=fun a b ha hb hd=>by
  have c1:=crs_bd (ha.up (A':=20) (B':=1000000) (by omega) (by omega)) (hb.up (A':=20) (B':=1000000) (by omega) (by omega))
  have n1:=mul_bd ha.c hb.b
  have n2:=mul_bd hb.c ha.b
  have n3:=mul_bd ha.a hb.c
  have n4:=mul_bd hb.a ha.c
  exact ⟨by unfold cnr;dsimp only;omega,by unfold cnr;dsimp only;omega,by unfold cnr;dsimp only;omega⟩
 unfold cI at hm
 rcases List.mem_cons.1 hm with rfl | hm
 ·have:=sq_pos ni
  unfold sq at this
  exact ⟨by unfold foot sq;dsimp only;omega,by unfold foot;dsimp only;omega,by unfold foot;dsimp only;omega⟩
 ·obtain ⟨j,_,hj,hm⟩:=mem_seg.1 hm
  have sj:OkS 20 100000 (sAt (sds l) j):=hS _ (getD_mem (show j<(sds l).length by omega) sd0)
  unfold cJ at hm
  split at hm
  ·simp at hm
  ·rename_i hz
   have ht:t=if crs (sAt (sds l) i) (sAt (sds l) j)<0 then cnr (sAt (sds l) j) (sAt (sds l) i) else cnr (sAt (sds l) i) (sAt (sds l) j):=by simpa using hm
   rw [ht]
   split
   ·exact cb _ _ sj si (by rw [crs_anti];omega)
   ·exact cb _ _ si sj (by omega)
end Go.Proofs.YthoeeeehfkenkaaGreat.Sp
namespace Go.Proofs.YthoeeeehfkenkaaGreat.Sp
open Go Go.TH
attribute [local irreducible] W WO pt
set_option maxRecDepth 10000
set_option maxHeartbeats 2000000
theorem OwE.cellsPr {C:Cx Tryz.prog} {H:List HP} {v:Value} {rl:List Rn} (s:Sub H [OwE encPr 144 10 v rl]) {z:Int} {i:Nat} (hz:z=((i/2:Nat):Int)) (h1:i<2*rl.length):Cells C H (elt v z.toNat 10) (encPr (rl.getD (i/2) rn0)):=by
 subst hz
 cases s with
 | cons p _=>exact OwE.cells encPr_ok p (by omega) rn0
theorem Cell.ownP {C:Cx Tryz.prog} {H H':List HP} {b:Nat} {cs:List Value} {t:TypeId} {fr:Nat × Nat} {j:Nat} {v:Value} (p:Pick (pt b (.cells cs.toArray t fr)) H H') (hv:lget cs j=some v):Cell C H (prt ⟨b,0,none⟩ j) v:=by
 have h:=Cell.own (C:=C) p hv
 have e:prt ⟨b,0,none⟩ j=⟨b,j,none⟩:=by
  rw [prt_eq];unfold Addr.add;simp
  try (intro h0;exact h0.symm)
 rw [e];exact h
theorem c_corners1h (B:Nat) (wr:World) (tb:Nat) (rv sv:Value) (rl:List Rn) (hok:OkRs rl) (h0:0<rl.length) (hl12:rl.length≤12) (last:Nat) (l:Nat) (Hc:Nat→List HP) (hy:∀ k x v,(crnS (sds rl))[k]?=some x→k≤last→YieldB Tryz.prog B wr l #[v] (bl (k<last)) (gT x v::Hc k) (Hc (k+1))) (cb:Nat) (w:World) (M':List Nat) (hB:B≤w.heap.size) (hk:∀ k,k<B→w.heap[k]?=wr.heap[k]?) (hM:∀ b∈M',B≤b)
 (hi:Inv w M' ([pt cb (.cells #[.pointer (some ⟨tb,0,none⟩)] 79 (0,0)),pt tb (.cells #[rv,sv] 142 (0,0)),OwE encPr 144 10 rv rl,OwE encSd 72 3 sv (sds rl)]++Hc 0) w) :
 Ct Tryz.prog 128 ([.func (.yield l) #[] #[],.pointer (some ⟨cb,0,none⟩)]:List Value).toArray w fun _ w'=>Inv w M' ([pt cb (.cells #[.pointer (some ⟨tb,0,none⟩)] 79 (0,0)),pt tb (.cells #[rv,sv] 142 (0,0)),OwE encPr 144 10 rv rl,OwE encSd 72 3 sv (sds rl)]++Hc (min (crnS (sds rl)).length (last+1))) w':=by
 have hsl:=sds_len rl
 have hS:=sds_ok hok
 refine Iter.of mixed tyTab hB hM Tryz.func128 rfl rfl hi (W.seq (W.fact (OwE.sl (enc:=encPr) (e:=144) (sz:=10) (v:=rv) (xs:=rl) (by repeat first | exact .head | apply Pick.tail)) (fun hrsl=>(W.fact (OwE.sl (enc:=encSd) (e:=72) (sz:=3) (v:=sv) (xs:=sds rl) (by repeat first | exact .head | apply Pick.tail)) (fun hssl=>(W.sreg (WO.load rfl rfl (Cell.own Pick.head rfl) rfl (WO.p rfl rfl (WO.field0 rfl rfl rfl ?_)))))))))
 refine' WO.load (v:=_) rfl rfl ?hc rfl ?_
 case hc=>(first | (refine Cell.own (b:=tb) (off:=0) (cs:=[rv,sv]) (by repeat first | exact .head | apply Pick.tail) ?_;rfl))
 refine WO.len rfl rfl hrsl rfl (WO.eqlF rfl rfl (by omega) rfl (WO.p rfl rfl (WO.no rfl rfl (WO.no rfl rfl (WO.no rfl rfl (WO.no rfl rfl (WO.p rfl rfl (WO.nil (W.cond_f rfl (W.skip (W.sreg (WO.load rfl rfl (Cell.own Pick.head rfl) rfl (WO.p rfl rfl (WO.field rfl rfl rfl ?_))))))))))))))
 refine' WO.load (v:=_) rfl rfl ?hc rfl ?_
 case hc=>(first | (refine Cell.ownP (b:=tb) (j:=1) (cs:=[rv,sv]) (by repeat first | exact .head | apply Pick.tail) ?_;rfl))
 refine WO.len rfl rfl hssl rfl (WO.makeEN (z:=sd0) encSd_ok rfl rfl rfl rfl rfl (by omega) (by omega) rfl (fun lb=>(WO.p rfl rfl (WO.nil (W.sreg (WO.p rfl rfl (WO.load rfl rfl (Cell.own (Pick.tail (Pick.head)) rfl) rfl (WO.p rfl rfl (WO.field rfl rfl rfl ?_)))))))))
 refine' WO.load (v:=_) rfl rfl ?hc rfl ?_
 case hc=>(first | (refine Cell.ownP (b:=tb) (j:=1) (cs:=[rv,sv]) (by repeat first | exact .head | apply Pick.tail) ?_;rfl))
 refine WO.copyEN (m:=(sds rl).length) (xs:=List.replicate (sds rl).length sd0) (ys:=sds rl) encSd_ok rfl rfl rfl (by repeat exact .head) hssl (by simp) (by simp;omega) (by simp) (OwC.cells (by repeat first | exact .head | apply Pick.tail)) rfl (WO.nil (W.sreg (WO.p rfl rfl (WO.len rfl rfl (isSl_lit (n:=(sds rl).length) (by omega) (fun _=>⟨_,_,rfl⟩)) rfl (WO.p rfl rfl (WO.nil (W.block ?_)))))))
 rw [show Hc 0=Hc (pI (sds rl) 0) by rw [pI_0]]
 refine W.loop (fun (i:Nat)=>i≤(sds rl).length∧pI (sds rl) i≤last)
  (fun (i:Nat)=>[(39,.int .i64 (i:Int)),(38,.int .i64 ((sds rl).length:Int)),(37,.slice (some ⟨lb,0,none⟩) (sds rl).length (sds rl).length),(3,.slice (some ⟨lb,0,none⟩) (sds rl).length (sds rl).length),(0,.func (.yield l) #[] #[]),(1,.pointer (some ⟨cb,0,none⟩))])
  (fun (i:Nat)=>[pt cb (.cells #[.pointer (some ⟨tb,0,none⟩)] 79 (0,0)),pt tb (.cells #[rv,sv] 142 (0,0)),OwE encPr 144 10 rv rl,OwE encSd 72 3 sv (sds rl),OwE encSd 72 3 (.slice (some ⟨lb,0,none⟩) (sds rl).length (sds rl).length) (sds rl),sat (Hc (pI (sds rl) i))])
  (fun (i:Nat)=>(sds rl).length-i) 0
  (by exact ⟨by omega,by rw [pI_0];omega⟩) ⟨rfl,rfl,rfl,rfl,rfl,rfl,trivial⟩ (by repeat (first | exact Sub.nil | refine Sub.cons (by repeat first | exact .head | apply Pick.tail) ?_)) ?_
 rintro i ⟨hi0,hil⟩
 refine W.sreg (WO.p rfl rfl (WO.nil (W.seq ?_)))
 refine W.cond_bl rfl (fun c1=>?_) (fun c1=>?_)
 ·refine W.skip (W.seq (W.block ?_))
  have si:OkS 20 100000 (sAt (sds rl) i):=hS _ (getD_mem (show i<(sds rl).length by omega) sd0)
  have ri:=hok _ (getD_mem (show i/2<rl.length by omega) rn0)
  have hsq:=sds_sq (l:=rl) (i:=i) (by omega)
  have hq2:((i:Nat):Int).tdiv 2=((i/2:Nat):Int):=rfl
  have m1:=mul_bd (A:=20) (B:=20) ri.1 ri.1
  have m2:=mul_bd (A:=20) (B:=20) ri.2.1 ri.2.1
  have m3:=mul_bd si.a si.c
  have m4:=mul_bd si.b si.c
  refine W.sreg (WO.p rfl rfl (WO.indexAddr rfl rfl rfl (isSl_lit (n:=(sds rl).length) (by omega) (fun _=>⟨_,_,rfl⟩)) (by omega) rfl ?_))
  refine' WO.loadA (vs:=_) rfl rfl ?hc ?hl rfl ?_
  case hc=>(first | (refine OwE.cellsSub (S:=sds rl) (lb:=lb) (e:=72) (i:=(sds rl).length) (j:=i) (n:=(sds rl).length) ?_ ?_;exact Sub.cons (by repeat first | exact .head | apply Pick.tail) Sub.nil;omega))
  case hl=>rfl
  refine WO.alloc rfl rfl rfl (fun b1 hb1=>(WO.p rfl rfl (WO.storeA rfl rfl rfl rfl Pick.head rfl rfl (WO.nil (W.sreg (WO.load rfl rfl (Cell.own (Pick.tail (Pick.head)) rfl) rfl (WO.p rfl rfl (WO.field0 rfl rfl rfl ?_))))))))
  refine' WO.load (v:=_) rfl rfl ?hc rfl ?_
  case hc=>(first | (refine Cell.own (b:=tb) (off:=0) (cs:=[rv,sv]) (by repeat first | exact .head | apply Pick.tail) ?_;rfl))
  refine WO.p rfl rfl (WO.quo rfl rfl (by omega) (by unfold in64;omega) rfl ?_)
  refine' WO.indexAddrZ (n:=_) rfl rfl rfl ?hs ?h00 ?h1 rfl ?_
  case hs=>exact hrsl
  case h00=>omega
  case h1=>(omega)
  refine' WO.loadA (vs:=_) rfl rfl ?hc ?hl rfl ?_
  case hc=>(first | (refine OwE.cellsPr (v:=rv) (i:=i) (rl:=rl) ?_ ?_ ?_;exact Sub.cons (by repeat first | exact .head | apply Pick.tail) Sub.nil;omega;omega))
  case hl=>rfl
  refine WO.alloc rfl rfl rfl (fun b2 hb2=>(WO.storeA rfl rfl rfl rfl Pick.head rfl rfl (WO.nil (W.sreg (WO.field0 rfl rfl rfl (WO.field0 rfl rfl rfl (WO.load rfl rfl (Cell.own Pick.head rfl) rfl (WO.field0 rfl rfl rfl (WO.field0 rfl rfl rfl (WO.load rfl rfl (Cell.own Pick.head rfl) rfl (WO.ar rfl rfl rfl (by unfold in64;omega) rfl (WO.field0 rfl rfl rfl (WO.fieldL rfl rfl rfl (WO.load rfl rfl (Cell.own Pick.head rfl) rfl (WO.field0 rfl rfl rfl (WO.fieldL rfl rfl rfl (WO.load rfl rfl (Cell.own Pick.head rfl) rfl (WO.ar rfl rfl rfl (by unfold in64;omega) rfl (WO.ar rfl rfl rfl (by unfold in64;omega) rfl (WO.p rfl rfl (WO.nil (W.seq (W.sreg ?_)))))))))))))))))))))))
  refine WO.p rfl rfl (WO.indexArrL (o':=0) rfl rfl rfl (by decide) rfl rfl (WO.load rfl rfl (Cell.own (Pick.tail (Pick.head)) rfl) rfl (WO.indexArrL (o':=2) rfl rfl rfl (by decide) rfl rfl (WO.load rfl rfl (Cell.own (Pick.tail (Pick.head)) rfl) rfl (WO.ar rfl rfl rfl (by unfold in64;omega) rfl (WO.indexArrL (o':=1) rfl rfl rfl (by decide) rfl rfl (WO.load rfl rfl (Cell.own (Pick.tail (Pick.head)) rfl) rfl (WO.indexArrL (o':=2) rfl rfl rfl (by decide) rfl rfl (WO.load rfl rfl (Cell.own (Pick.tail (Pick.head)) rfl) rfl (WO.ar rfl rfl rfl (by unfold in64;omega) rfl (WO.p rfl rfl (WO.build rfl rfl rfl rfl rfl ?_))))))))))))
  refine WO.chg (gT_in (x:=foot (sAt (sds rl) i)) rfl rfl hsq) (WO.yieldB (go:=bl (pI (sds rl) i<last)) rfl rfl (by repeat exact .head) (by repeat first | exact .head | apply Pick.tail) (((hy _ _ _ (crn_foot (by omega)) (by omega)).one).agree hk) rfl ?_)
  have hget:=(List.getElem?_eq_some_iff.1 (crn_foot (S:=sds rl) (i:=i) (by omega))).1
  refine WO.p rfl rfl (WO.nil ?_)
  refine W.cond_nbl rfl (fun c2=>?_) (fun c2=>?_)
  ·refine W.ret (fin.ret (Res.none rfl) ?_)
   rw [show min (crnS (sds rl)).length (last+1)=pI (sds rl) i+1 by omega]
   repeat (first | exact Sub.nil | refine Sub.cons (by repeat first | exact .head | apply Pick.tail) ?_)
  ·refine W.skip (W.sreg (WO.p rfl rfl (WO.p rfl rfl (WO.slSl (lo:=0) (hi:=i) (mx:=(sds rl).length) rfl rfl bnd.no (bnd.at rfl) bnd.no (by simp) (by omega) (by omega) (by omega) rfl ?_))))
   rw [sub0v]
   refine WO.len rfl rfl (isSl_lit (n:=i) (by omega) (fun _=>⟨_,_,rfl⟩)) rfl (WO.p rfl rfl (WO.nil (W.block ?_)))
   rw [show pI (sds rl) i+1=pJ (sds rl) i 0 from pJ_0.symm]
   refine W.loop (fun (j:Nat)=>j≤i∧pJ (sds rl) i j≤last)
    (fun (j:Nat)=>[(86,.int .i64 (j:Int)),(85,.int .i64 (i:Int)),(84,.slice (some ⟨lb,0,none⟩) i (sds rl).length),(39,.int .i64 (i:Int)),(38,.int .i64 ((sds rl).length:Int)),(37,.slice (some ⟨lb,0,none⟩) (sds rl).length (sds rl).length),(3,.slice (some ⟨lb,0,none⟩) (sds rl).length (sds rl).length),(5,.pointer (some ⟨b1,0,none⟩)),(0,.func (.yield l) #[] #[]),(1,.pointer (some ⟨cb,0,none⟩))])
    (fun (j:Nat)=>[pt b1 (.cells #[.int .i64 (sAt (sds rl) i).a,.int .i64 (sAt (sds rl) i).b,.int .i64 (sAt (sds rl) i).c] 72 (0,0)),pt cb (.cells #[.pointer (some ⟨tb,0,none⟩)] 79 (0,0)),pt tb (.cells #[rv,sv] 142 (0,0)),OwE encPr 144 10 rv rl,OwE encSd 72 3 sv (sds rl),OwE encSd 72 3 (.slice (some ⟨lb,0,none⟩) (sds rl).length (sds rl).length) (sds rl),sat (Hc (pJ (sds rl) i j))])
    (fun (j:Nat)=>i-j) 0
    (by exact ⟨by omega,by rw [pJ_0];omega⟩) ⟨rfl,rfl,rfl,rfl,rfl,rfl,rfl,rfl,rfl,rfl,trivial⟩ (by repeat (first | exact Sub.nil | refine Sub.cons (by repeat first | exact .head | apply Pick.tail) ?_)) ?_
   rintro j ⟨hj0,hjl⟩
   refine W.sreg (WO.p rfl rfl (WO.nil (W.seq ?_)))
   refine W.cond_bl rfl (fun c3=>?_) (fun c3=>?_)
   ·refine W.skip (W.seq (W.block (W.sreg (WO.indexAddr rfl rfl rfl (isSl_lit (n:=i) (by omega) (fun _=>⟨_,_,rfl⟩)) (by omega) rfl ?_))))
    refine' WO.loadA (vs:=_) rfl rfl ?hc ?hl rfl ?_
    case hc=>(first | (refine OwE.cellsSub (S:=sds rl) (lb:=lb) (e:=72) (i:=i) (j:=j) (n:=(sds rl).length) ?_ ?_;exact Sub.cons (by repeat first | exact .head | apply Pick.tail) Sub.nil;omega))
    case hl=>rfl
    refine WO.alloc rfl rfl rfl (fun b3 hb3=>(WO.storeA rfl rfl rfl rfl Pick.head rfl rfl (WO.nil ?_)))
    have sj:OkS 20 100000 (sAt (sds rl) j):=hS _ (getD_mem (show j<(sds rl).length by omega) sd0)
    have c1:=crs_bd (si.up (A':=20) (B':=1000000) (by omega) (by omega)) (sj.up (A':=20) (B':=1000000) (by omega) (by omega))
    have n1:=mul_bd si.c sj.b
    have n2:=mul_bd sj.c si.b
    have n3:=mul_bd si.a sj.c
    have n4:=mul_bd sj.a si.c
    refine W.sreg (WO.loadA rfl rfl (Cells.own (Pick.tail (Pick.head))) rfl rfl (WO.loadA rfl rfl (Cells.own Pick.head) rfl rfl (WO.callR rfl Tryz.call129 (fun L w hi=>c_cross w (sAt (sds rl) i) (sAt (sds rl) j) (si.up (by omega) (by omega)) (sj.up (by omega) (by omega))) rfl (WO.p rfl rfl (WO.nil (W.seq ?_))))))
    refine W.drawD 23 [.r 0 [],.b 1 [],.r 2 [],.b 3 [],.r 4 [],.r 5 [],.b 6 [],.r 7 [],.b 8 [],.r 9 [],.r 10 [],.r 11 [],.b 12 [],.r 13 [],.b 14 [],.r 15 [],.r 16 [],.b 17 [],.r 18 [],.b 19 [],.r 20 [],.r 21 [],.r 22 []] [] (A0:=[]) (Sub.refl _) (by kernel_rfl) ?_ ?_
    ·repeat constructor
    refine DT.r rfl rfl rfl (WO.indexArrL (o':=2) rfl rfl rfl (by decide) rfl rfl (WO.nil ⟨rfl,rfl⟩)) (DT.b rfl rfl rfl (WO.load rfl rfl (Cell.own (Pick.tail (Pick.head)) rfl) rfl (WO.nil ⟨rfl,rfl⟩)) (DT.r rfl rfl rfl (WO.indexArrL (o':=1) rfl rfl rfl (by decide) rfl rfl (WO.nil ⟨rfl,rfl⟩)) (DT.b rfl rfl rfl (WO.load rfl rfl (Cell.own Pick.head rfl) rfl (WO.nil ⟨rfl,rfl⟩)) (DT.r rfl rfl rfl (WO.ar rfl rfl rfl (by unfold in64;omega) rfl (WO.nil ⟨rfl,rfl⟩)) (DT.r rfl rfl rfl (WO.indexArrL (o':=2) rfl rfl rfl (by decide) rfl rfl (WO.nil ⟨rfl,rfl⟩)) (DT.b rfl rfl rfl (WO.load rfl rfl (Cell.own Pick.head rfl) rfl (WO.nil ⟨rfl,rfl⟩)) ?_))))))
    refine DT.r rfl rfl rfl (WO.indexArrL (o':=1) rfl rfl rfl (by decide) rfl rfl (WO.nil ⟨rfl,rfl⟩)) (DT.b rfl rfl rfl (WO.load rfl rfl (Cell.own (Pick.tail (Pick.head)) rfl) rfl (WO.nil ⟨rfl,rfl⟩)) (DT.r rfl rfl rfl (WO.ar rfl rfl rfl (by unfold in64;omega) rfl (WO.nil ⟨rfl,rfl⟩)) (DT.r rfl rfl rfl (WO.ar rfl rfl rfl (by unfold in64;omega) rfl (WO.nil ⟨rfl,rfl⟩)) (DT.r rfl rfl rfl (WO.indexArrL (o':=0) rfl rfl rfl (by decide) rfl rfl (WO.nil ⟨rfl,rfl⟩)) (DT.b rfl rfl rfl (WO.load rfl rfl (Cell.own (Pick.tail (Pick.head)) rfl) rfl (WO.nil ⟨rfl,rfl⟩)) (DT.r rfl rfl rfl (WO.indexArrL (o':=2) rfl rfl rfl (by decide) rfl rfl (WO.nil ⟨rfl,rfl⟩)) ?_))))))
    refine DT.b rfl rfl rfl (WO.load rfl rfl (Cell.own Pick.head rfl) rfl (WO.nil ⟨rfl,rfl⟩)) (DT.r rfl rfl rfl (WO.ar rfl rfl rfl (by unfold in64;omega) rfl (WO.nil ⟨rfl,rfl⟩)) (DT.r rfl rfl rfl (WO.indexArrL (o':=0) rfl rfl rfl (by decide) rfl rfl (WO.nil ⟨rfl,rfl⟩)) (DT.b rfl rfl rfl (WO.load rfl rfl (Cell.own Pick.head rfl) rfl (WO.nil ⟨rfl,rfl⟩)) (DT.r rfl rfl rfl (WO.indexArrL (o':=2) rfl rfl rfl (by decide) rfl rfl (WO.nil ⟨rfl,rfl⟩)) (DT.b rfl rfl rfl (WO.load rfl rfl (Cell.own (Pick.tail (Pick.head)) rfl) rfl (WO.nil ⟨rfl,rfl⟩)) (DT.r rfl rfl rfl (WO.ar rfl rfl rfl (by unfold in64;omega) rfl (WO.nil ⟨rfl,rfl⟩)) ?_))))))
    refine DT.r rfl rfl rfl (WO.ar rfl rfl rfl (by unfold in64;omega) rfl (WO.nil ⟨rfl,rfl⟩)) (DT.r rfl rfl rfl (WO.p rfl rfl (WO.nil ⟨rfl,rfl⟩)) (DT.nil [_,_,_,_,_,_,_,_] rfl (WO.p rfl rfl (WO.nil (W.seq (W.sreg (WO.p rfl rfl (WO.p rfl rfl (WO.nil ?_)))))))))
    refine W.cond_bl rfl (fun c4=>?_) (fun c4=>?_)
    ·refine W.region (WO.p rfl rfl (WO.neg rfl (by unfold in64;omega) rfl (WO.p rfl rfl (WO.neg rfl (by unfold in64;omega) rfl (WO.p rfl rfl (WO.neg rfl (by unfold in64;omega) rfl (WO.p rfl rfl (WO.p rfl rfl (WO.p rfl rfl (WO.nil (W.sreg (WO.p rfl rfl (WO.p rfl rfl (WO.p rfl rfl ?_))))))))))))))
     refine WO.guard_bl rfl rfl (fun c5=>?_) (fun c5=>?_)
     ·refine WO.pg rfl rfl rfl (WO.pg rfl rfl rfl (WO.pg rfl rfl rfl (WO.pg rfl rfl rfl (WO.go' rfl (WO.build rfl rfl rfl rfl rfl (WO.go' rfl ?_))))))
      (have hcj:=cJ_n (S:=sds rl) (i:=i) (j:=j) (by assumption);refine WO.chg (gT_in (x:=cnr (sAt (sds rl) j) (sAt (sds rl) i)) (a := -((sAt (sds rl) i).c*(sAt (sds rl) j).b-(sAt (sds rl) j).c*(sAt (sds rl) i).b)) (b := -((sAt (sds rl) i).a*(sAt (sds rl) j).c-(sAt (sds rl) j).a*(sAt (sds rl) i).c)) (d := -crs (sAt (sds rl) i) (sAt (sds rl) j)) (by show _=(sAt (sds rl) j).c*(sAt (sds rl) i).b-(sAt (sds rl) i).c*(sAt (sds rl) j).b;omega) (by show _=(sAt (sds rl) j).a*(sAt (sds rl) i).c-(sAt (sds rl) i).a*(sAt (sds rl) j).c;omega) (by show _=crs (sAt (sds rl) j) (sAt (sds rl) i);rw [crs_anti (sAt (sds rl) i) (sAt (sds rl) j)])) ?_;refine WO.yieldB (go:=bl (pJ (sds rl) i j<last)) rfl rfl (by repeat exact .head) (by repeat first | exact .head | apply Pick.tail) (((hy _ _ _ (crn_at (by omega) (by omega) hcj) (by omega)).one).agree hk) rfl ?_)
      have hget:=(List.getElem?_eq_some_iff.1 (crn_at (S:=sds rl) (i:=i) (j:=j) (by omega) (by omega) hcj)).1
      refine WO.pg rfl rfl rfl (WO.p rfl rfl (WO.nil ?_))
      refine W.cond_nbl rfl (fun c6=>?_) (fun c6=>?_)
      ·refine W.ret (fin.ret (Res.none rfl) ?_)
       rw [show min (crnS (sds rl)).length (last+1)=pJ (sds rl) i j+1 by omega]
       repeat (first | exact Sub.nil | refine Sub.cons (by repeat first | exact .head | apply Pick.tail) ?_)
      ·refine W.skip ?_
       (rw [show pJ (sds rl) i j+1=pJ (sds rl) i (j+1) by rw [pJ_succ,hcj];rfl];have hnx2:pJ (sds rl) i (j+1)≤last:=by rw [pJ_succ,hcj];show pJ (sds rl) i j+1≤last;omega)
       refine W.region (WO.ar rfl rfl rfl (by unfold in64;omega) rfl (WO.p rfl rfl (WO.nil ?_)))
       refine' ⟨j+1,?hp,?hmu,⟨rfl,rfl,rfl,rfl,rfl,rfl,rfl,rfl,rfl,rfl,trivial⟩,?hS⟩
       case hS=>repeat (first | exact Sub.nil | refine Sub.cons (by repeat first | exact .head | apply Pick.tail) ?_)
       case hp=>exact ⟨by omega,hnx2⟩
       case hmu=>omega
     ·exfalso;omega
    ·refine W.skip (W.sreg (WO.p rfl rfl (WO.p rfl rfl (WO.p rfl rfl ?_))))
     refine WO.guard_bl rfl rfl (fun c7=>?_) (fun c7=>?_)
     ·refine WO.pg rfl rfl rfl (WO.pg rfl rfl rfl (WO.pg rfl rfl rfl (WO.pg rfl rfl rfl (WO.go' rfl (WO.build rfl rfl rfl rfl rfl (WO.go' rfl ?_))))))
      (have hcj:=cJ_p (S:=sds rl) (i:=i) (j:=j) (by assumption);refine WO.chg (gT_in (x:=cnr (sAt (sds rl) i) (sAt (sds rl) j)) rfl rfl rfl) ?_;refine WO.yieldB (go:=bl (pJ (sds rl) i j<last)) rfl rfl (by repeat exact .head) (by repeat first | exact .head | apply Pick.tail) (((hy _ _ _ (crn_at (by omega) (by omega) hcj) (by omega)).one).agree hk) rfl ?_)
      have hget:=(List.getElem?_eq_some_iff.1 (crn_at (S:=sds rl) (i:=i) (j:=j) (by omega) (by omega) hcj)).1
      refine WO.pg rfl rfl rfl (WO.p rfl rfl (WO.nil ?_))
      refine W.cond_nbl rfl (fun c8=>?_) (fun c8=>?_)
      ·refine W.ret (fin.ret (Res.none rfl) ?_)
       rw [show min (crnS (sds rl)).length (last+1)=pJ (sds rl) i j+1 by omega]
       repeat (first | exact Sub.nil | refine Sub.cons (by repeat first | exact .head | apply Pick.tail) ?_)
      ·refine W.skip ?_
       (rw [show pJ (sds rl) i j+1=pJ (sds rl) i (j+1) by rw [pJ_succ,hcj];rfl];have hnx2:pJ (sds rl) i (j+1)≤last:=by rw [pJ_succ,hcj];show pJ (sds rl) i j+1≤last;omega)
       refine W.region (WO.ar rfl rfl rfl (by unfold in64;omega) rfl (WO.p rfl rfl (WO.nil ?_)))
       refine' ⟨j+1,?hp,?hmu,⟨rfl,rfl,rfl,rfl,rfl,rfl,rfl,rfl,rfl,rfl,trivial⟩,?hS⟩
       case hS=>repeat (first | exact Sub.nil | refine Sub.cons (by repeat first | exact .head | apply Pick.tail) ?_)
       case hp=>exact ⟨by omega,hnx2⟩
       case hmu=>omega
     ·refine WO.no rfl rfl (WO.no rfl rfl (WO.no rfl rfl (WO.no rfl rfl (WO.no rfl rfl (WO.no rfl rfl (WO.no rfl rfl (WO.p rfl rfl (WO.nil (W.cond_f rfl (W.skip ?_))))))))))
      (have hz:=cJ_z (S:=sds rl) (i:=i) (j:=j) (by omega);rw [show pJ (sds rl) i j=pJ (sds rl) i (j+1) by rw [pJ_succ,hz];rfl] at hjl ⊢;have hnx2:=hjl)
      refine W.region (WO.ar rfl rfl rfl (by unfold in64;omega) rfl (WO.p rfl rfl (WO.nil ?_)))
      refine' ⟨j+1,?hp,?hmu,⟨rfl,rfl,rfl,rfl,rfl,rfl,rfl,rfl,rfl,rfl,trivial⟩,?hS⟩
      case hS=>repeat (first | exact Sub.nil | refine Sub.cons (by repeat first | exact .head | apply Pick.tail) ?_)
      case hp=>exact ⟨by omega,hnx2⟩
      case hmu=>omega
   ·refine W.exit (blk_same ?_)
    obtain rfl:i=j:=by omega
    rw [← pI_succ] at hjl ⊢
    have hnx:=hjl
    refine W.region (WO.ar rfl rfl rfl (by unfold in64;omega) rfl (WO.p rfl rfl (WO.nil ?_)))
    refine' ⟨i+1,?hp,?hmu,⟨rfl,rfl,rfl,rfl,rfl,rfl,trivial⟩,?hS⟩
    case hS=>repeat (first | exact Sub.nil | refine Sub.cons (by repeat first | exact .head | apply Pick.tail) ?_)
    case hp=>exact ⟨by omega,hnx⟩
    case hmu=>omega
 ·refine W.exit (blk_same ?_)
  obtain rfl:(sds rl).length=i:=by omega
  refine fin.normal (Res.none rfl) ?_
  rw [crnS_len,show min (pI (sds rl) (sds rl).length) (last+1)=pI (sds rl) (sds rl).length by omega]
  repeat (first | exact Sub.nil | refine Sub.cons (by repeat first | exact .head | apply Pick.tail) ?_)
end Go.Proofs.YthoeeeehfkenkaaGreat.Sp
namespace Go.Proofs.YthoeeeehfkenkaaGreat.Sp
open Go Go.TH
theorem gcd2_int (n:Int) {d:Int} (hd:0<d):gcd2 (ab n) d=(Int.gcd n d:Int):=by
 unfold gcd2 Int.gcd
 have h1:(ab n).toNat=n.natAbs:=by unfold ab;omega
 have h2:d.toNat=d.natAbs:=by omega
 rw [h1,h2]
theorem red_cop (n:Int) {d:Int} (hd:0<d):Int.gcd (red n d).1 (red n d).2=1:=by
 have hg:=gcd2_int n hd
 have hp:0<Int.gcd n d:=by
  have:=gcd2_pos (a:=ab n) hd
  rw [hg] at this;omega
 obtain ⟨x,hx⟩:=Int.gcd_dvd_left (a:=n) (b:=d)
 obtain ⟨y,hy⟩:=Int.gcd_dvd_right (a:=n) (b:=d)
 have e:red n d=(n/(Int.gcd n d:Int),d/(Int.gcd n d:Int)):=by
  unfold red
  rw [hg,Int.tdiv_eq_ediv_of_dvd ⟨x,hx⟩,Int.tdiv_eq_ediv_of_dvd ⟨y,hy⟩]
 rw [e]
 exact Int.gcd_ediv_gcd_ediv_gcd hp
theorem cop_dvd {a b c x:Int} (hg:Int.gcd a b=1) (h:a*c=x*b):b∣c:=by
 have n1:a.natAbs*c.natAbs=x.natAbs*b.natAbs:=by rw [← Int.natAbs_mul,← Int.natAbs_mul,h]
 have k:b.natAbs∣a.natAbs*c.natAbs:=by rw [n1];exact Nat.dvd_mul_left _ _
 have hc:Nat.Coprime b.natAbs a.natAbs:=by
  have:Nat.gcd a.natAbs b.natAbs=1:=hg
  rw [Nat.gcd_comm] at this
  exact this
 exact Int.natAbs_dvd_natAbs.1 (hc.dvd_of_dvd_mul_left k)
theorem red_eqZ {n d m e:Int} (hd:0<d) (he:0<e) (h:n*e=m*d):red n d=red m e:=by
 obtain ⟨g,hg,h1,h2,h3,_⟩:=red_parts n hd
 obtain ⟨k,hk,h4,h5,h6,_⟩:=red_parts m he
 have c1:=red_cop n hd
 have c2:=red_cop m he
 generalize red n d=u at *
 generalize red m e=v at *
 have hx:u.1*v.2=v.1*u.2:=by
  have e1:(u.1*v.2)*(g*k)=(v.1*u.2)*(g*k):=by
   have:n*e=u.1*g*(v.2*k):=by rw [h1,h5]
   have:m*d=v.1*k*(u.2*g):=by rw [h4,h2]
   grind
  exact Int.eq_of_mul_eq_mul_right (Int.ne_of_gt (Int.mul_pos hg hk)) e1
 have d1:u.2∣v.2:=cop_dvd c1 hx
 have d2:v.2∣u.2:=cop_dvd c2 hx.symm
 have e2:u.2=v.2:=Int.le_antisymm (Int.le_of_dvd h6 d1) (Int.le_of_dvd h3 d2)
 rw [e2] at hx
 have e1:u.1=v.1:=Int.eq_of_mul_eq_mul_right (by omega) hx
 exact Prod.ext e1 e2
end Go.Proofs.YthoeeeehfkenkaaGreat.Sp
namespace Go.Proofs.YthoeeeehfkenkaaGreat.Sp
open Go Go.TH
attribute [local irreducible] W WO pt
set_option maxRecDepth 10000
set_option maxHeartbeats 4000000
theorem eq36 (x y:Int × Int):EqT Tryz.prog .eql 39 (raV x) (raV y) (.bool (bl (x=y))):=by
 intro a b w
 have e:bl (x=y)=bl (x.1=y.1∧x.2=y.2):=by
  rw [bl_eq,bl_eq,decide_eq_decide];exact ⟨fun h=>by subst h;exact ⟨rfl,rfl⟩,fun h=>Prod.ext h.1 h.2⟩
 rw [e]
 simp [go_sem,Tryz.eqGuardType39,Tryz.underlying39]
 by_cases h1:x.1=y.1 <;> by_cases h2:x.2=y.2 <;> simp [h1,h2,bl_eq]
def attP (l:List Rn) (p q:Int) (r:Int × Int) (t:Tru):Bool:=decide (fitL l t∧red (p*t.a+q*t.b) t.d=r)
def attH (l:List Rn) (p q:Int) (r:Int × Int):Nat:=(crnS (sds l)).findIdx (attP l p q r)
def AttR (l:List Rn) (p q:Int) (v:Value):Prop:=∃ t:Tru,v=.tuple #[truV t,.int .i64 (leE l p q)]∧(leE l p q=0→OkT t∧fitL l t∧∃ y,MostI (sds l) p q y∧(p*t.a+q*t.b)*y.2=y.1.c*t.d)
theorem att_hit {l:List Rn} {p q:Int} (h:leE l p q=0) (h0:l≠[]) {y:Sd × Int} (hm:MostI (sds l) p q y):attH l p q (red y.1.c y.2)<(crnS (sds l)).length:=by
 obtain ⟨h1,h2,h3,h4,h5,h6⟩:=leE_ok h
 obtain ⟨t,ht,hv⟩:=att_ex h h0 hm
 refine List.findIdx_lt_length.2 ⟨t,ht.1,?_⟩
 unfold attP
 rw [decide_eq_true_eq]
 exact ⟨fitL_iff.2 ht.2,red_eqZ (by have:=(crn_ok h1 ht.1).d;omega) (hm.ok h1 h3 h4).t.1 hv⟩
def oT (c:Prop) [Decidable c] (x:Tru):Tru:=if c then ⟨0,0,0⟩ else x
def tr0:Tru:=⟨0,0,0⟩
theorem oT_t {c:Prop} [Decidable c] {x:Tru} (h:c):oT c x=⟨0,0,0⟩:=if_pos h
theorem oT_f {c:Prop} [Decidable c] {x:Tru} (h:¬ c):oT c x=x:=if_neg h
theorem fit0 {l:List Rn} {t:Tru} (h:OkRs l) (hl:l.length≤12) (ht:OkT t):chkFit l t=0↔fitL l t:=by
 have h0:chkRs l=0:=chkRs0.2 ⟨hl,h⟩
 unfold chkFit
 rw [if_neg (by omega),if_pos ht]
 split
 ·simp_all
 ·simp_all
theorem red_inj {n d m e:Int} (hd:0<d) (he:0<e) (h:red n d=red m e):n*e=m*d:=by
 have h1:=(red_lt (n:=n) (m:=m) hd he)
 have h2:=(red_lt (n:=m) (m:=n) he hd)
 rw [h] at h1 h2
 have h3:¬ n*e<m*d:=fun q=>by have:=h1.2 q;omega
 have h4:¬ m*d<n*e:=fun q=>by have:=h2.2 q;omega
 omega
theorem att_at {l:List Rn} {p q:Int} {r:Int × Int} (h:attH l p q r<(crnS (sds l)).length):(crnS (sds l)).getD (attH l p q r) tr0∈crnS (sds l)∧fitL l ((crnS (sds l)).getD (attH l p q r) tr0)∧red (p*((crnS (sds l)).getD (attH l p q r) tr0).a+q*((crnS (sds l)).getD (attH l p q r) tr0).b) ((crnS (sds l)).getD (attH l p q r) tr0).d=r:=by
 have e:(crnS (sds l)).getD (attH l p q r) tr0=(crnS (sds l))[attH l p q r]:=by rw [List.getD_eq_getElem?_getD,List.getElem?_eq_getElem h];rfl
 rw [e]
 have:=of_decide_eq_true (List.findIdx_getElem (w:=h):attP l p q r _=true)
 exact ⟨List.getElem_mem _,this⟩
theorem c_Attain (w:World) (v:Value) (l:List Rn) (p q:Int) (h0:l≠[]) (hR:RdF encRn 4 w.heap.size w v l):RetE Tryz.prog 25 [v,.int .i64 p,.int .i64 q].toArray w (AttR l p q):=by
 refine RetE.of mixed tyTab Tryz.func25 rfl rfl ?_
 replace hR:RdF encRn 4 (fnCx mixed tyTab Tryz.f25.ntmps w).B (fnCx mixed tyTab Tryz.f25.ntmps w).w0 v l:=hR
 have hoc:=hR.sl.oc
 refine W.sreg (WO.box1 rfl (by assumption) rfl (fun b1 hb1=>(WO.box1 rfl (by rfl) rfl (fun b2 hb2=>(WO.box1 rfl (by rfl) rfl (fun b3 hb3=>(WO.alloc rfl rfl rfl (fun b4 hb4=>(WO.alloc rfl rfl rfl (fun b5 hb5=>(WO.nil (W.sreg (WO.load rfl rfl (Cell.own (Pick.tail (Pick.tail (Pick.tail (Pick.tail (Pick.head))))) rfl) rfl (WO.load rfl rfl (Cell.own (Pick.tail (Pick.tail (Pick.tail (Pick.head)))) rfl) rfl (WO.load rfl rfl (Cell.own (Pick.tail (Pick.tail (Pick.head))) rfl) rfl (WO.callE rfl Tryz.call26 (fun L w hi=>c_best w v l p q (hR.later hi)) rfl ?_))))))))))))))))
 rintro _ ⟨mq,ms,mt,rfl,hms⟩
 refine WO.p rfl rfl (WO.p rfl rfl (WO.p rfl rfl (WO.alloc rfl rfl rfl (fun b6 hb6=>(WO.storeA rfl rfl rfl rfl Pick.head rfl rfl (WO.p rfl rfl (WO.nil (W.seq (W.sreg (WO.p rfl rfl (WO.p rfl rfl (WO.nil ?_))))))))))))
 refine W.cond_bl rfl (fun c1=>?_) (fun c1=>?_)
 ·refine W.sreg (WO.build rfl rfl rfl rfl rfl (WO.p rfl rfl (WO.storeA rfl rfl rfl rfl (Pick.tail (Pick.tail (Pick.head))) rfl rfl (WO.store1 rfl rfl rfl (by rfl) (Pick.tail (Pick.tail (Pick.head))) rfl (WO.nil (W.ret ?_))))))
  exact fin.ret (Res.two rfl (RV.cell rfl rfl rfl (Cells.own (by repeat first | exact .head | apply Pick.tail))) (RV.cell1 rfl rfl (Cell.own (by repeat exact .head) rfl))) ⟨tr0,rfl,fun e=>by omega⟩
 ·refine W.skip ?_
  have hle0:leE l p q=0:=by omega
  have hls:=leE_ok hle0
  have hm:=hms hle0
  have hmo:=hm.ok hls.1 hls.2.2.1 hls.2.2.2.1
  have hlt:=att_hit hle0 h0 hm
  refine W.sreg (WO.loadA rfl rfl (Cells.own Pick.head) rfl rfl (WO.callR rfl Tryz.call27 (fun L w hi=>c_boundQ w mq ms mt hmo) rfl (WO.alloc rfl rfl rfl (fun b7 hb7=>(WO.storeA rfl rfl rfl rfl Pick.head rfl rfl (WO.nil (W.seq (W.sreg (WO.load rfl rfl (Cell.own (Pick.tail (Pick.tail (Pick.tail (Pick.tail (Pick.tail (Pick.tail (Pick.head))))))) rfl) rfl (WO.call (Post:=fun u Hq=>∃ (b:Nat) (rv sv:Value),u=.pointer (some ⟨b,0,none⟩)∧Hq=[pt b (.cells #[rv,sv] 142 (0,0)),OwE encPr 144 10 rv l,OwE encSd 72 3 sv (sds l)]) rfl Tryz.call29 (fun L w hi=>c_newTable w v l (hR.later hi) hls.1 hls.2.1) rfl ?_))))))))))
  rintro _ _ ⟨tb,rv,sv,rfl,rfl⟩
  refine WO.call (Post:=fun u Hq=>∃ b1,u=.func (.func 128) #[] #[.pointer (some ⟨b1,0,none⟩)]∧Hq=[pt b1 (.cells #[.pointer (some ⟨tb,0,none⟩)] 79 (0,0))]) rfl Tryz.call69 (fun L w hi=>c_corners w ⟨tb,0,none⟩) rfl ?_
  rintro _ _ ⟨cb,rfl,rfl⟩
  refine WO.nil (W.block ?_)
  refine W.rangeFuncB (Jmp.ret) [pt cb (.cells #[.pointer (some ⟨tb,0,none⟩)] 79 (0,0)),pt tb (.cells #[rv,sv] 142 (0,0)),OwE encPr 144 10 rv l,OwE encSd 72 3 sv (sds l)] (fun t=>[pt b4 (.cells #[.int .i64 (oT (t≤(attH l p q (red ms.c mt))) ((crnS (sds l)).getD (attH l p q (red ms.c mt)) tr0)).a,.int .i64 (oT (t≤(attH l p q (red ms.c mt))) ((crnS (sds l)).getD (attH l p q (red ms.c mt)) tr0)).b,.int .i64 (oT (t≤(attH l p q (red ms.c mt))) ((crnS (sds l)).getD (attH l p q (red ms.c mt)) tr0)).d] 45 (0,0)),pt b5 (.cells #[.int .i64 0] 25 (0,0)),pt b7 (.cells #[.int .i64 (red ms.c mt).1,.int .i64 (red ms.c mt).2] 39 (0,0)),pt b3 (.cells #[.int .i64 q] 2 (0,0)),pt b2 (.cells #[.int .i64 p] 2 (0,0)),pt b1 (.cells #[v] 28 (0,0))]) (crnS (sds l)) (fun x1 v1=>gT x1 v1) ((attH l p q (red ms.c mt))) rfl rfl rfl Tryz.call128 (by repeat (first | exact Sub.nil | refine Sub.cons (by repeat first | exact .head | apply Pick.tail) ?_)) ?_ ?_ ?_ ?_
  ·intro ll Hc hy w1 M1 hB1 hk1 hM1 hi1
   exact c_corners1h _ _ tb rv sv l hls.1 (List.length_pos_iff.2 h0) hls.2.1 _ ll Hc hy cb w1 M1 hB1 hk1 hM1 hi1
  ·intro ll w1 M1 hB1 hM1 hk1 t x1 v1 hx hle1
   have hxo:=crn_ok hls.1 (List.mem_of_getElem? hx)
   have m1:=mul_bd (A:=20) (B:=1099511627776) hls.2.2.1 hxo.a
   have m2:=mul_bd (A:=20) (B:=1099511627776) hls.2.2.2.1 hxo.b
   have m3:=hxo.d
   replace hR:=hR.agree hk1
   rw [oT_t hle1]
   refine W.fact (gT_val (x:=x1) (v:=v1) (Sub.cons (by repeat exact .head) Sub.nil)) (fun hvv=>?_)
   subst hvv
   refine W.region (WO.alloc rfl rfl rfl (fun b8 hb8=>(WO.storeA rfl rfl rfl rfl Pick.head rfl rfl (WO.nil (W.block (W.seq ?_))))))
   refine W.drawD 18 [.b 0 [],.b 1 [],.b 2 [],.r 3 [],.r 4 [],.b 5 [],.r 6 [],.b 7 [],.r 8 [],.b 9 [],.r 10 [],.b 11 [],.r 12 [],.r 13 [],.r 14 [],.b 15 [],.b 16 [],.b 17 []] [] (A0:=[]) (Sub.refl _) (by kernel_rfl) ?_ ?_
   ·repeat constructor
   refine DT.b rfl rfl rfl (WO.load rfl rfl (Cell.own (Pick.tail (Pick.tail (Pick.tail (Pick.tail (Pick.tail (Pick.tail (Pick.tail (Pick.head)))))))) rfl) rfl (WO.nil ⟨rfl,rfl⟩)) (DT.b rfl rfl rfl (WO.loadA rfl rfl (Cells.own Pick.head) rfl rfl (WO.nil ⟨rfl,rfl⟩)) (DT.b rfl rfl rfl (WO.callR rfl Tryz.call70 (fun L w hi=>c_Fits w v l x1 (hR.later hi)) rfl (WO.nil ⟨rfl,rfl⟩)) (DT.r rfl rfl rfl (WO.p rfl rfl (WO.nil ⟨rfl,rfl⟩)) ?_)))
   refine DT.rB rfl rfl rfl (WO.p rfl rfl (WO.nil ⟨rfl,rfl⟩)) (fun c2=>?_) (fun c2=>?_)
   ·refine DT.b rfl rfl rfl (WO.go' rfl (WO.load rfl rfl (Cell.own (Pick.tail (Pick.tail (Pick.tail (Pick.tail (Pick.tail (Pick.tail (Pick.head))))))) rfl) rfl (WO.nil ⟨rfl,rfl⟩))) (DT.r rfl rfl rfl (WO.go' rfl (WO.field0 rfl rfl rfl (WO.nil ⟨rfl,rfl⟩))) (DT.b rfl rfl rfl (WO.go' rfl (WO.load rfl rfl (Cell.own Pick.head rfl) rfl (WO.nil ⟨rfl,rfl⟩))) (DT.r rfl rfl rfl (WO.go' rfl (WO.ar rfl rfl rfl (by unfold in64;omega) rfl (WO.nil ⟨rfl,rfl⟩))) (DT.b rfl rfl rfl (WO.go' rfl (WO.load rfl rfl (Cell.own (Pick.tail (Pick.tail (Pick.tail (Pick.tail (Pick.tail (Pick.head)))))) rfl) rfl (WO.nil ⟨rfl,rfl⟩))) ?_))))
    refine DT.r rfl rfl rfl (WO.go' rfl (WO.fieldL rfl rfl rfl (WO.nil ⟨rfl,rfl⟩))) (DT.b rfl rfl rfl (WO.go' rfl (WO.load rfl rfl (Cell.own Pick.head rfl) rfl (WO.nil ⟨rfl,rfl⟩))) (DT.r rfl rfl rfl (WO.go' rfl (WO.ar rfl rfl rfl (by unfold in64;omega) rfl (WO.nil ⟨rfl,rfl⟩))) (DT.r rfl rfl rfl (WO.go' rfl (WO.ar rfl rfl rfl (by unfold in64;omega) rfl (WO.nil ⟨rfl,rfl⟩))) (DT.r rfl rfl rfl (WO.go' rfl (WO.fieldL rfl rfl rfl (WO.nil ⟨rfl,rfl⟩))) (DT.b rfl rfl rfl (WO.go' rfl (WO.load rfl rfl (Cell.own Pick.head rfl) rfl (WO.nil ⟨rfl,rfl⟩))) ?_)))))
    refine DT.b rfl rfl rfl (WO.go' rfl (WO.callR rfl Tryz.call71 (fun L w hi=>c_ratio w (p*x1.a+q*x1.b) x1.d (by omega) (by omega)) rfl (WO.nil ⟨rfl,rfl⟩))) (DT.b rfl rfl rfl (WO.go' rfl (WO.loadA rfl rfl (Cells.own (Pick.tail (Pick.tail (Pick.tail (Pick.tail (Pick.head)))))) rfl rfl (WO.nil ⟨rfl,rfl⟩))) (DT.nil [_,_,_,_,_,_,_,_] rfl (WO.go' rfl (WO.eqT rfl rfl (eq36 (red (p*x1.a+q*x1.b) x1.d) (red ms.c mt)) rfl (WO.p rfl rfl (WO.nil ?_))))))
    refine W.cond_bl rfl (fun c3=>?_) (fun c3=>?_)
    ·refine W.sreg (WO.loadA rfl rfl (Cells.own Pick.head) rfl rfl (WO.storeA rfl rfl rfl rfl (Pick.tail (Pick.tail (Pick.head))) rfl rfl (WO.store1 rfl rfl rfl (by rfl) (Pick.tail (Pick.tail (Pick.tail (Pick.head)))) rfl (WO.nil (W.ret ?_)))))
     have htt:=fi_eq (p:=attP l p q (red ms.c mt)) hx hle1 (decide_eq_true ⟨(fit0 hls.1 hls.2.1 hxo).1 (by assumption),by assumption⟩)
     refine endR.stop (bl_f.2 (by have:t=attH l p q (red ms.c mt):=htt;omega)) rfl ?_
     rw [oT_f (show ¬ t+1≤attH l p q (red ms.c mt) by have:t=attH l p q (red ms.c mt):=htt;omega),show (crnS (sds l)).getD (attH l p q (red ms.c mt)) tr0=x1 by rw [← (show t=attH l p q (red ms.c mt) from htt),List.getD_eq_getElem?_getD,hx];rfl]
     exact fun h hs=>Sub.sat (by repeat (first | exact Sub.nil | refine Sub.cons (by repeat first | exact .head | apply Pick.tail) ?_)) hs
    ·refine W.skip ?_
     have hlt2:=fi_ne (p:=attP l p q (red ms.c mt)) hx hle1 (fun hq=>by have hq2:=of_decide_eq_true hq;exact absurd hq2.2 (by assumption))
     refine endR.go (bl_t.2 hlt2) ?_
     rw [oT_t (show t+1≤(attH l p q (red ms.c mt)) from hlt2)]
     exact fun h hs=>Sub.sat (by repeat (first | exact Sub.nil | refine Sub.cons (by repeat first | exact .head | apply Pick.tail) ?_)) hs
   ·refine DT.b rfl rfl rfl (WO.no rfl rfl (WO.nil ⟨rfl,rfl⟩)) (DT.r rfl rfl rfl (WO.no rfl rfl (WO.nil ⟨rfl,rfl⟩)) (DT.b rfl rfl rfl (WO.no rfl rfl (WO.nil ⟨rfl,rfl⟩)) (DT.r rfl rfl rfl (WO.no rfl rfl (WO.nil ⟨rfl,rfl⟩)) (DT.b rfl rfl rfl (WO.no rfl rfl (WO.nil ⟨rfl,rfl⟩)) (DT.r rfl rfl rfl (WO.no rfl rfl (WO.nil ⟨rfl,rfl⟩)) (DT.b rfl rfl rfl (WO.no rfl rfl (WO.nil ⟨rfl,rfl⟩)) (DT.r rfl rfl rfl (WO.no rfl rfl (WO.nil ⟨rfl,rfl⟩)) (DT.r rfl rfl rfl (WO.no rfl rfl (WO.nil ⟨rfl,rfl⟩)) (DT.r rfl rfl rfl (WO.no rfl rfl (WO.nil ⟨rfl,rfl⟩)) (DT.b rfl rfl rfl (WO.no rfl rfl (WO.nil ⟨rfl,rfl⟩)) (DT.b rfl rfl rfl (WO.no rfl rfl (WO.nil ⟨rfl,rfl⟩)) ?_)))))))))))
    refine DT.b rfl rfl rfl (WO.no rfl rfl (WO.nil ⟨rfl,rfl⟩)) (DT.nil [_,_,_,_,_,_,_,_] rfl (WO.no rfl rfl (WO.p rfl rfl (WO.nil (W.cond_f rfl (W.skip ?_))))))
    have hlt2:=fi_ne (p:=attP l p q (red ms.c mt)) hx hle1 (fun hq=>by have hq2:=of_decide_eq_true hq;exact absurd ((fit0 hls.1 hls.2.1 hxo).2 hq2.1) (by assumption))
    refine endR.go (bl_t.2 hlt2) ?_
    rw [oT_t (show t+1≤(attH l p q (red ms.c mt)) from hlt2)]
    exact fun h hs=>Sub.sat (by repeat (first | exact Sub.nil | refine Sub.cons (by repeat first | exact .head | apply Pick.tail) ?_)) hs
  ·intro hAll
   exfalso
   exact absurd hlt (by show ¬ (attH l p q (red ms.c mt))<_;omega)
  ·intro hStop
   rw [oT_f (show ¬ attH l p q (red ms.c mt)+1≤attH l p q (red ms.c mt) by omega)]
   have hat:=att_at hlt
   refine W.ret (fin.ret (Res.two rfl (RV.cell rfl rfl rfl (Cells.own (by repeat first | exact .head | apply Pick.tail))) (RV.cell1 rfl rfl (Cell.own (by repeat first | exact .head | apply Pick.tail) rfl))) ?_)
   exact ⟨_,by rw [hle0],fun _=>⟨crn_ok hls.1 hat.1,hat.2.1,(ms,mt),hm,red_inj (by have:=(crn_ok hls.1 hat.1).d;omega) hmo.t.1 hat.2.2⟩⟩
end Go.Proofs.YthoeeeehfkenkaaGreat.Sp
namespace Go.Proofs.YthoeeeehfkenkaaGreat.Sp
open Go Go.TH
attribute [local irreducible] W WO pt
set_option maxRecDepth 10000
set_option maxHeartbeats 1000000
theorem c_Truth (w:World) (v:Value) (l:List Rn) (h0:l≠[]) (hR:RdF encRn 4 w.heap.size w v l):RetE Tryz.prog 9 [v].toArray w (AttR l 0 0):=by
 refine RetE.of mixed tyTab Tryz.func9 rfl rfl ?_
 replace hR:RdF encRn 4 (fnCx mixed tyTab Tryz.f9.ntmps w).B (fnCx mixed tyTab Tryz.f9.ntmps w).w0 v l:=hR
 refine W.sreg (WO.alloc rfl rfl rfl (fun b1 hb1=>(WO.p rfl rfl (WO.nil (W.sreg (WO.p rfl rfl (WO.callE rfl Tryz.call25 (fun L w hi=>c_Attain w v l 0 0 h0 (hR.later hi)) rfl ?_)))))))
 rintro _ ⟨t,rfl,ht⟩
 refine WO.p rfl rfl (WO.p rfl rfl (WO.storeA rfl rfl rfl rfl Pick.head rfl rfl (WO.p rfl rfl (WO.nil (W.ret ?_)))))
 exact fin.ret (Res.two rfl (RV.cell rfl rfl rfl (Cells.own (by repeat first | exact .head | apply Pick.tail))) (RV.tmp rfl)) ⟨t,rfl,ht⟩
end Go.Proofs.YthoeeeehfkenkaaGreat.Sp
namespace Go.Proofs.YthoeeeehfkenkaaGreat.Sp
open Go Go.TH
attribute [local irreducible] W WO pt
set_option maxRecDepth 10000
set_option maxHeartbeats 1000000
def Reg (es:List MapEntry) (clk:Nat):Prop:=(es.map (·.born)).Nodup∧∀ e∈es,e.born<clk
def nv:Option MapEntry→Value
 | none=>.tuple #[.bool false]
 | some e=>.tuple #[.bool true,e.key,e.val]
def sn (seen:Array Nat):Option MapEntry→Array Nat
 | none=>seen
 | some e=>seen.push e.born
def Nx (es:Array MapEntry) (seen:Array Nat):Option MapEntry→Prop
 | none=>(leftOf es seen).size=0
 | some e=>e∈(leftOf es seen).toList
def itO (m clk:Nat) (seen:Array Nat):Obj:=.mapIter (some m) clk seen clk
section
variable {C:Cx Tryz.prog} {E:Env} {H H' H2:List HP}
variable {ops:Array Oper} {K:KP} {rest:List Oper} {d:Nat} {ty:TypeId} {pos:String} {af:Array Edge} {x y z:Operand} {T:TypeId}
variable {r m clk:Nat} {es:Array MapEntry} {seen:Array Nat}
theorem WO.rangeM {k e:TypeId} (hT:Tryz.prog.underlying T=some (.map k e)) (hx:ev E x=some (.map (some m))) (p:Pick (pt m (.map es clk)) H H') (hN:Nat.blt d C.N=true)
 (h:∀ r,WO C ops rest K ((d,.pointer (some ⟨r,0,none⟩))::E) (pt r (itO m clk #[])::H)):WO C ops (⟨some d,.range T x,ty,pos,af,none⟩::rest) K E H:=by
 refine WO.step rfl rfl hN (XO.run (by simp) fun L a w hfr hi=>?_)
 have hl:=(((hi.pickL p).perm List.perm_middle).look .head).1
 refine ⟨.pointer (some ⟨w.heap.size,0,none⟩),w.alloc (itO m clk #[]),_,.inl ?_,h _,hi.alloc' _⟩
 have hr:=run_range_map (P:=Tryz.prog) w T k e m es clk hT hl
 simp only [execOp,hfr.eval hx]
 simp [hr,itO]
theorem WO.nextM (hx:ev E x=some (.pointer (some ⟨r,0,none⟩))) (p:Pick (pt r (itO m clk seen)) H H') (q:Pick (pt m (.map es clk)) H H2) (hreg:Reg es.toList clk) (hN:Nat.blt d C.N=true)
 (h:∀ o,Nx es seen o→WO C ops rest K ((d,nv o)::E) (pt r (itO m clk (sn seen o))::H')):WO C ops (⟨some d,.next x false,ty,pos,af,none⟩::rest) K E H:=by
 refine WO.step rfl rfl hN (XO.run (by simp) fun L a w hfr hi=>?_)
 have hl:=(((hi.pickL q).perm List.perm_middle).look .head).1
 have hi1:=(hi.pickL p).perm List.perm_middle
 have hr0:=(hi1.look .head).1
 have hr:w.heap[r]?=some (.mapIter (some m) clk seen clk):=hr0
 rcases run_next_at (P:=Tryz.prog) w ty r m clk clk seen es clk hr hl hreg.2 (Nat.le_refl _) with ⟨h0,he⟩ | ⟨e,hm,w1,hw,he⟩
 ·refine ⟨nv none,w,_,.inl ?_,h none h0,hi1.perm List.perm_middle.symm⟩
  simp only [execOp,hfr.eval hx]
  simp [he,nv]
 ·refine ⟨nv (some e),ChangeMaps.setBlock w1 r (itO m clk (seen.push e.born)),_,.inl ?_,h (some e) hm,?_⟩
  ·simp only [execOp,hfr.eval hx]
   simp [he,nv,itO]
  ·have hlt:r<w.heap.size:=(Array.getElem?_eq_some_iff.1 hr).1
   have hi2:TH.Inv C.w0 C.M (pt r (itO m clk seen)::(L++H')) w1:=by
    rcases hw with rfl | rfl
    ·exact hi1
    ·exact hi1.drawn
   have hlt1:r<w1.heap.size:=by rcases hw with rfl | rfl <;> exact hlt
   have hs:=hi2.set (o':=itO m clk (seen.push e.born)) .head (w':=ChangeMaps.setBlock w1 r (itO m clk (seen.push e.born))) rfl rfl rfl (by simp [ChangeMaps.setBlock]) (by simp [ChangeMaps.setBlock,hlt1]) (fun k hk=>by simp [ChangeMaps.setBlock,Array.getElem?_setIfInBounds_ne (Ne.symm hk)])
   exact hs.perm List.perm_middle.symm
theorem WO.extractN {o:Option MapEntry} (hx:ev E x=some (nv o)) (hN:Nat.blt d C.N=true) (h:WO C ops rest K ((d,.bool (bl (o.isSome=true)))::E) H):WO C ops (⟨some d,.extract x 0,ty,pos,af,none⟩::rest) K E H:=by
 cases o with
 | none=>exact WO.extract (vs:=[.bool false]) hx (by simp [bl_eq]) hN h
 | some e=>exact WO.extract (vs:=[.bool true,e.key,e.val]) hx (by simp [bl_eq]) hN h
theorem WO.entryM {e:MapEntry} {k u:Value} (hx:ev E x=some (.pointer (some ⟨r,0,none⟩))) (p:Pick (pt r (itO m clk (seen.push e.born))) H H') (q:Pick (pt m (.map es clk)) H H2) (hreg:Reg es.toList clk) (he:e∈es.toList) (hk:e.key=k) (hv:e.val=u) (hN:Nat.blt d C.N=true)
 (h:WO C ops rest K ((d,.tuple #[k,u])::E) H):WO C ops (⟨some d,.entry x,ty,pos,af,none⟩::rest) K E H:=by
 refine WO.pure _ (by simp) (fun L a w hfr hi=>?_) hN h
 have hl:=(((hi.pickL q).perm List.perm_middle).look .head).1
 have hr0:=(((hi.pickL p).perm List.perm_middle).look .head).1
 have hr:w.heap[r]?=some (.mapIter (some m) clk (seen.push e.born) clk):=hr0
 have hrun:=run_entry_at (P:=Tryz.prog) w r m clk seen es clk e hr hl he hreg.1
 simp only [execOp,hfr.eval hx]
 simp [hrun,hk,hv]
end
theorem perm_out {e:MapEntry}:∀ (L:List MapEntry),(L.map (·.born)).Nodup→e∈L→L.Perm (e::L.filter fun x=>x.born != e.born)
 | [],_,h=>by cases h
 | x::r,hn,h=>by
  rw [List.map_cons,List.nodup_cons] at hn
  rcases Decidable.em (x.born=e.born) with hb | hb
  ·rcases List.mem_cons.1 h with rfl | h
   ·rw [List.filter_cons_of_neg (by simp),List.filter_eq_self.2 (fun y hy=>by
     have:y.born≠e.born:=fun q=>hn.1 (q▸List.mem_map_of_mem hy)
     simpa using this)]
   ·exact absurd (hb▸List.mem_map_of_mem (f:=(·.born)) h) hn.1
  ·rcases List.mem_cons.1 h with rfl | h
   ·exact absurd rfl hb
   ·rw [List.filter_cons_of_pos (by simpa using hb)]
    exact ((perm_out r hn.2 h).cons x).trans (List.Perm.swap e x _)
theorem left_list (es:Array MapEntry) (seen:Array Nat):(leftOf es seen).toList=es.toList.filter fun e=>!seen.contains e.born:=by unfold leftOf;exact Array.toList_filter
def Hd (es:Array MapEntry) (seen:Array Nat) (os:List Int):Prop:=∃ hs:List MapEntry,(hs++(leftOf es seen).toList).Perm es.toList∧hs.map (·.key)=os.map (Value.int .i64)
theorem Hd.none (es:Array MapEntry):Hd es #[] []:=⟨[],by
 rw [left_list,List.filter_eq_self.2 (fun x _=>by simp)];exact List.Perm.refl _,rfl⟩
theorem left_push (es:Array MapEntry) (seen:Array Nat) (b:Nat):(leftOf es (seen.push b)).toList=(leftOf es seen).toList.filter fun x=>x.born != b:=by
 rw [left_list,left_list,List.filter_filter]
 refine List.filter_congr fun x _=>?_
 rw [contains_push]
 cases seen.contains x.born <;> cases h:(x.born==b) <;> simp [bne,h]
theorem Hd.step {es:Array MapEntry} {clk:Nat} {seen:Array Nat} {e:MapEntry} {os:List Int} {k:Int} (hr:Reg es.toList clk) (he:e∈(leftOf es seen).toList) (hk:e.key=.int .i64 k) (h:Hd es seen os):Hd es (seen.push e.born) (os++[k]):=by
 obtain ⟨hs,h1,h2⟩:=h
 refine ⟨hs++[e],?_,by rw [List.map_append,List.map_append,h2];simp [hk]⟩
 refine List.Perm.trans ?_ h1
 rw [left_push,List.append_assoc]
 refine (perm_out _ ?_ he).symm.append_left hs
 rw [left_list]
 exact hr.1.sublist (List.Sublist.map _ List.filter_sublist)
def keyI:Value→Int
 | .int _ z=>z
 | _=>0
theorem Hd.all {es:Array MapEntry} {seen:Array Nat} {os:List Int} {ks:List Int} (h:Hd es seen os) (h0:(leftOf es seen).size=0) (hk:es.toList.map (·.key)=ks.map (Value.int .i64)):os.Perm ks:=by
 obtain ⟨hs,h1,h2⟩:=h
 rw [Array.eq_empty_of_size_eq_zero h0] at h1
 have h3:=h1.map (·.key)
 rw [List.append_nil,h2,hk] at h3
 have h4:=h3.map keyI
 simp only [List.map_map] at h4
 have e:∀ l:List Int,l.map (keyI∘Value.int .i64)=l:=fun l=>by
  conv=>rhs;rw [← List.map_id l]
  exact List.map_congr_left fun _ _=>rfl
 rwa [e,e] at h4
theorem tkL_reg (g ys:List Int) (n:Nat):Reg (tkL g ys n) n:=by
 unfold tkL
 refine ⟨?_,fun e he=>?_⟩
 ·rw [List.map_map,show ((fun x:MapEntry=>x.born)∘tkE g ys)=id from rfl,List.map_id]
  exact List.nodup_range
 ·obtain ⟨i,hi,rfl⟩:=List.mem_map.1 he
  exact List.mem_range.1 hi
theorem tkL_keys {g ys:List Int}:(tkL g ys g.length).map (·.key)=g.map (Value.int .i64):=by
 unfold tkL
 rw [List.map_map]
 refine List.ext_getElem (by simp) fun i h1 h2=>?_
 simp at h1 h2
 simp [tkE,h2]
theorem tkL_mem {g ys:List Int} {n:Nat} {e:MapEntry} (h:e∈tkL g ys n):∃ i,i<n∧e.key=.int .i64 (g.getD i 0)∧e.val=.int .i64 (ys.getD i 0):=by
 obtain ⟨i,hi,rfl⟩:=List.mem_map.1 h
 exact ⟨i,List.mem_range.1 hi,rfl,rfl⟩
theorem find_some {k:Int} {v:Value}:∀ (es:List MapEntry) (i j:Nat),(∀ a e,es[a]?=some e→∃ z,e.key=.int .i64 z∧(a<j→z≠k)∧(a=j→z=k∧e.val=v))→j<es.length→Instr.findNow (.int .i64) (.int .i64 k) es i=some (some (i+j,v))
 | [],_,_,_,h=>by simp at h
 | e::r,i,0,h,_=>by
  obtain ⟨z,hz,_,h2⟩:=h 0 e rfl
  obtain ⟨h3,h4⟩:=h2 rfl
  obtain ⟨kk,vv,bb⟩:=e
  simp only at hz h4
  subst hz h3 h4
  simp [Instr.findNow,Instr.sameNow]
 | e::r,i,j+1,h,hl=>by
  obtain ⟨z,hz,h1,_⟩:=h 0 e rfl
  have hn:=h1 (by omega)
  have e2:(k==z)=false:=by simp;omega
  have ih:=find_some (k:=k) (v:=v) r (i+1) j (fun a e' ha=>by
   obtain ⟨z',hz',g1,g2⟩:=h (a+1) e' (by simpa using ha)
   exact ⟨z',hz',fun q=>g1 (by omega),fun q=>g2 (by omega)⟩) (by simp at hl;omega)
  rw [show i+(j+1)=i+1+j by omega,← ih]
  obtain ⟨kk,vv,bb⟩:=e
  simp only at hz
  subst hz
  simp only [Instr.findNow,Instr.sameNow,if_true,e2]
theorem tkL_find {g ys:List Int} (hg:g.Nodup) {i:Nat} (h:i<g.length):Instr.findNow (.int .i64) (.int .i64 (g.getD i 0)) (tkL g ys g.length).toArray.toList 0=some (some (i,.int .i64 (ys.getD i 0))):=by
 have:=find_some (k:=g.getD i 0) (v:=.int .i64 (ys.getD i 0)) (tkL g ys g.length) 0 i (fun a e ha=>by
  obtain ⟨hl,he⟩:=List.getElem?_eq_some_iff.1 ha
  simp [tkL] at hl he
  refine ⟨g.getD a 0,by rw [← he];rfl,fun q q2=>?_,fun q=>?_⟩
  ·have h1:g.getD a 0=g[a]:=by simp [hl]
   have h2:g.getD i 0=g[i]:=by simp [h]
   rw [h1,h2] at q2
   have:=(List.getElem_inj hg).1 q2
   omega
  ·subst q;exact ⟨rfl,by rw [← he];rfl⟩) (by simp [tkL];exact h)
 rw [Nat.zero_add] at this
 exact this
end Go.Proofs.YthoeeeehfkenkaaGreat.Sp
namespace Go.Proofs.YthoeeeehfkenkaaGreat.Sp
open Go Go.TH
attribute [local irreducible] W WO pt
set_option maxRecDepth 10000
set_option maxHeartbeats 1000000
section
variable {P:Program} {C:Cx P} {E:Env} {H:List HP}
variable {ops:Array Oper} {K:KP} {rest:List Oper} {d:Nat} {ty:TypeId} {pos:String} {af:Array Edge} {x y z:Operand} {T:TypeId}
theorem WO.indexS {s:ByteArray} {i m:Nat} {k:IntKind} (hT:P.underlying T=some .string) (hx:ev E x=some (.string s)) (hy:ev E y=some (.int k (i:Int))) (hs:s.size=m) (h1:i<m) (hN:Nat.blt d C.N=true)
 (h:∀ b:UInt8,WO C ops rest K ((d,.int .u8 (b.toNat:Int))::E) H):WO C ops (⟨some d,.index T x y,ty,pos,af,none⟩::rest) K E H:=by
 obtain ⟨b,hb⟩:∃ b,s[i]?=some b:=⟨s[i]'(by omega),getElem?_pos s i (by omega)⟩
 exact WO.pure _ (by simp) (fun L a w hf hi=>by simp [execOp,hf.eval hx,hf.eval hy,Instr.index,run_underlying hT,asIntOf,hb]) hN (h b)
end
theorem u8_in {n:Int} (h:0≤n∧n<256):IntKind.u8.wrap n=n:=by
 unfold IntKind.wrap
 simp [IntKind.signed,IntKind.bits]
 omega
theorem i64_in {n:Int} (h:0≤n∧n<256):IntKind.i64.wrap n=n:=by
 unfold IntKind.wrap
 simp [IntKind.signed,IntKind.bits]
 omega
theorem swap_perm {xs:List Int} {i j:Nat} (hi:i<xs.length) (hj:j<xs.length):((xs.set i (xs.getD j 0)).set j (xs.getD i 0)).Perm xs:=by
 have e1:xs.getD j 0=xs[j]:=by simp [hj]
 have e2:xs.getD i 0=xs[i]:=by simp [hi]
 rw [e1,e2]
 exact List.set_set_perm hi hj
theorem c_isNaN (w:World) (x:Int):Ret Tryz.prog 306 [.int .i64 x].toArray w (.bool false):=by
 refine Ret.of mixed tyTab Tryz.func306 rfl rfl (W.sreg (WO.p rfl rfl (WO.nil (W.sreg (WO.p rfl rfl (WO.p rfl rfl (WO.p rfl rfl (WO.p rfl rfl (WO.nil (W.ret ?_))))))))))
 exact fin.ret (Res.one rfl (RV.tmp rfl)) (congrArg Value.bool (bl_f.2 (by omega)))
theorem c_Less (w:World) (x y:Int):Ret Tryz.prog 223 [.int .i64 x,.int .i64 y].toArray w (.bool (bl (x<y))):=by
 refine Ret.of mixed tyTab Tryz.func223 rfl rfl (W.sreg (WO.p rfl rfl (WO.nil (W.sreg (WO.p rfl rfl (WO.callR rfl Tryz.call306 (fun L w hi=>c_isNaN w _) rfl (WO.p rfl rfl (WO.no rfl rfl (WO.no rfl rfl (WO.no rfl rfl (WO.p rfl rfl (WO.p rfl rfl (WO.pg rfl rfl rfl (WO.pg rfl rfl rfl (WO.pg rfl rfl rfl (WO.p rfl rfl (WO.p rfl rfl (WO.nil (W.ret (fin.ret (Res.one rfl (RV.tmp rfl)) (congrArg Value.bool ?_)))))))))))))))))))))
 rfl
theorem c_Len64 (w:World) (n:Int) (h:0≤n∧n<256):RetE Tryz.prog 227 [.int .u64 n].toArray w (fun r=>∃ z:Int,r=.int .i64 z):=by
 refine RetE.of mixed tyTab Tryz.func227 rfl rfl ?_
 obtain ⟨k,rfl⟩:=Int.eq_ofNat_of_zero_le h.1
 refine W.sreg (WO.p rfl rfl (WO.nil (W.seq (W.sreg (WO.p rfl rfl (WO.p rfl rfl (WO.nil ?_)))))))
 refine W.cond_bl rfl (fun c1=>?_) (fun c1=>?_)
 ·exfalso;omega
 ·refine W.skip (W.seq (W.sreg (WO.p rfl rfl (WO.p rfl rfl (WO.nil ?_)))))
  refine W.cond_bl rfl (fun c5=>?_) (fun c5=>?_)
  ·exfalso;omega
  ·refine W.skip (W.seq (W.sreg (WO.p rfl rfl (WO.p rfl rfl (WO.nil ?_)))))
   refine W.cond_bl rfl (fun c7=>?_) (fun c7=>?_)
   ·exfalso;omega
   ·refine W.skip (W.sreg (WO.p rfl rfl (WO.p rfl rfl (WO.convI (b:=(k:Int)) rfl rfl rfl (u8_in (by omega)) rfl (WO.indexS (i:=k) (m:=256) rfl rfl rfl rfl (by omega) rfl (fun o=>?_))))))
    have ho:=o.toNat_lt
    refine WO.convI (b:=(o.toNat:Int)) rfl rfl rfl (i64_in (by omega)) rfl (WO.ar rfl rfl rfl (by unfold in64;omega) rfl (WO.p rfl rfl (WO.nil (W.ret ?_))))
    exact fin.ret (Res.one rfl (RV.tmp rfl)) ⟨_,rfl⟩
theorem c_Len (w:World) (n:Int) (h:0≤n∧n<256):RetE Tryz.prog 143 [.int .u64 n].toArray w (fun r=>∃ z:Int,r=.int .i64 z):=by
 refine RetE.of mixed tyTab Tryz.func143 rfl rfl (W.sreg (WO.p rfl rfl (WO.nil (W.seq (W.cond_f rfl (W.skip (W.sreg (WO.p rfl rfl (WO.callE rfl Tryz.call227 (fun L w hi=>c_Len64 w n h) rfl ?_)))))))))
 rintro _ ⟨z,rfl⟩
 refine WO.p rfl rfl (WO.nil (W.ret ?_))
 exact fin.ret (Res.one rfl (RV.tmp rfl)) ⟨_,rfl⟩
theorem OwE.cellI {C:Cx Tryz.prog} {H:List HP} {e:Nat} {v:Value} {l:List Int} {i:Nat} (s:Sub H [OwE encI e 1 v l]) (hi:i<l.length):Cell C H (elt v i 1) (.int .i64 (l.getD i 0)):=by
 cases s with
 | cons p _=>exact OwE.cell0 encI_ok p hi 0 rfl
theorem c_ins (B:Nat) (w:World) (v:Value) (xs:List Int) (hB:B≤w.heap.size) (hl:xs.length≤12) :
 CtH Tryz.prog 217 [v,.int .i64 0,.int .i64 (xs.length:Int)] w [OwE encI 3 1 v xs] B (fun r Hq=>∃ ys:List Int,(r=.tuple #[]∧ys.Perm xs)∧Hq=[OwE encI 3 1 v ys]):=by
 refine CtH.ofI (X:=List Int) (p:=fun ys r=>r=.tuple #[]∧ys.Perm xs) (Hx:=fun ys=>[OwE encI 3 1 v ys]) mixed tyTab hB Tryz.func217 rfl rfl (fun M hM=>(W.fact (OwE.sl (enc:=encI) (e:=3) (sz:=1) (v:=v) (xs:=xs) Pick.head) (fun hbs=>(W.sreg (WO.p rfl rfl (WO.ar rfl rfl rfl (by unfold in64;omega) rfl (WO.p rfl rfl (WO.nil (W.block ?_)))))))))
 refine W.loop2 (fun (i:Nat) (ys:List Int)=>1≤i∧i≤xs.length+1∧ys.Perm xs)
  (fun (i:Nat) (ys:List Int)=>[(0,v),(1,.int .i64 0),(2,.int .i64 (xs.length:Int)),(6,.int .i64 (i:Int))])
  (fun (i:Nat) (ys:List Int)=>[OwE encI 3 1 v ys])
  (fun (i:Nat) (ys:List Int)=>xs.length+1-i) 1 xs
  (by exact ⟨by omega,by omega,List.Perm.refl _⟩) ⟨rfl,rfl,rfl,rfl,trivial⟩ (by repeat (first | exact Sub.nil | refine Sub.cons (by repeat exact .head) ?_)) ?_
 rintro i ys ⟨hi0,hi1,hyp⟩
 refine W.seq (W.sreg (WO.p rfl rfl (WO.p rfl rfl (WO.p rfl rfl (WO.nil ?_)))))
 refine W.cond_bl rfl (fun c1=>?_) (fun c1=>?_)
 ·refine W.skip (W.seq (W.block (W.sreg (WO.p rfl rfl (WO.p rfl rfl (WO.nil (W.block ?_)))))))
  refine W.loop2 (fun (j:Int) (zs:List Int)=>0≤j∧j≤(i:Int)∧zs.Perm xs)
   (fun (j:Int) (zs:List Int)=>[(0,v),(1,.int .i64 0),(2,.int .i64 (xs.length:Int)),(6,.int .i64 (i:Int)),(7,.int .i64 j)])
   (fun (j:Int) (zs:List Int)=>[OwE encI 3 1 v zs])
   (fun (j:Int) (zs:List Int)=>j.toNat) (i:Int) ys
   (by exact ⟨by omega,by omega,hyp⟩) ⟨rfl,rfl,rfl,rfl,rfl,trivial⟩ (by repeat (first | exact Sub.nil | refine Sub.cons (by repeat exact .head) ?_)) ?_
  rintro j zs ⟨hj0,hj1,hzp⟩
  refine W.seq (W.seq ?_)
  have hzl:=hzp.length_eq
  refine W.drawD 13 [.r 0 [],.r 1 [],.r 2 [],.r 3 [],.r 4 [],.r 5 [],.r 6 [],.b 7 [],.r 8 [],.r 9 [],.r 10 [],.r 11 [],.b 12 []] [] (A0:=[]) (Sub.refl _) (by kernel_rfl) ?_ ?_
  ·repeat constructor
  refine DT.r rfl rfl rfl (WO.p rfl rfl (WO.nil ⟨rfl,rfl⟩)) (DT.r rfl rfl rfl (WO.p rfl rfl (WO.nil ⟨rfl,rfl⟩)) (DT.r rfl rfl rfl (WO.p rfl rfl (WO.nil ⟨rfl,rfl⟩)) ?_))
  refine DT.rB rfl rfl rfl (WO.p rfl rfl (WO.nil ⟨rfl,rfl⟩)) (fun c2=>?_) (fun c2=>?_)
  ·refine DT.r rfl rfl rfl (WO.pg rfl rfl rfl (WO.nil ⟨rfl,rfl⟩)) (DT.r rfl rfl rfl (WO.pg rfl rfl rfl (WO.nil ⟨rfl,rfl⟩)) ?_)
   refine' DT.r rfl rfl rfl ?hq ?_
   case hq =>
    refine WO.go' rfl ?_
    refine' WO.indexAddrZ (n:=_) rfl rfl rfl ?hs ?h00 ?h1 rfl ?_
    case hs=>exact hbs
    case h00=>omega
    case h1=>(omega)
    exact WO.nil ⟨rfl,rfl⟩
   refine' DT.b rfl rfl rfl ?hq ?_
   case hq =>
    refine WO.go' rfl ?_
    refine' WO.load (v:=_) rfl rfl ?hc rfl ?_
    case hc=>(first | (refine OwE.cellI (e:=3) (l:=zs) (i:=j.toNat) ?_ (by omega);exact Sub.cons (by repeat exact .head) Sub.nil))
    exact WO.nil ⟨rfl,rfl⟩
   refine DT.r rfl rfl rfl (WO.pg rfl rfl rfl (WO.nil ⟨rfl,rfl⟩)) (DT.r rfl rfl rfl (WO.pg rfl rfl rfl (WO.nil ⟨rfl,rfl⟩)) (DT.r rfl rfl rfl (WO.go' rfl (WO.ar rfl rfl rfl (by unfold in64;omega) rfl (WO.nil ⟨rfl,rfl⟩))) ?_))
   refine' DT.r rfl rfl rfl ?hq ?_
   case hq =>
    refine WO.go' rfl ?_
    refine' WO.indexAddrZ (n:=_) rfl rfl rfl ?hs ?h00 ?h1 rfl ?_
    case hs=>exact hbs
    case h00=>omega
    case h1=>(omega)
    exact WO.nil ⟨rfl,rfl⟩
   refine' DT.b rfl rfl rfl ?hq ?_
   case hq =>
    refine WO.go' rfl ?_
    refine' WO.load (v:=_) rfl rfl ?hc rfl ?_
    case hc=>(first | (refine OwE.cellI (e:=3) (l:=zs) (i:=(j-1).toNat) ?_ (by omega);exact Sub.cons (by repeat exact .head) Sub.nil))
    exact WO.nil ⟨rfl,rfl⟩
   refine DT.nil [_] rfl (WO.go' rfl (WO.callR rfl Tryz.call223 (fun L w hi=>c_Less w _ _) rfl (WO.p rfl rfl (WO.nil ?_))))
   refine W.cond_bl rfl (fun c3=>?_) (fun c3=>?_)
   ·refine W.skip (W.seq (W.block ?_))
    have hzl:=hzp.length_eq
    refine W.drawD 16 [.r 0 [],.r 1 [],.r 2 [],.r 3 [],.r 4 [],.r 5 [],.r 6 [],.r 7 [],.r 8 [],.f 9 [],.r 10 [],.r 11 [],.r 12 [],.f 13 [],.r 14 [],.s 15 []] [] (A0:=[_]) (H0:=[]) (.cons .head .nil) (by kernel_rfl) ?_ ?_
    ·exact (ALok.r (ALok.r (ALok.r (ALok.r (ALok.r (ALok.r (ALok.r (ALok.r (ALok.r (ALok.f (ALok.r (ALok.r (ALok.r (ALok.f (ALok.r (ALok.s ALok.nil))))))))))))))))
    refine DT.r rfl rfl rfl (WO.p rfl rfl (WO.nil ⟨rfl,rfl⟩)) (DT.r rfl rfl rfl (WO.p rfl rfl (WO.nil ⟨rfl,rfl⟩)) (DT.r rfl rfl rfl (WO.p rfl rfl (WO.nil ⟨rfl,rfl⟩)) (DT.r rfl rfl rfl (WO.p rfl rfl (WO.nil ⟨rfl,rfl⟩)) (DT.r rfl rfl rfl (WO.ar rfl rfl rfl (by unfold in64;omega) rfl (WO.nil ⟨rfl,rfl⟩)) (DT.r rfl rfl rfl (WO.p rfl rfl (WO.nil ⟨rfl,rfl⟩)) (DT.r rfl rfl rfl (WO.p rfl rfl (WO.nil ⟨rfl,rfl⟩)) (DT.r rfl rfl rfl (WO.ar rfl rfl rfl (by unfold in64;omega) rfl (WO.nil ⟨rfl,rfl⟩)) ?_)))))))
    refine' DT.r rfl rfl rfl ?hq ?_
    case hq =>
     refine' WO.indexAddrZ (n:=_) rfl rfl rfl ?hs ?h00 ?h1 rfl ?_
     case hs=>exact hbs
     case h00=>omega
     case h1=>(omega)
     exact WO.nil ⟨rfl,rfl⟩
    refine' DT.f [_] rfl rfl rfl rfl ?hq ?_
    case hq =>
     refine' WO.load (v:=_) rfl rfl ?hc rfl ?_
     case hc=>(first | (refine OwE.cellI (e:=3) (l:=zs) (i:=(j-1).toNat) ?_ (by omega);exact Sub.cons (by repeat exact .head) Sub.nil))
     exact WO.nil ⟨rfl,rfl⟩
    refine DT.r rfl rfl rfl (WO.p rfl rfl (WO.nil ⟨rfl,rfl⟩)) (DT.r rfl rfl rfl (WO.p rfl rfl (WO.nil ⟨rfl,rfl⟩)) ?_)
    refine' DT.r rfl rfl rfl ?hq ?_
    case hq =>
     refine' WO.indexAddrZ (n:=_) rfl rfl rfl ?hs ?h00 ?h1 rfl ?_
     case hs=>exact hbs
     case h00=>omega
     case h1=>(omega)
     exact WO.nil ⟨rfl,rfl⟩
    refine' DT.f [_] rfl rfl rfl rfl ?hq ?_
    case hq =>
     refine' WO.load (v:=_) rfl rfl ?hc rfl ?_
     case hc=>(first | (refine OwE.cellI (e:=3) (l:=zs) (i:=j.toNat) ?_ (by omega);exact Sub.cons (by repeat exact .head) Sub.nil))
     exact WO.nil ⟨rfl,rfl⟩
    refine' DT.r rfl rfl rfl ?hq ?_
    case hq =>
     refine' WO.indexAddrZ (n:=_) rfl rfl rfl ?hs ?h00 ?h1 rfl ?_
     case hs=>exact hbs
     case h00=>omega
     case h1=>(omega)
     exact WO.nil ⟨rfl,rfl⟩
    refine DT.s [_] rfl rfl rfl (WO.storeE (enc:=encI) encI_ok rfl rfl rfl rfl (by repeat exact .head) (by omega) ?_)
    refine WO.nil ⟨[_],rfl,rfl,(Keep.r (Keep.f (Keep.r (Keep.r (Keep.r (Keep.f (Keep.r (Keep.r (Keep.r (Keep.r (Keep.r (Keep.r (Keep.r (Keep.r (Keep.r Keep.nil))))))))))))))),?_⟩
    refine DT.nil [_] rfl ?_
    refine' WO.indexAddrZ (n:=_) rfl rfl rfl ?hs ?h00 ?h1 rfl ?_
    case hs=>exact hbs
    case h00=>omega
    case h1=>(omega)
    refine WO.storeE (enc:=encI) encI_ok rfl rfl rfl rfl (by repeat exact .head) (by (simp only [List.length_set];omega)) (WO.nil (W.region (WO.p rfl rfl (WO.ar rfl rfl rfl (by unfold in64;omega) rfl (WO.p rfl rfl (WO.nil ?_))))))
    refine' ⟨j-1,_,?hp,?hmu,⟨rfl,rfl,rfl,rfl,rfl,trivial⟩,?hS⟩
    case hS=>repeat (first | exact Sub.nil | refine Sub.cons (by repeat exact .head) ?_)
    case hp=>exact ⟨by omega,by omega,(swap_perm (by omega) (by omega)).trans hzp⟩
    case hmu=>omega
   ·refine W.exit (blk_same (W.region (WO.p rfl rfl (WO.ar rfl rfl rfl (by unfold in64;omega) rfl (WO.p rfl rfl (WO.nil ?_))))))
    refine' ⟨i+1,zs,?hp,?hmu,⟨rfl,rfl,rfl,rfl,trivial⟩,?hS⟩
    case hS=>repeat (first | exact Sub.nil | refine Sub.cons (by repeat exact .head) ?_)
    case hp=>exact ⟨by omega,by omega,hzp⟩
    case hmu=>omega
  ·refine DT.r rfl rfl rfl (WO.no rfl rfl (WO.nil ⟨rfl,rfl⟩)) (DT.r rfl rfl rfl (WO.no rfl rfl (WO.nil ⟨rfl,rfl⟩)) (DT.r rfl rfl rfl (WO.no rfl rfl (WO.nil ⟨rfl,rfl⟩)) (DT.b rfl rfl rfl (WO.no rfl rfl (WO.nil ⟨rfl,rfl⟩)) (DT.r rfl rfl rfl (WO.no rfl rfl (WO.nil ⟨rfl,rfl⟩)) (DT.r rfl rfl rfl (WO.no rfl rfl (WO.nil ⟨rfl,rfl⟩)) (DT.r rfl rfl rfl (WO.no rfl rfl (WO.nil ⟨rfl,rfl⟩)) (DT.r rfl rfl rfl (WO.no rfl rfl (WO.nil ⟨rfl,rfl⟩)) (DT.b rfl rfl rfl (WO.no rfl rfl (WO.nil ⟨rfl,rfl⟩)) (DT.nil [_] rfl (WO.no rfl rfl (WO.p rfl rfl (WO.nil (W.cond_f rfl (W.exit (blk_same (W.region (WO.p rfl rfl (WO.ar rfl rfl rfl (by unfold in64;omega) rfl (WO.p rfl rfl ?_)))))))))))))))))))
   refine WO.nil ?_
   refine' ⟨i+1,zs,?hp,?hmu,⟨rfl,rfl,rfl,rfl,trivial⟩,?hS⟩
   case hS=>repeat (first | exact Sub.nil | refine Sub.cons (by repeat exact .head) ?_)
   case hp=>exact ⟨by omega,by omega,hzp⟩
   case hmu=>omega
 ·refine W.exit (blk_same ?_)
  exact fin.normal (Res.none rfl) ⟨ys,⟨rfl,hyp⟩,fun h hs=>Sub.sat (by repeat (first | exact Sub.nil | refine Sub.cons (by repeat exact .head) ?_)) hs⟩
theorem c_pdq (B:Nat) (w:World) (v:Value) (xs:List Int) (lim:Int) (hB:B≤w.heap.size) (hl:xs.length≤12) :
 CtH Tryz.prog 142 [v,.int .i64 0,.int .i64 (xs.length:Int),.int .i64 lim] w [OwE encI 3 1 v xs] B (fun r Hq=>∃ ys:List Int,(r=.tuple #[]∧ys.Perm xs)∧Hq=[OwE encI 3 1 v ys]):=by
 refine CtH.ofI (X:=List Int) (p:=fun ys r=>r=.tuple #[]∧ys.Perm xs) (Hx:=fun ys=>[OwE encI 3 1 v ys]) mixed tyTab hB Tryz.func142 rfl rfl (fun M hM=>(W.sreg (WO.p rfl rfl (WO.nil (W.sreg (WO.p rfl rfl (WO.nil (W.block ?_))))))))
 refine W.loop (fun (u:Unit)=>True)
  (fun (u:Unit)=>[(0,v),(1,.int .i64 0),(2,.int .i64 (xs.length:Int)),(3,.int .i64 lim)])
  (fun (u:Unit)=>[OwE encI 3 1 v xs])
  (fun (u:Unit)=>0) ()
  (by trivial) ⟨rfl,rfl,rfl,rfl,trivial⟩ (by repeat (first | exact Sub.nil | refine Sub.cons (by repeat exact .head) ?_)) ?_
 rintro u -
 refine W.block (W.sreg (WO.p rfl rfl (WO.p rfl rfl (WO.ar rfl rfl rfl (by unfold in64;omega) rfl (WO.p rfl rfl (WO.nil (W.seq (W.sreg (WO.p rfl rfl (WO.leqT rfl rfl (by omega) rfl (WO.nil (W.cond_t rfl (W.sreg (WO.p rfl rfl (WO.p rfl rfl (WO.p rfl rfl (WO.callH1 (A:=OwE encI 3 1 v xs) rfl Tryz.call217 (by repeat exact .head) (fun L w hi hB2=>c_ins _ w v xs hB2 hl) rfl ?_)))))))))))))))))
 rintro _ _ ⟨ys,⟨rfl,hyp⟩,rfl⟩
 refine WO.nil (W.ret ?_)
 exact fin.ret (Res.none rfl) ⟨ys,⟨rfl,hyp⟩,fun h hs=>Sub.sat (by repeat (first | exact Sub.nil | refine Sub.cons (by repeat exact .head) ?_)) hs⟩
theorem c_Sort (B:Nat) (w:World) (v:Value) (xs:List Int) (hB:B≤w.heap.size) (hl:xs.length≤12) :
 CtH Tryz.prog 81 [v] w [OwE encI 3 1 v xs] B (fun r Hq=>∃ ys:List Int,(r=.tuple #[]∧ys.Perm xs)∧Hq=[OwE encI 3 1 v ys]):=by
 refine CtH.ofI (X:=List Int) (p:=fun ys r=>r=.tuple #[]∧ys.Perm xs) (Hx:=fun ys=>[OwE encI 3 1 v ys]) mixed tyTab hB Tryz.func81 rfl rfl (fun M hM=>(W.fact (OwE.sl (enc:=encI) (e:=3) (sz:=1) (v:=v) (xs:=xs) Pick.head) (fun hbs=>(W.sreg (WO.p rfl rfl (WO.len rfl rfl hbs rfl (WO.p rfl rfl (WO.nil (W.region (WO.p rfl rfl (WO.p rfl rfl (WO.p rfl rfl (WO.convI (b:=(xs.length:Int)) rfl rfl rfl (u64_in (by omega)) rfl (WO.callE rfl Tryz.call143 (fun L w hi=>c_Len w (xs.length:Int) (by omega)) rfl ?_))))))))))))))
 rintro _ ⟨lim,rfl⟩
 refine WO.callH1 (A:=OwE encI 3 1 v xs) rfl Tryz.call142 (by repeat exact .head) (fun L w hi hB2=>c_pdq _ w v xs lim hB2 hl) rfl ?_
 rintro _ _ ⟨ys,⟨rfl,hyp⟩,rfl⟩
 refine WO.nil ?_
 exact fin.normal (Res.none rfl) ⟨ys,⟨rfl,hyp⟩,fun h hs=>Sub.sat (by repeat (first | exact Sub.nil | refine Sub.cons (by repeat exact .head) ?_)) hs⟩
end Go.Proofs.YthoeeeehfkenkaaGreat.Sp
namespace Go.Proofs.YthoeeeehfkenkaaGreat.Sp
open Go Go.TH
attribute [local irreducible] W WO pt
set_option maxRecDepth 10000
set_option maxHeartbeats 1000000
abbrev Ps:=Int × Bool × Int
def encPs (x:Ps):List Value:=[.int .i64 x.1,.bool x.2.1,.int .i64 x.2.2]
theorem encPs_ok:EncOk encPs 3:=⟨fun _=>rfl,fun x u hu=>by simp [encPs] at hu;rcases hu with rfl | rfl | rfl <;> rfl,by omega⟩
def ps0:Ps:=(0,false,0)
def psE (g ys:List Int) (x:Int):Ps:=(x.tdiv 2,bl (x.tmod 2=1),ys.getD (g.idxOf x) 0)
def pfL (g ys os:List Int):List Ps:=os.map (psE g ys)
theorem pf_step (g ys:List Int) {zs:List Int} {k:Nat} (h:k<zs.length):pfL g ys (zs.take k)++[psE g ys (zs.getD k 0)]=pfL g ys (zs.take (k+1)):=by
 unfold pfL;rw [take_succ_getD h 0,List.map_append];rfl
theorem pf_len (g ys zs:List Int):(pfL g ys zs).length=zs.length:=by unfold pfL;rw [List.length_map]
theorem Hd.len {es:Array MapEntry} {seen:Array Nat} {os:List Int} (h:Hd es seen os):os.length≤es.size:=by
 obtain ⟨hs,h1,h2⟩:=h
 have e1:=h1.length_eq
 have e2:=congrArg List.length h2
 rw [List.length_append] at e1
 rw [List.length_map,List.length_map] at e2
 have:es.toList.length=es.size:=rfl
 omega
theorem idx_of {g:List Int} {x:Int} (h:x∈g):g.idxOf x<g.length∧g.getD (g.idxOf x) 0=x:=by
 have h1:g.idxOf x<g.length:=List.idxOf_lt_length_of_mem h
 exact ⟨h1,by rw [List.getD_eq_getElem?_getD,List.getElem?_eq_getElem h1];exact List.getElem_idxOf h1⟩
theorem tkL_at {g ys:List Int} (hg:g.Nodup) {x:Int} (h:x∈g):Instr.findNow (.int .i64) (.int .i64 x) (tkL g ys g.length).toArray.toList 0=some (some (g.idxOf x,.int .i64 (ys.getD (g.idxOf x) 0))):=by
 obtain ⟨h1,h2⟩:=idx_of h
 have:=tkL_find (ys:=ys) hg h1
 rwa [h2] at this
theorem tk_size (g ys:List Int):(tkL g ys g.length).toArray.size=g.length:=by unfold tkL;simp
theorem all_oc {v:Value} {n:Int} (h:v.oneCell'=true):[v,.int .i64 n].all (·.oneCell')=true:=by rw [List.all_cons,h];rfl
theorem c_proof (B:Nat) (w:World) (mb:Nat) (g ys:List Int) (s:Sd) (t:Int) (hB:B≤w.heap.size) (hg:∀ x∈g,0≤x∧x<100) (hnd:g.Nodup) (h3:g.length≤3) (hl:ys.length=g.length) (hp:∀ y∈ys,y≠0) :
 CtH Tryz.prog 31 [mdV (.map (some mb)) s t] w [pt mb (.map (tkL g ys g.length).toArray g.length)] B (fun r Hq=>∃ x:Value × List Int,(x.2.Perm g∧r=.agg #[x.1,.int .i64 t])∧Hq=[OwE encPs 85 3 x.1 (pfL g ys x.2)]):=by
 refine CtH.ofI (X:=Value × List Int) (p:=fun x r=>x.2.Perm g∧r=.agg #[x.1,.int .i64 t]) (Hx:=fun x=>[OwE encPs 85 3 x.1 (pfL g ys x.2)]) mixed tyTab hB Tryz.func31 rfl rfl (fun M hM=>?_)
 have hreg:=tkL_reg g ys g.length
 have hsz:=tk_size g ys
 refine W.sreg (WO.boxA rfl rfl (fun b1 hb1=>(WO.alloc rfl rfl rfl (fun b2 hb2=>(WO.nil (W.sreg (WO.fieldL rfl rfl rfl (WO.load rfl rfl (Cell.own (Pick.tail (Pick.head)) rfl) rfl (WO.build rfl rfl rfl rfl rfl (WO.alloc rfl rfl rfl (fun b3 hb3=>(WO.storeA rfl rfl rfl rfl Pick.head rfl rfl (WO.nil (W.seq (W.sreg (WO.field0 rfl rfl rfl (WO.load rfl rfl (Cell.own (Pick.tail (Pick.tail (Pick.head))) rfl) rfl (WO.rangeM Tryz.underlying70 rfl (by repeat first | exact .head | apply Pick.tail) rfl (fun r=>(WO.nil (W.block ?_)))))))))))))))))))))
 refine W.loop (fun (seen:Array Nat)=>True)
  (fun (seen:Array Nat)=>[(1,.pointer (some ⟨b1,0,none⟩)),(2,.pointer (some ⟨b2,0,none⟩)),(3,.pointer (some ⟨b3,0,none⟩)),(15,.pointer (some ⟨r,0,none⟩))])
  (fun (seen:Array Nat)=>[pt b1 (.cells #[.map (some mb),.int .i64 s.a,.int .i64 s.b,.int .i64 s.c,.int .i64 t] 74 (0,0)),pt b2 (.cells #[.slice none 0 0,.int .i64 0] 52 (0,0)),pt b3 (.cells #[.slice none 0 0,.int .i64 t] 52 (0,0)),pt mb (.map (tkL g ys g.length).toArray g.length),pt r (itO mb g.length seen)])
  (fun (seen:Array Nat)=>(leftOf (tkL g ys g.length).toArray seen).size) #[]
  (by trivial) ⟨rfl,rfl,rfl,rfl,trivial⟩ (by repeat (first | exact Sub.nil | refine Sub.cons (by repeat first | exact .head | apply Pick.tail) ?_)) ?_
 rintro seen -
 refine W.sreg (WO.nextM rfl (by repeat first | exact .head | apply Pick.tail) (by repeat first | exact .head | apply Pick.tail) hreg rfl (fun o hox=>(WO.extractN rfl rfl (WO.nil (W.seq ?_)))))
 refine W.cond_bl rfl (fun c1=>?_) (fun c1=>?_)
 ·refine W.skip (W.block ?_)
  obtain ⟨e,rfl⟩:=Option.isSome_iff_exists.1 (show o.isSome=true by assumption)
  have he:e∈(leftOf (tkL g ys g.length).toArray seen).toList:=hox
  obtain ⟨i,hi,hek,hev⟩:=tkL_mem (mem_left he).1
  have hy0:=hp _ (getD_mem (show i<ys.length by omega) 0)
  refine W.sreg (WO.entryM rfl (by repeat exact .head) (by repeat first | exact .head | apply Pick.tail) hreg (mem_left he).1 hek hev rfl (WO.p rfl rfl (WO.p rfl rfl (WO.p rfl rfl (WO.p rfl rfl (WO.nil (W.sreg (WO.p rfl rfl (WO.eqlF rfl rfl (by omega) rfl (WO.nil (W.cond_f rfl (W.skip ?_))))))))))))
  refine' ⟨seen.push e.born,?hp,?hmu,⟨rfl,rfl,rfl,rfl,trivial⟩,?hS⟩
  case hS=>repeat (first | exact Sub.nil | refine Sub.cons (by repeat first | exact .head | apply Pick.tail) ?_)
  case hp=>trivial
  case hmu=>exact left_shrinks _ seen e he
 ·refine W.exit (blk_same (W.sreg (WO.p rfl rfl (WO.nil (W.seq (W.sreg (WO.field0 rfl rfl rfl (WO.load rfl rfl (Cell.own (Pick.tail (Pick.head)) rfl) rfl (WO.rangeM Tryz.underlying70 rfl (by repeat first | exact .head | apply Pick.tail) rfl (fun r=>(WO.nil (W.block (W.chg (owNil (enc:=encI) (e:=3) (sz:=1)) ?_)))))))))))))
  refine W.loop3 (fun (seen:Array Nat) (ov:Value) (os:List Int)=>Hd (tkL g ys g.length).toArray seen os)
   (fun (seen:Array Nat) (ov:Value) (os:List Int)=>[(1,.pointer (some ⟨b1,0,none⟩)),(2,.pointer (some ⟨b2,0,none⟩)),(3,.pointer (some ⟨b3,0,none⟩)),(6,ov),(28,.pointer (some ⟨r,0,none⟩))])
   (fun (seen:Array Nat) (ov:Value) (os:List Int)=>[pt b1 (.cells #[.map (some mb),.int .i64 s.a,.int .i64 s.b,.int .i64 s.c,.int .i64 t] 74 (0,0)),pt b2 (.cells #[.slice none 0 0,.int .i64 0] 52 (0,0)),pt b3 (.cells #[.slice none 0 0,.int .i64 t] 52 (0,0)),pt mb (.map (tkL g ys g.length).toArray g.length),pt r (itO mb g.length seen),OwE encI 3 1 ov os])
   (fun (seen:Array Nat) (ov:Value) (os:List Int)=>(leftOf (tkL g ys g.length).toArray seen).size) #[] (.slice none 0 0) []
   (by exact Hd.none _) ⟨rfl,rfl,rfl,rfl,rfl,trivial⟩ (by repeat (first | exact Sub.nil | refine Sub.cons (by repeat first | exact .head | apply Pick.tail) ?_)) ?_
  rintro seen ov os hd
  refine W.sreg (WO.nextM rfl (by repeat first | exact .head | apply Pick.tail) (by repeat first | exact .head | apply Pick.tail) hreg rfl (fun o hox=>(WO.extractN rfl rfl (WO.nil (W.seq ?_)))))
  refine W.cond_bl rfl (fun c2=>?_) (fun c2=>?_)
  ·refine W.skip (W.block ?_)
   obtain ⟨e,rfl⟩:=Option.isSome_iff_exists.1 (show o.isSome=true by assumption)
   have he:e∈(leftOf (tkL g ys g.length).toArray seen).toList:=hox
   obtain ⟨i,hi,hek,hev⟩:=tkL_mem (mem_left he).1
   have hln:=hd.len
   refine W.sreg (WO.entryM rfl (by repeat exact .head) (by repeat first | exact .head | apply Pick.tail) hreg (mem_left he).1 hek hev rfl (WO.p rfl rfl (WO.p rfl rfl (WO.nil (W.region (WO.p rfl rfl (WO.p rfl rfl (WO.buildSl rfl rfl rfl rfl rfl rfl rfl rfl rfl (fun v4=>?_)))))))))
   refine' WO.appendE (enc:=encI) (m:=1) (ys:=[g.getD i 0]) encI_ok rfl rfl rfl rfl rfl (by repeat first | exact .head | apply Pick.tail) (isSl_lit (by omega) (fun _=>⟨_,_,rfl⟩)) (by omega) rfl (OwC.cells .head) (by omega) (by omega) rfl (fun gb c=>?_)
   refine WO.p rfl rfl (WO.nil ?_)
   refine' ⟨seen.push e.born,_,_,?hp,?hmu,⟨rfl,rfl,rfl,rfl,rfl,trivial⟩,?hS⟩
   case hS=>repeat (first | exact Sub.nil | refine Sub.cons (by repeat first | exact .head | apply Pick.tail) ?_)
   case hp=>exact hd.step hreg he hek
   case hmu=>exact left_shrinks _ seen e he
  ·refine W.exit (blk_same ?_)
   have h0:(leftOf (tkL g ys g.length).toArray seen).size=0:=by cases o with
   | none=>exact hox
   | some e=>exact absurd rfl (show ¬ (some e).isSome=true by assumption)
   have hop:=hd.all h0 tkL_keys
   have hol:=hop.length_eq
   refine W.sreg (WO.p rfl rfl (WO.callH1 (A:=OwE encI 3 1 ov os) rfl Tryz.call81 (by repeat first | exact .head | apply Pick.tail) (fun L w hi hB2=>c_Sort _ w ov os hB2 (by omega)) rfl ?_))
   rintro _ _ ⟨zs,⟨rfl,hzp⟩,rfl⟩
   refine WO.nil (W.seq (W.fact (OwE.sl (enc:=encI) (e:=3) (sz:=1) (v:=ov) (xs:=zs) (by repeat exact .head)) (fun hos=>?_)))
   have hzg:=hzp.trans hop
   have hzl:=hzg.length_eq
   refine W.sreg (WO.p rfl rfl (WO.len rfl rfl hos rfl (WO.p rfl rfl (WO.nil (W.block (W.chg (owNil (enc:=encPs) (e:=85) (sz:=3)) ?_))))))
   refine W.loop2 (fun (k:Nat) (sv:Value)=>k≤zs.length)
    (fun (k:Nat) (sv:Value)=>[(1,.pointer (some ⟨b1,0,none⟩)),(2,.pointer (some ⟨b2,0,none⟩)),(3,.pointer (some ⟨b3,0,none⟩)),(39,ov),(40,.int .i64 (zs.length:Int)),(41,.int .i64 (k:Int))])
    (fun (k:Nat) (sv:Value)=>[pt b1 (.cells #[.map (some mb),.int .i64 s.a,.int .i64 s.b,.int .i64 s.c,.int .i64 t] 74 (0,0)),pt b2 (.cells #[.slice none 0 0,.int .i64 0] 52 (0,0)),pt b3 (.cells #[sv,.int .i64 t] 52 (0,0)),pt mb (.map (tkL g ys g.length).toArray g.length),OwE encI 3 1 ov zs,OwE encPs 85 3 sv (pfL g ys (zs.take k))])
    (fun (k:Nat) (sv:Value)=>zs.length-k) 0 (.slice none 0 0)
    (by omega) ⟨rfl,rfl,rfl,rfl,rfl,rfl,trivial⟩ (by repeat (first | exact Sub.nil | refine Sub.cons (by repeat first | exact .head | apply Pick.tail) ?_)) ?_
   rintro k sv hk0
   refine W.sreg (WO.p rfl rfl (WO.nil (W.seq ?_)))
   refine W.cond_bl rfl (fun c3=>?_) (fun c3=>?_)
   ·refine W.skip (W.seq (W.block ?_))
    have hzm:zs.getD k 0∈g:=hzg.mem_iff.1 (getD_mem (show k<zs.length by omega) 0)
    have hz0:=hg _ hzm
    have hq2:(zs.getD k 0).tdiv 2=zs.getD k 0/2:=Int.tdiv_eq_ediv_of_nonneg hz0.1
    have hpl:=pf_len g ys (zs.take k)
    rw [List.length_take] at hpl
    refine W.sreg (WO.indexAddr rfl rfl rfl hos (by omega) rfl ?_)
    refine' WO.load (v:=_) rfl rfl ?hc rfl ?_
    case hc=>(first | (refine OwE.cellI (e:=3) (l:=zs) (i:=k) ?_ (by omega);exact Sub.cons (by repeat first | exact .head | apply Pick.tail) Sub.nil))
    refine WO.p rfl rfl (WO.nil (W.region (WO.field0 rfl rfl rfl (WO.load rfl rfl (Cell.own (Pick.tail (Pick.tail (Pick.head))) rfl) rfl (WO.p rfl rfl (WO.quo rfl rfl (by omega) (by rw [hq2];unfold in64;omega) rfl (WO.p rfl rfl (WO.rem rfl rfl (by omega) rfl (WO.p rfl rfl (WO.field0 rfl rfl rfl (WO.load rfl rfl (Cell.own Pick.head rfl) rfl (WO.p rfl rfl (WO.lookupI (i:=g.idxOf (zs.getD k 0)) (u:=.int .i64 (ys.getD (g.idxOf (zs.getD k 0)) 0)) Tryz.underlying70 Tryz.underlying3 rfl rfl (by repeat first | exact .head | apply Pick.tail) (tkL_at hnd hzm) rfl (WO.build rfl rfl rfl rfl rfl (WO.buildSl rfl rfl rfl rfl rfl rfl rfl rfl rfl (fun v5=>?_))))))))))))))))
    refine' WO.appendE (enc:=encPs) (m:=1) (ys:=[psE g ys (zs.getD k 0)]) encPs_ok rfl rfl rfl rfl rfl (by repeat first | exact .head | apply Pick.tail) (isSl_lit (by omega) (fun _=>⟨_,_,rfl⟩)) (by omega) rfl (OwC.cells .head) (by omega) (by omega) rfl (fun gb c=>?_)
    rw [pf_step g ys (by omega)]
    refine WO.field0 rfl rfl rfl (WO.store1 rfl rfl rfl (by rfl) (Pick.tail (Pick.tail (Pick.tail (Pick.tail (Pick.head))))) rfl (WO.nil (W.region (WO.ar rfl rfl rfl (by unfold in64;omega) rfl (WO.p rfl rfl (WO.nil ?_))))))
    refine' ⟨k+1,_,?hp,?hmu,⟨rfl,rfl,rfl,rfl,rfl,rfl,trivial⟩,?hS⟩
    case hS=>repeat (first | exact Sub.nil | refine Sub.cons (by repeat first | exact .head | apply Pick.tail) ?_)
    case hp=>omega
    case hmu=>omega
   ·refine W.exit (blk_same ?_)
    obtain rfl:k=zs.length:=by omega
    rw [List.take_length]
    refine W.fact (OwE.sl (enc:=encPs) (e:=85) (sz:=3) (v:=sv) (xs:=pfL g ys zs) (by repeat first | exact .head | apply Pick.tail)) (fun hss=>?_)
    have hsoc:=hss.oc
    refine W.sreg (WO.loadA rfl rfl (Cells.own (Pick.tail (Pick.tail (Pick.head)))) rfl rfl (WO.storeA rfl rfl rfl rfl (Pick.tail (Pick.head)) rfl (all_oc hsoc) (WO.nil (W.ret ?_))))
    refine fin.ret (Res.one rfl (RV.cell rfl rfl rfl (Cells.own (by repeat exact .head)))) ⟨(sv,zs),⟨hzg,rfl⟩,fun h hs=>Sub.sat (by repeat (first | exact Sub.nil | refine Sub.cons (by repeat first | exact .head | apply Pick.tail) ?_)) hs⟩
end Go.Proofs.YthoeeeehfkenkaaGreat.Sp
namespace Go.Proofs.YthoeeeehfkenkaaGreat.Sp
open Go Go.TH
attribute [local irreducible] W WO pt
set_option maxRecDepth 10000
set_option maxHeartbeats 1000000
section
variable {S:List Sd} {H H':List HP}
theorem dbP_open {mb:Nat} (hD:Dbt S) (p:Pick (dbP S mb) H H'):∀ h,sat H h→∃ ys:List Int,dbt S (hitG S)=some ys∧sat (pt mb (.map (tkL (hitG S) ys (hitG S).length).toArray (hitG S).length)::H') h:=fun h hs=>by
 obtain ⟨h1,h2,s,hp,hr⟩:=p.sat hs
 obtain ⟨ys,e,hq⟩:=hp hD
 exact ⟨ys,e,h1,h2,s,hq,hr⟩
structure PfOk (S:List Sd) (g ys zs:List Int):Prop where
 grp:Grp S.length g
 dbt:dbt S g=some ys
 prm:zs.Perm g
theorem zrY_pos (hn:∀ s∈S,s.a≠0∨s.b≠0) {g ys:List Int} (hg:Grp S.length g) (h:zrY S g=some ys):∀ y∈ys,0<y:=by
 have hm:∀ i,i<g.length→atS S g i∈S:=fun i hi=>getD_mem (show (g.getD i 0).toNat<S.length by have:=hg.rng _ (getD_mem hi 0);omega) sd0
 unfold zrY at h
 split at h
 ·rename_i h2
  unfold zr2 at h
  split at h
  ·cases h
   have p0:=siz_pos (hn _ (hm 0 (by omega)))
   have p1:=siz_pos (hn _ (hm 1 (by omega)))
   intro y hy
   have:y=siz (atS S g 1)∨y=siz (atS S g 0):=by simpa using hy
   omega
  ·cases h
 ·split at h
  ·unfold zr3 at h
   dsimp only at h
   split at h
   ·split at h
    ·rename_i q
     cases h
     intro y hy
     have:y = -(crs (atS S g 1) (atS S g 2))∨y = -(crs (atS S g 2) (atS S g 0))∨y = -(crs (atS S g 0) (atS S g 1)):=by simpa using hy
     omega
    ·cases h
   ·split at h
    ·rename_i q
     cases h
     intro y hy
     have:y=crs (atS S g 1) (atS S g 2)∨y=crs (atS S g 2) (atS S g 0)∨y=crs (atS S g 0) (atS S g 1):=by simpa using hy
     omega
    ·cases h
  ·cases h
end
theorem c_Doubt (w:World) (v:Value) (l:List Rn) (hR:RdF encRn 4 w.heap.size w v l) (h0:chkRs l=0) (hD:Dbt (sds l)) :
 Ct Tryz.prog 11 [v].toArray w fun r w'=>∃ Hq,(∃ x:Value × List Int × List Int × List Int,(PfOk (sds l) x.2.1 x.2.2.1 x.2.2.2∧r=.tuple #[.agg #[x.1,.int .i64 1],.int .i64 0])∧Hq=[OwE encPs 85 3 x.1 (pfL x.2.1 x.2.2.1 x.2.2.2)])∧Inv w [] Hq w':=by
 refine Ct.ofI mixed tyTab Tryz.func11 rfl rfl ?_
 replace hR:RdF encRn 4 (fnCx mixed tyTab Tryz.f11.ntmps w).B (fnCx mixed tyTab Tryz.f11.ntmps w).w0 v l:=hR
 have hrs:=chkRs0.1 h0
 have hsl:=sds_len l
 have hgr:=(grp_ok (m:=3) (by omega) hD.hit.1).1
 have hnz:=sds_nz hrs.2
 refine W.sreg (WO.alloc rfl rfl rfl (fun b1 hb1=>(WO.p rfl rfl (WO.nil (W.seq (W.sreg (WO.p rfl rfl (WO.callR rfl Tryz.call28 (fun L w hi=>c_CheckRuns w v l (hR.later hi)) rfl (WO.p rfl rfl (WO.nil (W.sreg (WO.p rfl rfl (WO.neqF rfl rfl (by omega) rfl (WO.nil (W.cond_f rfl (W.skip (W.seq (W.sreg (WO.p rfl rfl (WO.call (Post:=fun u Hq=>∃ (b:Nat) (rv sv:Value),u=.pointer (some ⟨b,0,none⟩)∧Hq=[pt b (.cells #[rv,sv] 142 (0,0)),OwE encPr 144 10 rv l,OwE encSd 72 3 sv (sds l)]) rfl Tryz.call29 (fun L w hi=>c_newTable w v l (hR.later hi) hrs.2 hrs.1) rfl ?_))))))))))))))))))))
 rintro _ _ ⟨tb,rv,sv,rfl,rfl⟩
 refine WO.call (Post:=fun u Hq=>∃ mb:Nat,u=.tuple #[mdV (.map (some mb)) (dbS (sds l)) 1,.bool true]∧Hq=[dbP (sds l) mb]) rfl Tryz.call30 (fun L w hi=>by have h:=c_doubt w ⟨tb,0,none⟩ rv sv l (Tbl.own (b:=tb) (by repeat exact .head) (by repeat first | exact .head | apply Pick.tail) (by repeat first | exact .head | apply Pick.tail) hi) hrs.2 hrs.1;have e1:∀ mb,dbQ (sds l) mb=some mb:=fun mb=>if_pos hD;simp only [e1,show dbT (sds l)=1 from if_pos hD,show bl (Dbt (sds l))=true from bl_t.2 hD] at h;exact h) rfl ?_
 rintro _ _ ⟨mb,rfl,rfl⟩
 refine WO.p rfl rfl (WO.p rfl rfl (WO.extract (i:=1) rfl rfl rfl (WO.alloc rfl rfl rfl (fun b2 hb2=>(WO.storeA rfl rfl rfl rfl Pick.head rfl rfl (WO.p rfl rfl (WO.nil (W.sreg (WO.p rfl rfl (WO.nil (W.cond_t rfl (W.chgE (dbP_open hD (by repeat first | exact .head | apply Pick.tail)) ?_))))))))))))
 rintro ys hys
 have hzy:=dbt_zrY hys
 have hyp:=zrY_pos hnz hgr hzy
 refine W.sreg (WO.loadA rfl rfl (Cells.own (Pick.tail (Pick.head))) rfl rfl (WO.callH1 (A:=pt mb (.map (tkL (hitG (sds l)) ys (hitG (sds l)).length).toArray (hitG (sds l)).length)) rfl Tryz.call31 (by repeat exact .head) (fun L w hi hB2=>c_proof _ w mb (hitG (sds l)) ys (dbS (sds l)) 1 hB2 (fun x hx=>by have:=hgr.rng x hx;omega) hgr.nd hgr.len.2 (zrY_len hzy) (fun y hy=>by have:=hyp y hy;omega)) rfl ?_))
 rintro _ _ ⟨⟨pv,zs⟩,⟨hzp,rfl⟩,rfl⟩
 refine WO.fact (OwE.sl (enc:=encPs) (e:=85) (sz:=3) (v:=pv) (xs:=pfL (hitG (sds l)) ys zs) (by repeat exact .head)) (fun hss=>?_)
 have hsoc:=hss.oc
 refine WO.storeA rfl rfl rfl rfl (Pick.tail (Pick.tail (Pick.tail (Pick.tail (Pick.tail (Pick.head)))))) rfl (all_oc hsoc) (WO.p rfl rfl (WO.nil (W.ret ?_)))
 refine fin.ret (Res.two rfl (RV.cell rfl rfl rfl (Cells.own (by repeat exact .head))) (RV.tmp rfl)) ⟨(pv,hitG (sds l),ys,zs),⟨⟨hgr,hys,hzp⟩,rfl⟩,fun h hs=>Sub.sat (by repeat (first | exact Sub.nil | refine Sub.cons (by repeat first | exact .head | apply Pick.tail) ?_)) hs⟩
end Go.Proofs.YthoeeeehfkenkaaGreat.Sp
namespace Go.Proofs.YthoeeeehfkenkaaGreat.Sp
open Go Go.TH
set_option maxRecDepth 10000
def pSide (l:List Rn) (x:Ps):Sd:=if x.2.1=true then hiS (l.getD x.1.toNat rn0) else loS (l.getD x.1.toNat rn0)
def pfS (l:List Rn) (xs:List Ps):Sd:=xs.foldl (fun s x=>addS s (byS (pSide l x) x.2.2)) sd0
theorem fold_perm {α:Type} (f:Sd→α→Sd) (hc:∀ z x y,f (f z x) y=f (f z y) x) {l l':List α} (p:l.Perm l'):∀ z,l.foldl f z=l'.foldl f z:=by
 induction p with
 | nil=>intro _;rfl
 | cons x _ ih=>intro z;exact ih _
 | swap x y l=>intro z;show List.foldl f (f (f z y) x) l=List.foldl f (f (f z x) y) l;rw [hc]
 | trans _ _ h1 h2=>intro z;rw [h1,h2]
theorem addS_comm (z x y:Sd):addS (addS z x) y=addS (addS z y) x:=by unfold addS;congr 1 <;> dsimp only <;> omega
theorem idx_nd {g:List Int} (hg:g.Nodup) {i:Nat} (h:i<g.length):g.idxOf (g.getD i 0)=i:=by
 obtain ⟨h1,h2⟩:=idx_of (getD_mem h (0:Int))
 have e1:g.getD (g.idxOf (g.getD i 0)) 0=g[g.idxOf (g.getD i 0)]:=by
  rw [List.getD_eq_getElem?_getD,List.getElem?_eq_getElem h1];rfl
 have e2:g.getD i 0=g[i]:=by simp [h]
 rw [e1] at h2
 exact (List.getElem_inj hg).1 (h2.trans e2)
theorem tkS_fold {S:List Sd} {g ys:List Int} (hg:g.Nodup):∀ {n:Nat},n≤g.length→tkS S g ys n=(g.take n).foldl (fun s x=>addS s (byS (S.getD x.toNat sd0) (ys.getD (g.idxOf x) 0))) sd0
 | 0,_=>rfl
 | n+1,h=>by
  rw [take_succ_getD (by omega) 0,List.foldl_append,← tkS_fold hg (n:=n) (by omega)]
  show _=addS (tkS S g ys n) _
  rw [idx_nd hg (by omega)]
  rfl
theorem pSide_eq {l:List Rn} {g ys:List Int} {x:Int} (h:0≤x∧x<2*l.length):pSide l (psE g ys x)=(sds l).getD x.toNat sd0:=by
 obtain ⟨k,rfl⟩:=Int.eq_ofNat_of_zero_le h.1
 have h2:=sds_get (l:=l) (i:=k) (by omega)
 have e:(sds l).getD (k:Int).toNat sd0=sAt (sds l) k:=rfl
 rw [e,h2]
 unfold pSide psE
 dsimp only
 have e1:(k:Int).tdiv 2=((k/2:Nat):Int):=(Int.ofNat_tdiv k 2).symm
 have e2:(k:Int).tmod 2=((k%2:Nat):Int):=(Int.ofNat_tmod k 2).symm
 rw [e1,e2,Int.toNat_natCast]
 rcases Nat.mod_two_eq_zero_or_one k with q | q
 ·rw [if_neg (show ¬ bl (((k%2:Nat):Int)=1)=true by rw [bl_t];omega),if_pos q]
 ·rw [if_pos (show bl (((k%2:Nat):Int)=1)=true by rw [bl_t];omega),if_neg (show ¬ k%2=0 by omega)]
theorem pf_tk {l:List Rn} {g ys zs:List Int} (hg:Grp (sds l).length g) (hp:zs.Perm g):pfS l (pfL g ys zs)=tkS (sds l) g ys g.length:=by
 rw [tkS_fold hg.nd (Nat.le_refl _),List.take_length]
 unfold pfS pfL
 rw [List.foldl_map,fold_perm (fun s x=>addS s (byS (pSide l (psE g ys x)) (psE g ys x).2.2)) (fun z x y=>addS_comm _ _ _) hp]
 have hr:=hg.rng
 rw [sds_len] at hr
 have key:∀ (xs:List Int) (z:Sd),(∀ x∈xs,x∈g)→xs.foldl (fun s x=>addS s (byS (pSide l (psE g ys x)) (psE g ys x).2.2)) z=xs.foldl (fun s x=>addS s (byS ((sds l).getD x.toNat sd0) (ys.getD (g.idxOf x) 0))) z:=by
  intro xs
  induction xs with
  | nil=>intro _ _;rfl
  | cons x r ih =>
   intro z h
   have hx:=hr x (h x List.mem_cons_self)
   rw [List.foldl_cons,List.foldl_cons,pSide_eq (by omega)]
   exact ih _ fun y hy=>h y (List.mem_cons_of_mem _ hy)
 exact key g sd0 fun _ h=>h
theorem dbt_spec {S:List Sd} {g ys:List Int} (h:dbt S g=some ys):(tkS S g ys g.length).a=0∧(tkS S g ys g.length).b=0∧0<(tkS S g ys g.length).c:=by
 have hz:=dbt_zrY h
 unfold dbt at h
 rw [hz] at h
 dsimp only at h
 split at h
 ·rename_i q;exact q
 ·cases h
theorem zrY_le {S:List Sd} (hS:∀ s∈S,OkS 20 100000 s) {g ys:List Int} (hg:Grp S.length g) (h:zrY S g=some ys):∀ y∈ys,y≤1000:=by
 have hm:∀ i,i<g.length→OkS 20 100000 (atS S g i):=fun i hi=>hS _ (getD_mem (show (g.getD i 0).toNat<S.length by have:=hg.rng _ (getD_mem hi 0);omega) sd0)
 unfold zrY at h
 split at h
 ·unfold zr2 at h
  split at h
  ·cases h
   have p0:=siz_bd (hm 0 (by omega))
   have p1:=siz_bd (hm 1 (by omega))
   intro y hy
   have:y=siz (atS S g 1)∨y=siz (atS S g 0):=by simpa using hy
   omega
  ·cases h
 ·split at h
  ·have c1:=(crs_bd (hm 1 (by omega)) (hm 2 (by omega))).2.2
   have c2:=(crs_bd (hm 2 (by omega)) (hm 0 (by omega))).2.2
   have c3:=(crs_bd (hm 0 (by omega)) (hm 1 (by omega))).2.2
   unfold zr3 at h
   dsimp only at h
   split at h
   ·split at h
    ·cases h
     intro y hy
     have:y = -(crs (atS S g 1) (atS S g 2))∨y = -(crs (atS S g 2) (atS S g 0))∨y = -(crs (atS S g 0) (atS S g 1)):=by simpa using hy
     omega
    ·cases h
   ·split at h
    ·cases h
     intro y hy
     have:y=crs (atS S g 1) (atS S g 2)∨y=crs (atS S g 2) (atS S g 0)∨y=crs (atS S g 0) (atS S g 1):=by simpa using hy
     omega
    ·cases h
  ·cases h
def OkPs (n:Nat) (x:Ps):Prop:=(0≤x.1∧x.1<n)∧1≤x.2.2∧x.2.2≤1000
theorem PfOk.ok {l:List Rn} (h0:OkRs l) {g ys zs:List Int} (h:PfOk (sds l) g ys zs):∀ x∈pfL g ys zs,OkPs l.length x:=fun x hx=>by
 obtain ⟨z,hz,rfl⟩:=List.mem_map.1 hx
 have hzg:=h.prm.mem_iff.1 hz
 have hr:=h.grp.rng z hzg
 rw [sds_len] at hr
 have e:z.tdiv 2=z/2:=Int.tdiv_eq_ediv_of_nonneg hr.1
 have hy:=dbt_zrY h.dbt
 have hi:=(idx_of hzg).1
 have hm:ys.getD (g.idxOf z) 0∈ys:=getD_mem (by rw [zrY_len hy];exact hi) 0
 have h1:=zrY_pos (sds_nz h0) h.grp hy _ hm
 have h2:=zrY_le (sds_ok h0) h.grp hy _ hm
 refine ⟨⟨?_,?_⟩,h1,h2⟩
 ·show 0≤z.tdiv 2;omega
 ·show z.tdiv 2<_;omega
theorem PfOk.sum {l:List Rn} {g ys zs:List Int} (h:PfOk (sds l) g ys zs):(pfS l (pfL g ys zs)).a=0∧(pfS l (pfL g ys zs)).b=0∧0<(pfS l (pfL g ys zs)).c:=by
 rw [pf_tk h.grp h.prm];exact dbt_spec h.dbt
theorem PfOk.len {l:List Rn} {g ys zs:List Int} (h:PfOk (sds l) g ys zs):(pfL g ys zs).length≤3:=by
 rw [pf_len,h.prm.length_eq];exact h.grp.len.2
theorem pfS_step {l:List Rn} {xs:List Ps} {i:Nat} (h:i<xs.length):pfS l (xs.take (i+1))=addS (pfS l (xs.take i)) (byS (pSide l (xs.getD i ps0)) (xs.getD i ps0).2.2):=by
 unfold pfS;rw [take_succ_getD h ps0,List.foldl_append];rfl
theorem pfS_bd {l:List Rn} (h0:OkRs l) {xs:List Ps} (hx:∀ x∈xs,OkPs l.length x):∀ {i:Nat},i≤xs.length→OkS (20000*i) (100000000*i) (pfS l (xs.take i))
 | 0,_=>⟨by simp [pfS,sd0],by simp [pfS,sd0],by simp [pfS,sd0]⟩
 | i+1,h=>by
  have h1:=pfS_bd h0 hx (i:=i) (by omega)
  obtain ⟨h2,h3,h4⟩:=hx _ (getD_mem (show i<xs.length by omega) ps0)
  have hr:=h0 _ (getD_mem (show (xs.getD i ps0).1.toNat<l.length by omega) rn0)
  have h5:OkS 20 100000 (pSide l (xs.getD i ps0)):=by
   unfold pSide
   split
   ·exact OkS.hi hr
   ·exact OkS.lo hr
  have h6:=h5.by_ (N:=1000) (n:=(xs.getD i ps0).2.2) (by omega)
  rw [pfS_step (by omega)]
  obtain ⟨a1,a2,a3⟩:=h1
  obtain ⟨b1,b2,b3⟩:=h6
  have e1:(20000:Int)*((i+1:Nat):Int)=20000*i+20000:=by omega
  have e2:(100000000:Int)*((i+1:Nat):Int)=100000000*i+100000000:=by omega
  rw [e1,e2]
  exact ⟨by show _≤_+_∧_+_≤_;omega,by show _≤_+_∧_+_≤_;omega,by show _≤_+_∧_+_≤_;omega⟩
theorem pf_up {l:List Rn} {x:Ps} {a b c:Int} (h:x.2.1=true):addS ⟨a,b,c⟩ (byS (pSide l x) x.2.2)=⟨a-(l.getD x.1.toNat rn0).p*x.2.2,b-(l.getD x.1.toNat rn0).q*x.2.2,c-(l.getD x.1.toNat rn0).hi*x.2.2⟩:=by
 unfold pSide;rw [if_pos h];unfold addS byS hiS;dsimp only;rw [Int.neg_mul,Int.neg_mul,Int.neg_mul];rfl
theorem pf_lo {l:List Rn} {x:Ps} {a b c:Int} (h:¬ x.2.1=true):addS ⟨a,b,c⟩ (byS (pSide l x) x.2.2)=⟨a+(l.getD x.1.toNat rn0).p*x.2.2,b+(l.getD x.1.toNat rn0).q*x.2.2,c+(l.getD x.1.toNat rn0).lo*x.2.2⟩:=by
 unfold pSide;rw [if_neg h];rfl
end Go.Proofs.YthoeeeehfkenkaaGreat.Sp
namespace Go.Proofs.YthoeeeehfkenkaaGreat.Sp
open Go Go.TH
attribute [local irreducible] W WO pt
set_option maxRecDepth 10000
set_option maxHeartbeats 1000000
theorem chkA_1 {l:List Rn} {p q:Int} (h:chkRs l≠0):chkA l p q=chkRs l:=if_pos h
theorem chkA_0 {l:List Rn} {p q:Int} (h:chkRs l=0) (hp:OkN p) (hq:OkN q):chkA l p q=0:=by unfold chkA;rw [if_neg (by omega),if_pos ⟨hp,hq⟩]
theorem chkA_3 {l:List Rn} {p q:Int} (h:chkRs l=0) (hn:¬ (OkN p∧OkN q)):chkA l p q=3:=by unfold chkA;rw [if_neg (by omega),if_neg hn]
theorem ref_asked (w:World) (v:Value) (l:List Rn) (p q:Int) (hR:RdF encRn 4 w.heap.size w v l):Ret Tryz.prog 32 [v,.int .i64 p,.int .i64 q].toArray w (.int .i64 (chkA l p q)):=by
 refine Ret.of mixed tyTab Tryz.func32 rfl rfl ?_
 replace hR:RdF encRn 4 (fnCx mixed tyTab Tryz.f32.ntmps w).B (fnCx mixed tyTab Tryz.f32.ntmps w).w0 v l:=hR
 refine W.sreg (WO.p rfl rfl (WO.nil (W.seq (W.sreg (WO.p rfl rfl (WO.callR rfl Tryz.call6 (fun L w hi=>ref_CheckRuns w v l (hR.later hi)) rfl (WO.p rfl rfl (WO.nil ?_))))))))
 refine W.cond_bl rfl (fun c1=>?_) (fun c1=>?_)
 ·refine W.sreg (WO.p rfl rfl (WO.callR rfl Tryz.call6 (fun L w hi=>ref_CheckRuns w v l (hR.later hi)) rfl (WO.p rfl rfl (WO.nil (W.ret (fin.ret (Res.one rfl (RV.tmp rfl)) (congrArg (Value.int .i64) ?_)))))))
  first | exact (chkA_1 (by assumption)).symm | exact (chkA_3 (by omega) (fun h=>absurd h.1 (by assumption))).symm | exact (chkA_3 (by omega) (fun h=>absurd h.2 (by assumption))).symm | exact (chkA_0 (by omega) (by first | assumption | exact Decidable.not_not.1 (by assumption)) (by first | assumption | exact Decidable.not_not.1 (by assumption))).symm
 ·refine W.skip (W.seq (W.sreg (WO.p rfl rfl (WO.callR rfl Tryz.call19 (fun L w hi=>ref_factor w p) rfl (WO.p rfl rfl (WO.p rfl rfl ?_))))))
  refine WO.guard_nbl rfl rfl (fun c2=>?_) (fun c2=>?_)
  ·refine WO.no rfl rfl (WO.no rfl rfl (WO.no rfl rfl (WO.p rfl rfl (WO.nil (W.cond_t rfl (W.sreg (WO.p rfl rfl (WO.nil (W.ret (fin.ret (Res.one rfl (RV.tmp rfl)) (congrArg (Value.int .i64) ?_)))))))))))
   first | exact (chkA_1 (by assumption)).symm | exact (chkA_3 (by omega) (fun h=>absurd h.1 (by assumption))).symm | exact (chkA_3 (by omega) (fun h=>absurd h.2 (by assumption))).symm | exact (chkA_0 (by omega) (by first | assumption | exact Decidable.not_not.1 (by assumption)) (by first | assumption | exact Decidable.not_not.1 (by assumption))).symm
  ·refine WO.pg rfl rfl rfl (WO.go' rfl (WO.callR rfl Tryz.call19 (fun L w hi=>ref_factor w q) rfl (WO.pg rfl rfl rfl (WO.p rfl rfl (WO.nil ?_)))))
   refine W.cond_nbl rfl (fun c3=>?_) (fun c3=>?_)
   ·refine W.sreg (WO.p rfl rfl (WO.nil (W.ret (fin.ret (Res.one rfl (RV.tmp rfl)) (congrArg (Value.int .i64) ?_)))))
    first | exact (chkA_1 (by assumption)).symm | exact (chkA_3 (by omega) (fun h=>absurd h.1 (by assumption))).symm | exact (chkA_3 (by omega) (fun h=>absurd h.2 (by assumption))).symm | exact (chkA_0 (by omega) (by first | assumption | exact Decidable.not_not.1 (by assumption)) (by first | assumption | exact Decidable.not_not.1 (by assumption))).symm
   ·refine W.skip (W.sreg (WO.p rfl rfl (WO.nil (W.ret (fin.ret (Res.one rfl (RV.tmp rfl)) (congrArg (Value.int .i64) ?_))))))
    first | exact (chkA_1 (by assumption)).symm | exact (chkA_3 (by omega) (fun h=>absurd h.1 (by assumption))).symm | exact (chkA_3 (by omega) (fun h=>absurd h.2 (by assumption))).symm | exact (chkA_0 (by omega) (by first | assumption | exact Decidable.not_not.1 (by assumption)) (by first | assumption | exact Decidable.not_not.1 (by assumption))).symm
end Go.Proofs.YthoeeeehfkenkaaGreat.Sp
namespace Go.Proofs.YthoeeeehfkenkaaGreat.Sp
open Go Go.TH
attribute [local irreducible] W WO pt
set_option maxRecDepth 10000
set_option maxHeartbeats 1000000
theorem bl_self (b:Bool):bl (b=true)=b:=by rw [bl_eq];cases b <;> rfl
theorem RdF.cellsP {C:Cx Tryz.prog} {H:List HP} {o:Value} {xs:List Ps} (h:RdF encPs 3 C.B C.w0 o xs) {i:Nat} (h1:i<xs.length):Cells C H (elt o i 3) [.int .i64 (xs.getD i ps0).1,.bool (bl ((xs.getD i ps0).2.1=true)),.int .i64 (xs.getD i ps0).2.2]:=by
 rw [bl_self]
 exact RdF.cells h h1 ps0
theorem RdF.cellsZ {C:Cx Tryz.prog} {H:List HP} {o:Value} {l:List Rn} (h:RdF encRn 4 C.B C.w0 o l) {z:Int} (h0:0≤z) (h1:z<l.length):Cells C H (elt o z.toNat 4) [.int .i64 (l.getD z.toNat rn0).p,.int .i64 (l.getD z.toNat rn0).q,.int .i64 (l.getD z.toNat rn0).lo,.int .i64 (l.getD z.toNat rn0).hi]:=RdF.cells4 h (by omega)
theorem pf_all {l:List Rn} {xs:List Ps} {i:Nat} {s:Sd} (h:s=pfS l (xs.take i)) (hi:i=xs.length):s=pfS l xs:=by subst hi;rw [h,List.take_length]
theorem ref_CheckProof (w:World) (v:Value) (l:List Rn) (u:Value) (xs:List Ps) (hR:RdF encRn 4 w.heap.size w v l) (hX:RdF encPs 3 w.heap.size w u xs) (h0:chkRs l=0) (hx:∀ x∈xs,OkPs l.length x) (hl:xs.length≤24) (ha:(pfS l xs).a=0) (hb:(pfS l xs).b=0) :
 Ret Tryz.prog 12 [v,.int .i64 0,.int .i64 0,.agg #[u,.int .i64 1]].toArray w (.tuple #[raV (red (pfS l xs).c 1),.int .i64 0]):=by
 refine Ret.of mixed tyTab Tryz.func12 rfl rfl ?_
 replace hR:RdF encRn 4 (fnCx mixed tyTab Tryz.f12.ntmps w).B (fnCx mixed tyTab Tryz.f12.ntmps w).w0 v l:=hR
 replace hX:RdF encPs 3 (fnCx mixed tyTab Tryz.f12.ntmps w).B (fnCx mixed tyTab Tryz.f12.ntmps w).w0 u xs:=hX
 have hrs:=chkRs0.1 h0
 have hA:=chkA_0 (p:=0) (q:=0) h0 (by unfold OkN;omega) (by unfold OkN;omega)
 have huo:=hX.sl.oc
 have hbd:OkS 1000000 10000000000 (pfS l xs):=by
  have h:=pfS_bd hrs.2 hx (Nat.le_refl _)
  rw [List.take_length] at h
  exact h.up (by omega) (by omega)
 refine W.sreg (WO.boxA rfl rfl (fun b1 hb1=>(WO.alloc rfl rfl rfl (fun b2 hb2=>(WO.p rfl rfl (WO.nil (W.seq (W.sreg (WO.p rfl rfl (WO.p rfl rfl (WO.p rfl rfl (WO.callR rfl Tryz.call32 (fun L w hi=>ref_asked w v l 0 0 (hR.later hi)) rfl (WO.neqF rfl rfl (by omega) rfl (WO.nil (W.cond_f rfl (W.skip (W.seq (W.sreg (WO.field0 rfl rfl rfl (WO.load rfl rfl (Cell.own (Pick.tail (Pick.head)) rfl) rfl (WO.len rfl rfl hX.sl rfl (WO.gtrF rfl rfl (by omega) rfl (WO.nil (W.cond_f rfl (W.skip (W.seq (W.sreg (WO.p rfl rfl (WO.nil (W.block ?_))))))))))))))))))))))))))))))
 refine W.loop (fun (i:Nat)=>i≤xs.length)
  (fun (i:Nat)=>[(0,v),(1,.int .i64 0),(2,.int .i64 0),(7,.pointer (some ⟨b1,0,none⟩)),(8,.pointer (some ⟨b2,0,none⟩)),(9,.int .i64 0),(10,.int .i64 (i:Int))])
  (fun (i:Nat)=>[pt b1 (.cells #[u,.int .i64 1] 52 (0,0)),pt b2 (.cells #[.int .i64 0,.int .i64 0] 39 (0,0))])
  (fun (i:Nat)=>xs.length-i) 0
  (by omega) ⟨rfl,rfl,rfl,rfl,rfl,rfl,rfl,trivial⟩ (by repeat (first | exact Sub.nil | refine Sub.cons (by repeat first | exact .head | apply Pick.tail) ?_)) ?_
 rintro i hi0
 refine W.seq (W.sreg (WO.p rfl rfl (WO.field0 rfl rfl rfl (WO.load rfl rfl (Cell.own Pick.head rfl) rfl (WO.len rfl rfl hX.sl rfl (WO.p rfl rfl (WO.nil ?_)))))))
 refine W.cond_bl rfl (fun c1=>?_) (fun c1=>?_)
 ·refine W.skip (W.seq (W.block ?_))
  obtain ⟨hx1,hx2⟩:=hx _ (getD_mem (show i<xs.length by omega) ps0)
  refine W.sreg (WO.field0 rfl rfl rfl (WO.load rfl rfl (Cell.own Pick.head rfl) rfl (WO.p rfl rfl (WO.indexAddr rfl rfl rfl hX.sl (by omega) rfl (WO.loadA rfl rfl (RdF.cellsP hX (i:=i) (by omega)) rfl rfl (WO.alloc rfl rfl rfl (fun b3 hb3=>(WO.storeA rfl rfl rfl rfl Pick.head rfl rfl (WO.nil (W.sreg (WO.field0 rfl rfl rfl (WO.load rfl rfl (Cell.own Pick.head rfl) rfl (WO.p rfl rfl (WO.p rfl rfl ?_))))))))))))))
  refine WO.guard_bl rfl rfl (fun c2=>?_) (fun c2=>?_)
  ·exfalso;omega
  ·refine WO.go' rfl (WO.field0 rfl rfl rfl (WO.go' rfl (WO.load rfl rfl (Cell.own Pick.head rfl) rfl (WO.pg rfl rfl rfl (WO.go' rfl (WO.len rfl rfl hR.sl rfl (WO.pg rfl rfl rfl (WO.p rfl rfl (WO.p rfl rfl ?_)))))))))
   refine WO.guard_bl rfl rfl (fun c3=>?_) (fun c3=>?_)
   ·exfalso;omega
   ·refine WO.go' rfl (WO.fieldL rfl rfl rfl (WO.go' rfl (WO.load rfl rfl (Cell.own Pick.head rfl) rfl (WO.pg rfl rfl rfl (WO.p rfl rfl (WO.p rfl rfl ?_))))))
    refine WO.guard_bl rfl rfl (fun c4=>?_) (fun c4=>?_)
    ·exfalso;omega
    ·refine WO.go' rfl (WO.fieldL rfl rfl rfl (WO.go' rfl (WO.load rfl rfl (Cell.own Pick.head rfl) rfl (WO.pg rfl rfl rfl (WO.p rfl rfl (WO.nil ?_))))))
     refine W.cond_bl rfl (fun c5=>?_) (fun c5=>?_)
     ·exfalso;omega
     ·refine W.skip (W.region (WO.p rfl rfl (WO.ar rfl rfl rfl (by unfold in64;omega) rfl (WO.p rfl rfl (WO.nil ?_)))))
      refine' ⟨i+1,?hp,?hmu,⟨rfl,rfl,rfl,rfl,rfl,rfl,rfl,trivial⟩,?hS⟩
      case hS=>repeat (first | exact Sub.nil | refine Sub.cons (by repeat first | exact .head | apply Pick.tail) ?_)
      case hp=>omega
      case hmu=>omega
 ·refine W.exit (blk_same (W.seq (W.sreg (WO.fieldL rfl rfl rfl (WO.load rfl rfl (Cell.own Pick.head rfl) rfl (WO.p rfl rfl (WO.p rfl rfl ?_)))))))
  refine WO.guard_bl rfl rfl (fun c6=>?_) (fun c6=>?_)
  ·exfalso;omega
  ·refine WO.go' rfl (WO.fieldL rfl rfl rfl (WO.go' rfl (WO.load rfl rfl (Cell.own Pick.head rfl) rfl (WO.go' rfl (WO.gtrF rfl rfl (by omega) rfl (WO.p rfl rfl (WO.nil (W.cond_f rfl (W.skip (W.sreg (WO.p rfl rfl (WO.p rfl rfl (WO.p rfl rfl (WO.nil (W.seq (W.sreg (WO.p rfl rfl (WO.nil (W.block ?_)))))))))))))))))))
   refine W.loop4 (fun (i:Nat) (a:Int) (b:Int) (c:Int)=>i≤xs.length∧(⟨a,b,c⟩:Sd)=pfS l (xs.take i))
    (fun (i:Nat) (a:Int) (b:Int) (c:Int)=>[(0,v),(1,.int .i64 0),(2,.int .i64 0),(7,.pointer (some ⟨b1,0,none⟩)),(8,.pointer (some ⟨b2,0,none⟩)),(9,.int .i64 0),(12,.int .i64 a),(13,.int .i64 b),(14,.int .i64 c),(15,.int .i64 (i:Int))])
    (fun (i:Nat) (a:Int) (b:Int) (c:Int)=>[pt b1 (.cells #[u,.int .i64 1] 52 (0,0)),pt b2 (.cells #[.int .i64 0,.int .i64 0] 39 (0,0))])
    (fun (i:Nat) (a:Int) (b:Int) (c:Int)=>xs.length-i) 0 0 0 0
    (by exact ⟨by omega,rfl⟩) ⟨rfl,rfl,rfl,rfl,rfl,rfl,rfl,rfl,rfl,rfl,trivial⟩ (by repeat (first | exact Sub.nil | refine Sub.cons (by repeat exact .head) ?_)) ?_
   rintro i a b c ⟨hi0,he⟩
   refine W.seq (W.sreg (WO.p rfl rfl (WO.field0 rfl rfl rfl (WO.load rfl rfl (Cell.own Pick.head rfl) rfl (WO.len rfl rfl hX.sl rfl (WO.p rfl rfl (WO.nil ?_)))))))
   refine W.cond_bl rfl (fun c7=>?_) (fun c7=>?_)
   ·refine W.skip (W.seq (W.block ?_))
    obtain ⟨hx1,hx2⟩:=hx _ (getD_mem (show i<xs.length by omega) ps0)
    have hb1:=(pfS_bd hrs.2 hx (i:=i) (by omega)).up (A':=1000000) (B':=10000000000) (by omega) (by omega)
    rw [← he] at hb1
    obtain ⟨hba,hbb,hbc⟩:=hb1
    dsimp only at hba hbb hbc
    have hrn:=hrs.2 _ (getD_mem (show (xs.getD i ps0).1.toNat<l.length by omega) rn0)
    have m1:=mul_bd (A:=20) (B:=1000) hrn.1 (show -1000≤(xs.getD i ps0).2.2∧(xs.getD i ps0).2.2≤1000 by omega)
    have m2:=mul_bd (A:=20) (B:=1000) hrn.2.1 (show -1000≤(xs.getD i ps0).2.2∧(xs.getD i ps0).2.2≤1000 by omega)
    obtain ⟨_,_,_,q1,q2,q3⟩:=hrn
    have m3:=mul_bd (A:=100000) (B:=1000) (show -100000≤(l.getD (xs.getD i ps0).1.toNat rn0).lo∧(l.getD (xs.getD i ps0).1.toNat rn0).lo≤100000 by omega) (show -1000≤(xs.getD i ps0).2.2∧(xs.getD i ps0).2.2≤1000 by omega)
    have m4:=mul_bd (A:=100000) (B:=1000) (show -100000≤(l.getD (xs.getD i ps0).1.toNat rn0).hi∧(l.getD (xs.getD i ps0).1.toNat rn0).hi≤100000 by omega) (show -1000≤(xs.getD i ps0).2.2∧(xs.getD i ps0).2.2≤1000 by omega)
    refine W.sreg (WO.field0 rfl rfl rfl (WO.load rfl rfl (Cell.own Pick.head rfl) rfl (WO.p rfl rfl (WO.indexAddr rfl rfl rfl hX.sl (by omega) rfl (WO.loadA rfl rfl (RdF.cellsP hX (i:=i) (by omega)) rfl rfl (WO.alloc rfl rfl rfl (fun b4 hb4=>(WO.storeA rfl rfl rfl rfl Pick.head rfl rfl (WO.nil (W.sreg (WO.p rfl rfl (WO.field0 rfl rfl rfl (WO.load rfl rfl (Cell.own Pick.head rfl) rfl ?_)))))))))))))
    refine' WO.indexAddrZ (n:=_) rfl rfl rfl ?hs ?h00 ?h1 rfl ?_
    case hs=>exact hR.sl
    case h00=>omega
    case h1=>(omega)
    refine WO.loadA rfl rfl (RdF.cellsZ hR hx1.1 hx1.2) rfl rfl (WO.alloc rfl rfl rfl (fun b5 hb5=>(WO.storeA rfl rfl rfl rfl Pick.head rfl rfl (WO.nil (W.sreg (WO.fieldL rfl rfl rfl (WO.load rfl rfl (Cell.own (Pick.tail (Pick.head)) rfl) rfl (WO.nil ?_))))))))
    refine W.cond_bl rfl (fun c8=>?_) (fun c8=>?_)
    ·refine W.sreg (WO.p rfl rfl (WO.field0 rfl rfl rfl (WO.load rfl rfl (Cell.own Pick.head rfl) rfl (WO.fieldL rfl rfl rfl (WO.load rfl rfl (Cell.own (Pick.tail (Pick.head)) rfl) rfl (WO.ar rfl rfl rfl (by unfold in64;omega) rfl (WO.ar rfl rfl rfl (by unfold in64;omega) rfl (WO.p rfl rfl (WO.nil (W.sreg (WO.p rfl rfl (WO.fieldL rfl rfl rfl (WO.load rfl rfl (Cell.own Pick.head rfl) rfl (WO.fieldL rfl rfl rfl (WO.load rfl rfl (Cell.own (Pick.tail (Pick.head)) rfl) rfl (WO.ar rfl rfl rfl (by unfold in64;omega) rfl (WO.ar rfl rfl rfl (by unfold in64;omega) rfl (WO.p rfl rfl (WO.nil (W.region ?_))))))))))))))))))))
     refine WO.p rfl rfl (WO.fieldL rfl rfl rfl (WO.fieldL rfl rfl rfl (WO.load rfl rfl (Cell.own Pick.head rfl) rfl (WO.fieldL rfl rfl rfl (WO.load rfl rfl (Cell.own (Pick.tail (Pick.head)) rfl) rfl (WO.ar rfl rfl rfl (by unfold in64;omega) rfl (WO.ar rfl rfl rfl (by unfold in64;omega) rfl (WO.p rfl rfl (WO.nil (W.region (WO.p rfl rfl (WO.ar rfl rfl rfl (by unfold in64;omega) rfl (WO.p rfl rfl (WO.nil ?_))))))))))))))
     refine' ⟨i+1,_,_,_,?hp,?hmu,⟨rfl,rfl,rfl,rfl,rfl,rfl,rfl,rfl,rfl,rfl,trivial⟩,?hS⟩
     case hS=>repeat (first | exact Sub.nil | refine Sub.cons (by repeat first | exact .head | apply Pick.tail) ?_)
     case hp=>exact ⟨by omega,by rw [pfS_step (by omega),← he];exact (pf_up (by assumption)).symm⟩
     case hmu=>omega
    ·refine W.sreg (WO.p rfl rfl (WO.field0 rfl rfl rfl (WO.load rfl rfl (Cell.own Pick.head rfl) rfl (WO.fieldL rfl rfl rfl (WO.load rfl rfl (Cell.own (Pick.tail (Pick.head)) rfl) rfl (WO.ar rfl rfl rfl (by unfold in64;omega) rfl (WO.ar rfl rfl rfl (by unfold in64;omega) rfl (WO.p rfl rfl (WO.nil (W.sreg (WO.p rfl rfl (WO.fieldL rfl rfl rfl (WO.load rfl rfl (Cell.own Pick.head rfl) rfl (WO.fieldL rfl rfl rfl (WO.load rfl rfl (Cell.own (Pick.tail (Pick.head)) rfl) rfl (WO.ar rfl rfl rfl (by unfold in64;omega) rfl (WO.ar rfl rfl rfl (by unfold in64;omega) rfl (WO.p rfl rfl (WO.nil (W.region ?_))))))))))))))))))))
     refine WO.p rfl rfl (WO.fieldL rfl rfl rfl (WO.field0 rfl rfl rfl (WO.load rfl rfl (Cell.own Pick.head rfl) rfl (WO.fieldL rfl rfl rfl (WO.load rfl rfl (Cell.own (Pick.tail (Pick.head)) rfl) rfl (WO.ar rfl rfl rfl (by unfold in64;omega) rfl (WO.ar rfl rfl rfl (by unfold in64;omega) rfl (WO.p rfl rfl (WO.nil (W.region (WO.p rfl rfl (WO.ar rfl rfl rfl (by unfold in64;omega) rfl (WO.p rfl rfl (WO.nil ?_))))))))))))))
     refine' ⟨i+1,_,_,_,?hp,?hmu,⟨rfl,rfl,rfl,rfl,rfl,rfl,rfl,rfl,rfl,rfl,trivial⟩,?hS⟩
     case hS=>repeat (first | exact Sub.nil | refine Sub.cons (by repeat first | exact .head | apply Pick.tail) ?_)
     case hp=>exact ⟨by omega,by rw [pfS_step (by omega),← he];exact (pf_lo (by assumption)).symm⟩
     case hmu=>omega
   ·refine W.exit (blk_same (W.seq ?_))
    have hee:=pf_all he (by omega)
    rw [← hee] at ha hb hbd
    obtain ⟨_,_,hbc⟩:=hbd
    dsimp only at ha hb hbc
    refine W.sreg (WO.p rfl rfl (WO.p rfl rfl (WO.fieldL rfl rfl rfl (WO.load rfl rfl (Cell.own Pick.head rfl) rfl (WO.ar rfl rfl rfl (by unfold in64;omega) rfl (WO.neqF rfl rfl (by omega) rfl (WO.p rfl rfl (WO.pg rfl rfl rfl (WO.pg rfl rfl rfl (WO.go' rfl (WO.fieldL rfl rfl rfl (WO.go' rfl (WO.load rfl rfl (Cell.own Pick.head rfl) rfl (WO.go' rfl (WO.ar rfl rfl rfl (by unfold in64;omega) rfl (WO.go' rfl (WO.neqF rfl rfl (by omega) rfl (WO.p rfl rfl (WO.nil (W.cond_f rfl (W.skip (W.sreg (WO.p rfl rfl (WO.fieldL rfl rfl rfl (WO.load rfl rfl (Cell.own Pick.head rfl) rfl ?_)))))))))))))))))))))))))
    refine WO.callR rfl Tryz.call33 (fun L w hi=>ref_Reduced w c 1 (by omega) (by omega)) rfl (WO.storeA rfl rfl rfl rfl (Pick.tail (Pick.head)) rfl rfl (WO.p rfl rfl (WO.nil (W.ret (fin.ret (Res.two rfl (RV.cell rfl rfl rfl (Cells.own (by repeat exact .head))) (RV.tmp rfl)) ?_)))))
    rw [← hee]
end Go.Proofs.YthoeeeehfkenkaaGreat.Sp
