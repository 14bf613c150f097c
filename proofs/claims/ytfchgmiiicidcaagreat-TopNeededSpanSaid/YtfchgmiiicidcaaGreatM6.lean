/-
  What is proved here: the greatest bound of sides that put together are two factors. Conditions: none; each contract states its own.
-/
import Derived.Test.YtfchgmiiicidcaaGreatM5
import Derived.Test.YtfchgmiiicidcaaGreatM4
import Derived.Test.YtfchgmiiicidcaaGreatM3
set_option linter.unusedVariables false
set_option linter.unusedSimpArgs false
namespace Go.Proofs.YtfchgmiiicidcaaGreat.Sp
open Go Go.TH
attribute [local irreducible] W WO pt
set_option maxRecDepth 10000
set_option maxHeartbeats 1000000
def mst1 (a:Sd) (p q:Int):Option (List Int × Int):=if fit2 a ⟨p,q,0⟩ (siz ⟨p,q,0⟩) (-(siz a)) then some ([siz ⟨p,q,0⟩],siz a) else none
def mst2 (a b:Sd) (p q:Int):Option (List Int × Int) :=
 if crs a b<0 then (if 0 < -(crs a b)∧0 ≤ -(crs ⟨p,q,0⟩ b)∧0 ≤ -(crs a ⟨p,q,0⟩) then some ([-(crs ⟨p,q,0⟩ b),-(crs a ⟨p,q,0⟩)],-(crs a b)) else none)
 else (if 0<crs a b∧0≤crs ⟨p,q,0⟩ b∧0≤crs a ⟨p,q,0⟩ then some ([crs ⟨p,q,0⟩ b,crs a ⟨p,q,0⟩],crs a b) else none)
def mstG (S:List Sd) (p q:Int) (g:List Int):Option (List Int × Int):=if g.length=1 then mst1 (atS S g 0) p q else mst2 (atS S g 0) (atS S g 1) p q
def mstL (S:List Sd) (p q:Int) (g:List Int):List (Sd × Int):=match mstG S p q g with
 | some x=>[(tkS S g x.1 g.length,x.2)]
 | none=>[]
abbrev g2S (S:List Sd):List (List Int):=grp 2 S.length
def msts (S:List Sd) (p q:Int) (k:Nat):List (Sd × Int):=((g2S S).take k).flatMap (mstL S p q)
abbrev mstA (S:List Sd) (p q:Int):List (Sd × Int):=(g2S S).flatMap (mstL S p q)
theorem msts_succ {S:List Sd} {p q:Int} {k:Nat} {g:List Int} (h:(g2S S)[k]?=some g):msts S p q (k+1)=msts S p q k++mstL S p q g:=by
 unfold msts;rw [List.take_add_one,h,List.flatMap_append];simp
theorem msts_end (S:List Sd) (p q:Int):msts S p q (g2S S).length=mstA S p q:=by unfold msts;rw [List.take_length]
theorem mstL_len (S:List Sd) (p q:Int) (g:List Int):(mstL S p q g).length≤1:=by unfold mstL;split <;> simp
theorem msts_len (S:List Sd) (p q:Int):∀ k,(msts S p q k).length≤k
 | 0=>by simp [msts]
 | k+1=>by
  have ih:=msts_len S p q k
  cases h:(g2S S)[k]? with
  | none =>
   have hl:=List.getElem?_eq_none_iff.1 h
   have e:msts S p q (k+1)=msts S p q k:=by unfold msts;rw [List.take_of_length_le hl,List.take_of_length_le (by omega)]
   rw [e];omega
  | some g =>
   rw [msts_succ h,List.length_append]
   have:=mstL_len S p q g
   omega
theorem seg_le {β:Type} {lo:Nat} {g:Nat→List β} {B:Nat} (h:∀ i,(g i).length≤B):∀ {hi:Nat},(seg lo hi g).length≤hi*B
 | 0=>by unfold seg;simp
 | hi+1=>by
  rcases Nat.lt_or_ge hi lo with c | c
  ·unfold seg;rw [show hi+1-lo=0 by omega];simp
  ·rw [seg_succ c,List.length_append,Nat.succ_mul]
   have:=seg_le (lo:=lo) h (hi:=hi)
   have:=h hi
   omega
theorem g2_len {S:List Sd} (h:S.length≤24):(g2S S).length≤1000:=by
 have h2:∀ a,(F1 2 S.length a).length≤25:=fun a=>by
  unfold F1
  rw [List.length_cons]
  have:=seg_le (lo:=a+1) (g:=F2 2 S.length a) (B:=1) (fun b=>by unfold F2;simp) (hi:=S.length)
  omega
 have:=seg_le (lo:=0) h2 (hi:=S.length)
 have e:(g2S S).length=(seg 0 S.length (F1 2 S.length)).length:=rfl
 rw [e]
 have:S.length*25≤600:=by omega
 omega
theorem want_ok {p q:Int} (hp:OkN p) (hq:OkN q):OkS 20 1000000 ⟨p,q,0⟩:=⟨hp,hq,by dsimp only;omega,by dsimp only;omega⟩
theorem mst_ok {S:List Sd} (hS:∀ s∈S,OkS 20 100000 s) {p q:Int} (hp:OkN p) (hq:OkN q) {g:List Int} (hg:Grp S.length g) (h2:g.length≤2) {x:List Int × Int} (h:mstG S p q g=some x):x.1.length=g.length∧(∀ y∈x.1,-1000≤y∧y≤1000)∧(-1000≤x.2∧x.2≤1000):=by
 have hgn:=hg.len
 have hat:∀ i,i<g.length→OkS 20 1000000 (atS S g i):=fun i hi=>(hS _ (getD_mem (show (g.getD i 0).toNat<S.length by have:=hg.rng _ (getD_mem hi 0);omega) sd0)).up (by omega) (by omega)
 have hw:=want_ok hp hq
 have zw:=siz_bd hw
 have s0:=hat 0 (by omega)
 have z0:=siz_bd s0
 unfold mstG at h
 split at h
 ·rename_i h1
  unfold mst1 at h
  split at h
  ·cases h
   exact ⟨h1.symm,fun y hy=>by simp at hy;subst hy;omega,by dsimp only;omega⟩
  ·cases h
 ·rename_i h1
  have s1:=hat 1 (by omega)
  have c1:=(crs_bd s0 s1).2.2
  have c2:=(crs_bd hw s1).2.2
  have c3:=(crs_bd s0 hw).2.2
  unfold mst2 at h
  split at h
  ·split at h
   ·cases h
    exact ⟨by show 2=_;omega,y2_bd (by omega) (by omega),by dsimp only;omega⟩
   ·cases h
  ·split at h
   ·cases h
    exact ⟨by show 2=_;omega,y2_bd (by omega) (by omega),by dsimp only;omega⟩
   ·cases h
theorem siz_pos {s:Sd} (h:s.a≠0∨s.b≠0):0<siz s:=by unfold siz ab;omega
theorem mst_pos {S:List Sd} (hn:∀ s∈S,s.a≠0∨s.b≠0) {p q:Int} {g:List Int} (hg:Grp S.length g) {x:List Int × Int} (h:mstG S p q g=some x):0<x.2:=by
 have hgn:=hg.len
 unfold mstG at h
 split at h
 ·unfold mst1 at h
  split at h
  ·cases h
   exact siz_pos (hn _ (getD_mem (show (g.getD 0 0).toNat<S.length by have:=hg.rng _ (getD_mem (show 0<g.length by omega) 0);omega) sd0))
  ·cases h
 ·unfold mst2 at h
  split at h
  ·split at h
   ·rename_i c;cases h;exact c.1
   ·cases h
  ·split at h
   ·rename_i c;cases h;exact c.1
   ·cases h
theorem mstL_ok {S:List Sd} (hS:∀ s∈S,OkS 20 100000 s) (hn:∀ s∈S,s.a≠0∨s.b≠0) {p q:Int} (hp:OkN p) (hq:OkN q) {g:List Int} (hg:Grp S.length g) (h2:g.length≤2):∀ y∈mstL S p q g,OkM y:=fun y hy=>by
 unfold mstL at hy
 cases h:mstG S p q g with
 | none=>rw [h] at hy;simp at hy
 | some x =>
  rw [h] at hy
  obtain rfl:y=(tkS S g x.1 g.length,x.2):=by simpa using hy
  obtain ⟨a1,a2,a3⟩:=mst_ok hS hp hq hg h2 h
  have a4:=mst_pos hn hg h
  have a5:=(tkS_bd hS hg.rng a2 a1 (i:=g.length) (Nat.le_refl _)).c
  exact ⟨by dsimp only;omega,by dsimp only;omega⟩
theorem mstA_ok {S:List Sd} (hS:∀ s∈S,OkS 20 100000 s) (hn:∀ s∈S,s.a≠0∨s.b≠0) {p q:Int} (hp:OkN p) (hq:OkN q):∀ y∈mstA S p q,OkM y:=fun y hy=>by
 obtain ⟨g,hg,h⟩:=List.mem_flatMap.1 hy
 have:=grp_ok (m:=2) (by omega) hg
 exact mstL_ok hS hn hp hq this.1 this.2 y h
theorem sds_nz {l:List Rn} (h:OkRs l):∀ s∈sds l,s.a≠0∨s.b≠0:=fun s hs=>by
 obtain ⟨r,hr,hm⟩:=List.mem_flatMap.1 hs
 have h3:=(h r hr).2.2.1
 have:s=loS r∨s=hiS r:=by simpa using hm
 rcases this with rfl | rfl
 ·exact h3
 ·show -r.p≠0 ∨ -r.q≠0;omega
def AllP (b:Nat) (cs:List (Sd × Int)):HP:=fun h=>∃ (v:Value) (xs:List Md),xs.map (·.2)=cs∧sat [pt b (.cells #[v] 292 (0,0)),OwE encMd 103 5 v xs] h
def AllV (b:Nat) (v:Value) (cs:List (Sd × Int)):HP:=fun h=>∃ (xs:List Md),xs.map (·.2)=cs∧sat [pt b (.cells #[v] 292 (0,0)),OwE encMd 103 5 v xs] h
theorem all_open1 {b:Nat} {cs:List (Sd × Int)} {H H':List HP} (p:Pick (AllP b cs) H H'):∀ h,sat H h→∃ v:Value,True∧sat (AllV b v cs::H') h:=fun h hs=>by
 obtain ⟨h1,h2,s,⟨gv,xs,e,hp⟩,hr⟩:=p.sat hs
 exact ⟨gv,trivial,h1,h2,s,⟨xs,e,hp⟩,hr⟩
theorem all_open2 {b:Nat} {v:Value} {cs:List (Sd × Int)} {H:List HP}:∀ h,sat (AllV b v cs::H) h→∃ xs:List Md,xs.map (·.2)=cs∧sat (pt b (.cells #[v] 292 (0,0))::OwE encMd 103 5 v xs::H) h:=fun h hs=>by
 obtain ⟨h1,h2,s,⟨xs,e,hp⟩,hr⟩:=hs
 exact ⟨xs,e,sat_join (H1:=[_,_]) s hp hr⟩
theorem all_pack {b:Nat} {gv:Value} {xs:List Md} {cs:List (Sd × Int)} {H Hr:List HP} (s:Sub H (pt b (.cells #[gv] 292 (0,0))::OwE encMd 103 5 gv xs::Hr)) (e:xs.map (·.2)=cs):∀ h,sat H h→sat (AllP b cs::Hr) h:=fun h hs=>by
 obtain ⟨h1,h2,s2,hp,hr⟩:=sat_app (H1:=[_,_]) (s.sat hs)
 exact ⟨h1,h2,s2,⟨gv,xs,e,hp⟩,hr⟩
theorem all_nil {b:Nat} {H H':List HP} (p:Pick (pt b (.cells #[.slice none 0 0] 292 (0,0))) H H'):∀ h,sat H h→sat (AllP b []::H') h:=fun h hs =>
 all_pack (xs:=[]) (.cons (.tail .head) (.cons .head (Sub.refl _))) rfl h (owNil (enc:=encMd) (e:=103) (sz:=5) h (p.sat hs))
theorem OwE.formCap {α:Type} {P:Program} {C:Cx P} {H H':List HP} {enc:α→List Value} {e sz:Nat} {v:Value} {xs:List α} (p:Pick (OwE enc e sz v xs) H H'):∀ (L:List HP) w,Inv C.w0 C.M (L++H) w→∃ a c,v=.slice a xs.length c∧xs.length≤c:=fun L w hi=>by
 obtain ⟨_,hcase⟩:=OwC.open (hi.pickL p)
 rcases hcase with ⟨h1,h2,_⟩ | ⟨g,cap,cur,rfl,q1,_⟩
 ·exact ⟨none,0,by rw [h1,h2],by omega⟩
 ·exact ⟨_,_,rfl,q1⟩
def Bnd (S:List Sd) (p q:Int):Prop:=(p=0∧q=0)∨mstA S p q≠[]
instance (S:List Sd) (p q:Int):Decidable (Bnd S p q):=by unfold Bnd;infer_instance
structure MostI (S:List Sd) (p q:Int) (x:Sd × Int):Prop where
 mem:(p=0∧q=0∧x=(sd0,1))∨(¬ (p=0∧q=0)∧x∈mstA S p q)
 max:∀ y∈mstA S p q,¬ (p=0∧q=0)→¬ gtM y x
theorem MostI.ok {l:List Rn} (h:OkRs l) {p q:Int} (hp:OkN p) (hq:OkN q) {x:Sd × Int} (hm:MostI (sds l) p q x):OkM x:=by
 rcases hm.mem with ⟨_,_,rfl⟩ | ⟨_,g⟩
 ·exact ⟨by simp [sd0],by simp⟩
 ·exact mstA_ok (sds_ok h) (sds_nz h) hp hq x g
theorem firstM_most {S:List Sd} {p q:Int} (h0:¬ (p=0∧q=0)) {xs:List Md} {x:Md} (e:xs.map (·.2)=mstA S p q) (h:FirstM xs xs.length x):MostI S p q x.2:=by
 refine ⟨.inr ⟨h0,e▸List.mem_map_of_mem h.mem⟩,fun y hy _=>?_⟩
 rw [← e] at hy
 obtain ⟨z,hz,rfl⟩:=List.mem_map.1 hy
 obtain ⟨j,hj,rfl⟩:=List.getElem_of_mem hz
 have:=h.max j hj hj
 have e2:Mds.at xs j=xs[j]:=by simp [Mds.at,hj]
 rwa [e2] at this
end Go.Proofs.YtfchgmiiicidcaaGreat.Sp
namespace Go.Proofs.YtfchgmiiicidcaaGreat.Sp
open Go Go.TH
attribute [local irreducible] W WO pt
set_option maxRecDepth 10000
set_option maxHeartbeats 20000000
theorem mstL_1 {S:List Sd} {p q:Int} {g:List Int} (h:g.length=1) (h2:fit2 (atS S g 0) ⟨p,q,0⟩ (siz ⟨p,q,0⟩) (-(siz (atS S g 0)))):mstL S p q g=[(tkS S g [siz ⟨p,q,0⟩] g.length,siz (atS S g 0))]:=by
 have e:mstG S p q g=some ([siz ⟨p,q,0⟩],siz (atS S g 0)):=by unfold mstG;rw [if_pos h];unfold mst1;rw [if_pos h2]
 unfold mstL;rw [e]
theorem mstL_1n {S:List Sd} {p q:Int} {g:List Int} (h:g.length=1) (h2:¬ fit2 (atS S g 0) ⟨p,q,0⟩ (siz ⟨p,q,0⟩) (-(siz (atS S g 0)))):mstL S p q g=[]:=by
 have e:mstG S p q g=none:=by unfold mstG;rw [if_pos h];unfold mst1;rw [if_neg h2]
 unfold mstL;rw [e]
theorem mstL_2 {S:List Sd} {p q:Int} {g:List Int} {x y d:Int} (h:¬ g.length=1) (hc:(crs (atS S g 0) (atS S g 1)<0∧d = -(crs (atS S g 0) (atS S g 1))∧x = -(crs ⟨p,q,0⟩ (atS S g 1))∧y = -(crs (atS S g 0) ⟨p,q,0⟩))∨(¬ crs (atS S g 0) (atS S g 1)<0∧d=crs (atS S g 0) (atS S g 1)∧x=crs ⟨p,q,0⟩ (atS S g 1)∧y=crs (atS S g 0) ⟨p,q,0⟩)):mstL S p q g=if 0<d∧0≤x∧0≤y then [(tkS S g [x,y] g.length,d)] else []:=by
 have e:mstG S p q g=if 0<d∧0≤x∧0≤y then some ([x,y],d) else none:=by
  unfold mstG;rw [if_neg h];unfold mst2
  rcases hc with ⟨h1,rfl,rfl,rfl⟩ | ⟨h1,rfl,rfl,rfl⟩
  ·rw [if_pos h1]
  ·rw [if_neg h1]
 unfold mstL;rw [e]
 split
 ·rename_i c
  split at c
  ·rename_i c2;cases c;rw [if_pos c2]
  ·cases c
 ·rename_i c
  split at c
  ·cases c
  ·rename_i c2;rw [if_neg c2]
theorem c_most (w:World) (p:Addr) (rv sv:Value) (rl:List Rn) (hT:Tbl w.heap.size w p rv sv rl) (hok:OkRs rl) (hl:rl.length≤12) (u v:Int) (hu:OkN u) (hv:OkN v) :
 RetE Tryz.prog 106 [.pointer (some p),.int .i64 u,.int .i64 v].toArray w (fun r=>∃ (q:Option Nat) (s:Sd) (t:Int),r=.tuple #[mdV (.map q) s t,.bool (bl (Bnd (sds rl) u v))]∧(Bnd (sds rl) u v→MostI (sds rl) u v (s,t))):=by
 refine RetE.of mixed tyTab Tryz.func106 rfl rfl ?_
 replace hT:Tbl (fnCx mixed tyTab Tryz.f106.ntmps w).B (fnCx mixed tyTab Tryz.f106.ntmps w).w0 p rv sv rl:=hT
 have hsl:=sds_len rl
 have hS:=sds_ok hok
 have hw:=want_ok hu hv
 have zw:=siz_bd hw
 have hg2:=g2_len (S:=sds rl) (by omega)
 refine W.sreg (WO.box1 rfl (by rfl) rfl (fun b1 hb1=>(WO.alloc rfl rfl rfl (fun b2 hb2=>(WO.p rfl rfl (WO.nil (W.sreg (WO.p rfl rfl (WO.p rfl rfl (WO.build rfl rfl rfl rfl rfl (WO.alloc rfl rfl rfl (fun b3 hb3=>(WO.storeA rfl rfl rfl rfl Pick.head rfl rfl (WO.nil (W.seq (W.sreg (WO.loadA rfl rfl (Cells.own Pick.head) rfl rfl (WO.build rfl rfl rfl rfl rfl (WO.eqT rfl rfl (eq124z u v) rfl (WO.nil ?_))))))))))))))))))))
 refine W.cond_bl rfl (fun c1=>?_) (fun c1=>?_)
 ·refine W.sreg (WO.makeMap rfl (fun mb=>(WO.build rfl rfl rfl rfl rfl (WO.build rfl rfl rfl rfl rfl (WO.storeA rfl rfl rfl rfl (Pick.tail (Pick.tail (Pick.head))) rfl rfl (WO.p rfl rfl (WO.nil (W.ret ?_))))))))
  (have q:=mb;exact fin.ret (Res.two rfl (RV.cell rfl rfl rfl (Cells.own (by repeat exact .head))) (RV.tmp rfl)) ⟨some mb,sd0,1,by rw [bl_t.2 (show Bnd (sds rl) u v from .inl ⟨by omega,by omega⟩)] <;> rfl,fun _=>⟨.inl ⟨by omega,by omega,rfl⟩,fun y _ h0=>absurd ⟨by omega,by omega⟩ h0⟩⟩)
 ·refine W.skip (W.sreg (WO.alloc rfl rfl rfl (fun b4 hb4=>(WO.nil (W.seq (W.sreg (WO.load rfl rfl (Cell.own (Pick.tail (Pick.tail (Pick.tail (Pick.head)))) rfl) rfl (WO.call (Post:=fun v Hq=>∃ b1 b2,v=.func (.func 276) #[] #[.pointer (some ⟨b1,0,none⟩),.pointer (some ⟨b2,0,none⟩)]∧Hq=[pt b2 (.cells #[.int .i64 2] 3 (0,0)),pt b1 (.cells #[.pointer (some p)] 186 (0,0))]) rfl Tryz.call191 (fun L w hi=>c_groups w p 2) rfl ?_))))))))
  rintro _ _ ⟨b5,b6,rfl,rfl⟩
  refine WO.nil (W.block (W.chg (all_nil (b:=b4) (by repeat first | exact .head | apply Pick.tail)) ?_))
  refine W.rangeFuncB (Jmp.ret) [pt b6 (.cells #[.int .i64 ((2:Nat):Int)] 3 (0,0)),pt b5 (.cells #[.pointer (some p)] 186 (0,0))] (fun t=>[AllP b4 (msts (sds rl) u v t),pt b3 (.cells #[.int .i64 u,.int .i64 v,.int .i64 0] 101 (0,0)),pt b2 (.cells #[.map none,.int .i64 0,.int .i64 0,.int .i64 0,.int .i64 0] 103 (0,0)),pt b1 (.cells #[.pointer (some p)] 186 (0,0))]) (g2S (sds rl)) (fun g1 v1_=>OwE encI 3 1 v1_ g1) ((g2S (sds rl)).length) rfl rfl rfl Tryz.call276 (by repeat (first | exact Sub.nil | refine Sub.cons (by repeat first | exact .head | apply Pick.tail) ?_)) ?_ ?_ ?_ ?_
  ·intro ll Hc hy w1 M1 hB1 hk1 hM1 hi1
   exact c_groups1 _ _ p rv sv rl hT (sds rl).length rfl 2 (by omega) (by omega) _ ll Hc hy b5 b6 w1 M1 hB1 hk1 hM1 hi1
  ·intro ll w1 M1 hB1 hM1 hk1 t g1 v1_ hx hle1
   have hlt:=(List.getElem?_eq_some_iff.1 hx).1
   have hg12:=grp_ok (m:=2) (by omega) (List.mem_of_getElem? hx)
   obtain ⟨hgr,hg2⟩:=hg12
   have hgn:=hgr.len
   replace hT:=hT.agree hk1
   refine W.fact (OwE.sl (enc:=encI) (e:=3) (sz:=1) (v:=v1_) (xs:=g1) (by repeat exact .head)) (fun hgsl=>(W.region (WO.p rfl rfl (WO.nil (W.block (W.seq ?_))))))
   have h0:=hgr.rng _ (getD_mem (show 0<g1.length by omega) 0)
   have s0:OkS 20 100000 (atS (sds rl) g1 0):=hS _ (getD_mem (show (g1.getD 0 0).toNat<(sds rl).length by omega) sd0)
   have z0:=siz_bd s0
   have u0:=s0.up (A':=20) (B':=1000000) (by omega) (by omega)
   have v0:=(OkS.by_ s0 (n:=siz ⟨u,v,0⟩) (N:=40) (by omega)).up (A':=1000000000000000) (B':=1000000000000000) (by omega) (by omega)
   have v1:=(OkS.by_ hw (n := -(siz (atS (sds rl) g1 0))) (N:=40) (by omega)).up (A':=1000000000000000) (B':=1000000000000000) (by omega) (by omega)
   refine W.drawD 10 [.b 0 [],.r 1 [],.r 2 [],.b 3 [],.r 4 [],.r 5 [],.b 6 [],.r 7 [],.b 8 [],.a 9 11 (.cells #[.int .i64 0,.int .i64 0,.int .i64 0] 101 (0,0))] [] (A0:=[]) (Sub.refl _) (by kernel_rfl) ?_ ?_
   ·exact (ALok.b (ALok.r (ALok.r (ALok.b (ALok.r (ALok.r (ALok.b (ALok.r (ALok.b (ALok.cons rfl rfl rfl rfl rfl ALok.nil))))))))))
   refine DT.b rfl rfl rfl (WO.load rfl rfl (Cell.own (Pick.tail (Pick.tail (Pick.tail (Pick.tail (Pick.head))))) rfl) rfl (WO.nil ⟨rfl,rfl⟩)) (DT.r rfl rfl rfl (WO.p rfl rfl (WO.nil ⟨rfl,rfl⟩)) (DT.r rfl rfl rfl (WO.field rfl rfl rfl (WO.nil ⟨rfl,rfl⟩)) ?_))
   refine' DT.b rfl rfl rfl ?hq ?_
   case hq =>
    refine' WO.load (v:=_) rfl rfl ?hc rfl ?_
    case hc=>((refine RdC.cellAt hT.c (j:=1) ?_;rfl))
    exact WO.nil ⟨rfl,rfl⟩
   refine DT.r rfl rfl rfl (WO.p rfl rfl (WO.nil ⟨rfl,rfl⟩)) (DT.r rfl rfl rfl (WO.indexAddr (i:=0) rfl rfl rfl hgsl (by omega) rfl (WO.nil ⟨rfl,rfl⟩)) ?_)
   refine' DT.b rfl rfl rfl ?hq ?_
   case hq =>
    refine' WO.load (v:=_) rfl rfl ?hc rfl ?_
    case hc=>(first | (refine OwE.cell0 (enc:=encI) (e:=3) (sz:=1) (xs:=g1) (i:=0) encI_ok (by repeat exact .head) (by omega) 0 ?_;rfl))
    exact WO.nil ⟨rfl,rfl⟩
   refine' DT.r rfl rfl rfl ?hq ?_
   case hq =>
    refine' WO.indexAddrZ (n:=_) rfl rfl rfl ?hs ?h00 ?h1 rfl ?_
    case hs=>exact hT.s.sl
    case h00=>omega
    case h1=>(omega)
    exact WO.nil ⟨rfl,rfl⟩
   refine' DT.b rfl rfl rfl ?hq ?_
   case hq =>
    refine' WO.loadA (vs:=_) rfl rfl ?hc ?hl rfl ?_
    case hc=>((refine RdF.cellsT ?_ h0.1 h0.2 rfl;exact hT.s))
    case hl=>rfl
    exact WO.nil ⟨rfl,rfl⟩
   refine DT.a (fun b5=>(DT.nil [_,_,_,_,_,_] rfl (WO.storeA rfl rfl rfl rfl Pick.head rfl rfl (WO.nil (W.seq (W.sreg (WO.p rfl rfl (WO.len rfl rfl hgsl rfl (WO.p rfl rfl (WO.nil ?_))))))))))
   refine W.cond_bl rfl (fun c2=>?_) (fun c2=>?_)
   ·refine W.seq ?_
    refine W.drawD 3 [.b 0 [],.b 1 [],.b 2 []] [] (A0:=[]) (Sub.refl _) (by kernel_rfl) ?_ ?_
    ·repeat constructor
    refine DT.b rfl rfl rfl (WO.loadA rfl rfl (Cells.own (Pick.tail (Pick.tail (Pick.tail (Pick.head))))) rfl rfl (WO.nil ⟨rfl,rfl⟩)) (DT.b rfl rfl rfl (WO.callR rfl Tryz.call193 (fun L w hi=>c_size w ⟨u,v,0⟩ hw) rfl (WO.nil ⟨rfl,rfl⟩)) (DT.b rfl rfl rfl (WO.loadA rfl rfl (Cells.own Pick.head) rfl rfl (WO.nil ⟨rfl,rfl⟩)) (DT.nil [_,_,_,_,_,_] rfl (WO.callR rfl Tryz.call193 (fun L w hi=>c_size w (atS (sds rl) g1 0) u0) rfl (WO.p rfl rfl (WO.p rfl rfl (WO.nil (W.seq (W.seq ?_)))))))))
    refine W.drawD 16 [.b 0 [],.b 1 [],.b 2 [],.r 3 [],.r 4 [],.b 5 [],.r 6 [],.b 7 [],.b 8 [],.r 9 [],.r 10 [],.b 11 [],.r 15 [],.c 12 [],.f 13 [],.b 14 []] [] (A0:=[]) (Sub.refl _) (by kernel_rfl) ?_ ?_
    ·repeat constructor
    refine DT.b rfl rfl rfl (WO.loadA rfl rfl (Cells.own Pick.head) rfl rfl (WO.nil ⟨rfl,rfl⟩)) (DT.b rfl rfl rfl (WO.loadA rfl rfl (Cells.own (Pick.tail (Pick.tail (Pick.tail (Pick.head))))) rfl rfl (WO.nil ⟨rfl,rfl⟩)) (DT.b rfl rfl rfl (WO.callR rfl Tryz.call194 (fun L w hi=>c_cross w (atS (sds rl) g1 0) ⟨u,v,0⟩ u0 hw) rfl (WO.nil ⟨rfl,rfl⟩)) (DT.r rfl rfl rfl (WO.p rfl rfl (WO.nil ⟨rfl,rfl⟩)) ?_)))
    refine DT.rB rfl rfl rfl (WO.p rfl rfl (WO.nil ⟨rfl,rfl⟩)) (fun c3=>?_) (fun c3=>?_)
    ·refine DT.b rfl rfl rfl (WO.go' rfl (WO.loadA rfl rfl (Cells.own Pick.head) rfl rfl (WO.nil ⟨rfl,rfl⟩))) (DT.r rfl rfl rfl (WO.pg rfl rfl rfl (WO.nil ⟨rfl,rfl⟩)) (DT.b rfl rfl rfl (WO.go' rfl (WO.callR rfl Tryz.call172 (fun L w hi=>c_by w (atS (sds rl) g1 0) (siz ⟨u,v,0⟩) (s0.up (by omega) (by omega)) (by omega)) rfl (WO.nil ⟨rfl,rfl⟩))) (DT.b rfl rfl rfl (WO.go' rfl (WO.loadA rfl rfl (Cells.own (Pick.tail (Pick.tail (Pick.tail (Pick.head))))) rfl rfl (WO.nil ⟨rfl,rfl⟩))) (DT.r rfl rfl rfl (WO.pg rfl rfl rfl (WO.nil ⟨rfl,rfl⟩)) (DT.r rfl rfl rfl (WO.go' rfl (WO.neg rfl (by unfold in64;omega) rfl (WO.nil ⟨rfl,rfl⟩))) ?_)))))
     refine DT.b rfl rfl rfl (WO.go' rfl (WO.callR rfl Tryz.call172 (fun L w hi=>c_by w ⟨u,v,0⟩ (-(siz (atS (sds rl) g1 0))) (hw.up (by omega) (by omega)) (by omega)) rfl (WO.nil ⟨rfl,rfl⟩))) (DT.r rfl rfl rfl (WO.go' rfl (WO.build rfl rfl rfl rfl rfl (WO.nil ⟨rfl,rfl⟩))) (DT.c [_,_,_,_,_,_] rfl rfl rfl rfl (WO.go' rfl (WO.buildSl rfl rfl rfl rfl rfl rfl rfl rfl rfl (fun v6=>?_)))))
     refine WO.nil ⟨_,[_],rfl,rfl,(Keep.r (Keep.b (Keep.r (Keep.r (Keep.b (Keep.b (Keep.r (Keep.b (Keep.r (Keep.r (Keep.b (Keep.b (Keep.b Keep.nil))))))))))))),?_⟩
     refine DT.f [_,_,_,_,_,_,_] rfl rfl rfl rfl (WO.go' rfl (WO.callR (r:=sdV (addS (byS (atS (sds rl) g1 0) (siz ⟨u,v,0⟩)) (byS ⟨u,v,0⟩ (-(siz (atS (sds rl) g1 0)))))) rfl Tryz.call171 (fun L w hi=>by have h:=c_sum w _ [byS (atS (sds rl) g1 0) (siz ⟨u,v,0⟩),byS ⟨u,v,0⟩ (-(siz (atS (sds rl) g1 0)))] (RdF.of_ow (e:=101) encSd_ok (by repeat exact .head) hi) (by simp) (all_twoS v0 v1);rw [addS_two] at h;exact h) rfl (WO.nil ⟨rfl,rfl⟩))) (DT.b rfl rfl rfl (WO.go' rfl (WO.callR rfl Tryz.call173 (fun L w hi=>c_flat w _) rfl (WO.nil ⟨rfl,rfl⟩))) (DT.nil [_,_,_,_,_,_,_] rfl (WO.go' rfl ?_)))
     refine WO.eqT rfl rfl (eq124z (addS (byS (atS (sds rl) g1 0) (siz ⟨u,v,0⟩)) (byS ⟨u,v,0⟩ (-(siz (atS (sds rl) g1 0))))).a (addS (byS (atS (sds rl) g1 0) (siz ⟨u,v,0⟩)) (byS ⟨u,v,0⟩ (-(siz (atS (sds rl) g1 0))))).b) rfl (WO.p rfl rfl (WO.nil ?_))
     refine W.cond_bl rfl (fun c4=>?_) (fun c4=>?_)
     ·have hml:=mstL_1 (p:=u) (q:=v) (show g1.length=1 by omega) ⟨by assumption,by assumption⟩
      refine W.chgE (all_open1 (b:=b4) (cs:=msts (sds rl) u v t) (by repeat first | exact .head | apply Pick.tail)) ?_
      rintro gv -
      refine W.chgE (all_open2 (b:=b4) (v:=gv) (cs:=msts (sds rl) u v t)) ?_
      rintro gxs hgx
      have hgl:gxs.length≤1000:=by have:=msts_len (sds rl) u v t;rw [← hgx,List.length_map] at this;omega
      refine W.drawD 8 [.b 0 [],.b 1 [],.r 2 [],.r 3 [],.r 4 [],.c 5 [],.c 6 [],.c 7 []] [] (A0:=[_]) (H0:=[_,_,_,_,_,_,_]) (.cons (Pick.tail .head) (.cons .head (.cons .head (.cons .head (.cons .head (.cons .head (.cons .head (.cons .head .nil)))))))) (by kernel_rfl) ?_ ?_
      ·repeat constructor
      refine DT.b rfl rfl rfl (WO.load rfl rfl (Cell.own Pick.head rfl) rfl (WO.nil ⟨rfl,rfl⟩)) (DT.b rfl rfl rfl (WO.load rfl rfl (Cell.own (Pick.tail (Pick.tail (Pick.tail (Pick.tail (Pick.tail (Pick.tail (Pick.head))))))) rfl) rfl (WO.nil ⟨rfl,rfl⟩)) (DT.r rfl rfl rfl (WO.p rfl rfl (WO.nil ⟨rfl,rfl⟩)) (DT.r rfl rfl rfl (WO.p rfl rfl (WO.nil ⟨rfl,rfl⟩)) (DT.r rfl rfl rfl (WO.p rfl rfl (WO.nil ⟨rfl,rfl⟩)) (DT.c [_,_,_,_,_,_,_,_] rfl rfl rfl rfl (WO.buildSl rfl rfl rfl rfl rfl rfl rfl rfl rfl (fun v7=>?_)))))))
      refine WO.nil ⟨_,[_,_],rfl,rfl,(Keep.r (Keep.r (Keep.r (Keep.b (Keep.b Keep.nil))))),?_⟩
      refine DT.c [_,_,_,_,_,_,_,_,_] rfl rfl rfl rfl (WO.call (Post:=fun r Hq=>∃ mb:Nat,r=mdV (.map (some mb)) (tkS (sds rl) g1 [siz ⟨u,v,0⟩] g1.length) (siz (atS (sds rl) g1 0))∧Hq=[pt mb (.map (tkL g1 [siz ⟨u,v,0⟩] g1.length).toArray g1.length)]) rfl Tryz.call195 (fun L w hi=>c_take w p rv sv rl (hT.later hi) hok _ _ g1 _ (siz (atS (sds rl) g1 0)) (RdF.of_ow (e:=3) encI_ok (by repeat first | exact .head | apply Pick.tail) hi) (RdF.of_ow (e:=2) (xs:=[siz ⟨u,v,0⟩]) encI_ok (by repeat exact .head) hi) hgr.rng hgr.nd (by show 1=_;omega) hgr.len.2 (fun y hy=>by simp at hy;subst hy;omega)) rfl ?_)
      rintro _ _ ⟨mb,rfl,rfl⟩
      refine WO.nil ⟨_,[_,_,_],rfl,rfl,(Keep.c (Keep.r (Keep.r (Keep.r (Keep.b (Keep.b Keep.nil)))))),?_⟩
      refine DT.c [_,_,_,_,_,_,_,_,_,_] rfl rfl rfl rfl (WO.buildSl rfl rfl rfl rfl rfl rfl rfl rfl rfl (fun v8=>?_))
      refine WO.nil ⟨_,[_,_,_,_],rfl,rfl,(Keep.c (Keep.c (Keep.r (Keep.r (Keep.r (Keep.b (Keep.b Keep.nil))))))),?_⟩
      refine DT.nil [_,_,_,_,_,_,_,_,_,_,_] rfl ?_
      refine' WO.appendE (enc:=encMd) (m:=1) (xs:=gxs) (ys:=[(mb,tkS (sds rl) g1 [siz ⟨u,v,0⟩] g1.length,siz (atS (sds rl) g1 0))]) encMd_ok rfl rfl rfl rfl rfl (by repeat first | exact .head | apply Pick.tail) (isSl_lit (by omega) (fun _=>⟨_,_,rfl⟩)) (by omega) rfl (OwC.cells .head) (by omega) (by omega) rfl (fun g c=>?_)
      refine WO.store1 rfl rfl rfl (by rfl) (Pick.tail (Pick.tail (Pick.tail (Pick.tail (Pick.head))))) rfl (WO.nil (W.exit (blk_same (endR.go (bl_t.2 hlt) ?_))))
      (rw [msts_succ hx,hml];exact all_pack (by repeat (first | exact Sub.nil | refine Sub.cons (by repeat first | exact .head | apply Pick.tail) ?_)) (by rw [List.map_append,hgx];rfl))
     ·refine W.skip (W.exit (blk_same (endR.go (bl_t.2 hlt) ?_)))
      (rw [msts_succ hx,mstL_1n (by omega) (fun q=>by exact absurd q.2 (by assumption)),List.append_nil];exact fun h hs=>Sub.sat (by repeat (first | exact Sub.nil | refine Sub.cons (by repeat first | exact .head | apply Pick.tail) ?_)) hs)
    ·refine DT.b rfl rfl rfl (WO.no rfl rfl (WO.nil ⟨rfl,rfl⟩)) (DT.r rfl rfl rfl (WO.no rfl rfl (WO.nil ⟨rfl,rfl⟩)) (DT.b rfl rfl rfl (WO.no rfl rfl (WO.nil ⟨rfl,rfl⟩)) (DT.b rfl rfl rfl (WO.no rfl rfl (WO.nil ⟨rfl,rfl⟩)) (DT.r rfl rfl rfl (WO.no rfl rfl (WO.nil ⟨rfl,rfl⟩)) (DT.r rfl rfl rfl (WO.no rfl rfl (WO.nil ⟨rfl,rfl⟩)) (DT.b rfl rfl rfl (WO.no rfl rfl (WO.nil ⟨rfl,rfl⟩)) (DT.r rfl rfl rfl (WO.no rfl rfl (WO.nil ⟨rfl,rfl⟩)) (DT.c [_,_,_,_,_,_] rfl rfl rfl rfl (WO.no rfl rfl ?_)))))))))
     refine WO.nil ⟨_,[],rfl,rfl,(Keep.r (Keep.b (Keep.r (Keep.r (Keep.b (Keep.b (Keep.r (Keep.b (Keep.r (Keep.r (Keep.b (Keep.b (Keep.b Keep.nil))))))))))))),?_⟩
     refine DT.f [_,_,_,_,_,_] rfl rfl rfl rfl (WO.no rfl rfl (WO.nil ⟨rfl,rfl⟩)) (DT.b rfl rfl rfl (WO.no rfl rfl (WO.nil ⟨rfl,rfl⟩)) (DT.nil [_,_,_,_,_,_] rfl (WO.no rfl rfl (WO.p rfl rfl (WO.nil (W.cond_f rfl (W.skip (W.exit (blk_same (endR.go (bl_t.2 hlt) ?_))))))))))
     (rw [msts_succ hx,mstL_1n (by omega) (fun q=>by exact absurd q.1 (by assumption)),List.append_nil];exact fun h hs=>Sub.sat (by repeat (first | exact Sub.nil | refine Sub.cons (by repeat first | exact .head | apply Pick.tail) ?_)) hs)
   ·refine W.skip (W.seq ?_)
    have h1:=hgr.rng _ (getD_mem (show 1<g1.length by omega) 0)
    have s1:OkS 20 100000 (atS (sds rl) g1 1):=hS _ (getD_mem (show (g1.getD 1 0).toNat<(sds rl).length by omega) sd0)
    have u1:=s1.up (A':=20) (B':=1000000) (by omega) (by omega)
    have d1:=(crs_bd u0 u1).2.2
    have d2:=(crs_bd hw u1).2.2
    have d3:=(crs_bd u0 hw).2.2
    refine W.drawD 10 [.b 0 [],.r 1 [],.r 2 [],.b 3 [],.r 4 [],.r 5 [],.b 6 [],.r 7 [],.b 8 [],.a 9 14 (.cells #[.int .i64 0,.int .i64 0,.int .i64 0] 101 (0,0))] [] (A0:=[]) (Sub.refl _) (by kernel_rfl) ?_ ?_
    ·exact (ALok.b (ALok.r (ALok.r (ALok.b (ALok.r (ALok.r (ALok.b (ALok.r (ALok.b (ALok.cons rfl rfl rfl rfl rfl ALok.nil))))))))))
    refine DT.b rfl rfl rfl (WO.load rfl rfl (Cell.own (Pick.tail (Pick.tail (Pick.tail (Pick.tail (Pick.tail (Pick.head)))))) rfl) rfl (WO.nil ⟨rfl,rfl⟩)) (DT.r rfl rfl rfl (WO.p rfl rfl (WO.nil ⟨rfl,rfl⟩)) (DT.r rfl rfl rfl (WO.field rfl rfl rfl (WO.nil ⟨rfl,rfl⟩)) ?_))
    refine' DT.b rfl rfl rfl ?hq ?_
    case hq =>
     refine' WO.load (v:=_) rfl rfl ?hc rfl ?_
     case hc=>((refine RdC.cellAt hT.c (j:=1) ?_;rfl))
     exact WO.nil ⟨rfl,rfl⟩
    refine DT.r rfl rfl rfl (WO.p rfl rfl (WO.nil ⟨rfl,rfl⟩)) (DT.r rfl rfl rfl (WO.indexAddr (i:=1) rfl rfl rfl hgsl (by omega) rfl (WO.nil ⟨rfl,rfl⟩)) ?_)
    refine' DT.b rfl rfl rfl ?hq ?_
    case hq =>
     refine' WO.load (v:=_) rfl rfl ?hc rfl ?_
     case hc=>(first | (refine OwE.cell0 (enc:=encI) (e:=3) (sz:=1) (xs:=g1) (i:=1) encI_ok (by repeat first | exact .head | apply Pick.tail) (by omega) 0 ?_;rfl))
     exact WO.nil ⟨rfl,rfl⟩
    refine' DT.r rfl rfl rfl ?hq ?_
    case hq =>
     refine' WO.indexAddrZ (n:=_) rfl rfl rfl ?hs ?h00 ?h1 rfl ?_
     case hs=>exact hT.s.sl
     case h00=>omega
     case h1=>(omega)
     exact WO.nil ⟨rfl,rfl⟩
    refine' DT.b rfl rfl rfl ?hq ?_
    case hq =>
     refine' WO.loadA (vs:=_) rfl rfl ?hc ?hl rfl ?_
     case hc=>((refine RdF.cellsT ?_ h1.1 h1.2 rfl;exact hT.s))
     case hl=>rfl
     exact WO.nil ⟨rfl,rfl⟩
    refine DT.a (fun b9=>(DT.nil [_,_,_,_,_,_,_] rfl (WO.storeA rfl rfl rfl rfl Pick.head rfl rfl (WO.nil (W.sreg (WO.loadA rfl rfl (Cells.own (Pick.tail (Pick.head))) rfl rfl (WO.p rfl rfl (WO.p rfl rfl (WO.nil (W.sreg (WO.p rfl rfl (WO.loadA rfl rfl (Cells.own Pick.head) rfl rfl (WO.callCR (first:=[sdV (atS (sds rl) g1 0)]) (captured:=[]) rfl rfl Tryz.call194 (fun L w hi=>c_cross w (atS (sds rl) g1 0) (atS (sds rl) g1 1) u0 u1) rfl (WO.p rfl rfl (WO.nil (W.seq ?_))))))))))))))))
    refine W.drawD 5 [.b 0 [],.b 1 [],.b 2 [],.r 3 [],.b 4 []] [] (A0:=[]) (Sub.refl _) (by kernel_rfl) ?_ ?_
    ·repeat constructor
    refine DT.b rfl rfl rfl (WO.loadA rfl rfl (Cells.own (Pick.tail (Pick.tail (Pick.tail (Pick.tail (Pick.head)))))) rfl rfl (WO.nil ⟨rfl,rfl⟩)) (DT.b rfl rfl rfl (WO.loadA rfl rfl (Cells.own Pick.head) rfl rfl (WO.nil ⟨rfl,rfl⟩)) (DT.b rfl rfl rfl (WO.callR rfl Tryz.call194 (fun L w hi=>c_cross w ⟨u,v,0⟩ (atS (sds rl) g1 1) hw u1) rfl (WO.nil ⟨rfl,rfl⟩)) (DT.r rfl rfl rfl (WO.p rfl rfl (WO.nil ⟨rfl,rfl⟩)) (DT.b rfl rfl rfl (WO.loadA rfl rfl (Cells.own (Pick.tail (Pick.tail (Pick.tail (Pick.tail (Pick.head)))))) rfl rfl (WO.nil ⟨rfl,rfl⟩)) (DT.nil [_,_,_,_,_,_,_] rfl ?_)))))
    refine WO.callCR (first:=[sdV (atS (sds rl) g1 0)]) (captured:=[]) rfl rfl Tryz.call194 (fun L w hi=>c_cross w (atS (sds rl) g1 0) ⟨u,v,0⟩ u0 hw) rfl (WO.p rfl rfl (WO.p rfl rfl (WO.nil (W.seq (W.sreg (WO.p rfl rfl (WO.p rfl rfl (WO.nil ?_))))))))
    refine W.cond_bl rfl (fun c5=>?_) (fun c5=>?_)
    ·refine W.region (WO.p rfl rfl (WO.neg rfl (by unfold in64;omega) rfl (WO.p rfl rfl (WO.neg rfl (by unfold in64;omega) rfl (WO.p rfl rfl (WO.neg rfl (by unfold in64;omega) rfl (WO.p rfl rfl (WO.p rfl rfl (WO.p rfl rfl (WO.nil (W.sreg (WO.p rfl rfl (WO.p rfl rfl (WO.p rfl rfl ?_))))))))))))))
     refine WO.guard_bl rfl rfl (fun c6=>?_) (fun c6=>?_)
     ·refine WO.pg rfl rfl rfl (WO.pg rfl rfl rfl (WO.p rfl rfl (WO.p rfl rfl ?_)))
      refine WO.guard_bl rfl rfl (fun c7=>?_) (fun c7=>?_)
      ·refine WO.pg rfl rfl rfl (WO.pg rfl rfl rfl (WO.p rfl rfl (WO.nil ?_)))
       refine W.cond_bl rfl (fun c8=>?_) (fun c8=>?_)
       ·(have hml:=(mstL_2 (S:=sds rl) (p:=u) (q:=v) (g:=g1) (d := -(crs (atS (sds rl) g1 0) (atS (sds rl) g1 1))) (x := -(crs ⟨u,v,0⟩ (atS (sds rl) g1 1))) (y := -(crs (atS (sds rl) g1 0) ⟨u,v,0⟩)) (by omega) (.inl ⟨by assumption,rfl,rfl,rfl⟩)).trans (if_pos ⟨by assumption,by assumption,by assumption⟩);have hneg:True:=trivial)
        refine W.chgE (all_open1 (b:=b4) (cs:=msts (sds rl) u v t) (by repeat first | exact .head | apply Pick.tail)) ?_
        rintro gv -
        refine W.chgE (all_open2 (b:=b4) (v:=gv) (cs:=msts (sds rl) u v t)) ?_
        rintro gxs hgx
        have hgl:gxs.length≤1000:=by have:=msts_len (sds rl) u v t;rw [← hgx,List.length_map] at this;omega
        refine W.drawD 9 [.b 0 [],.b 1 [],.r 2 [],.r 3 [],.r 4 [],.r 5 [],.c 6 [],.c 7 [],.c 8 []] [] (A0:=[_]) (H0:=[_,_,_,_,_,_,_]) (.cons (Pick.tail .head) (.cons .head (.cons .head (.cons .head (.cons .head (.cons .head (.cons .head (.cons .head .nil)))))))) (by kernel_rfl) ?_ ?_
        ·repeat constructor
        refine DT.b rfl rfl rfl (WO.load rfl rfl (Cell.own Pick.head rfl) rfl (WO.nil ⟨rfl,rfl⟩)) (DT.b rfl rfl rfl (WO.load rfl rfl (Cell.own (Pick.tail (Pick.tail (Pick.tail (Pick.tail (Pick.tail (Pick.tail (Pick.head))))))) rfl) rfl (WO.nil ⟨rfl,rfl⟩)) (DT.r rfl rfl rfl (WO.p rfl rfl (WO.nil ⟨rfl,rfl⟩)) (DT.r rfl rfl rfl (WO.p rfl rfl (WO.nil ⟨rfl,rfl⟩)) (DT.r rfl rfl rfl (WO.p rfl rfl (WO.nil ⟨rfl,rfl⟩)) (DT.r rfl rfl rfl (WO.p rfl rfl (WO.nil ⟨rfl,rfl⟩)) (DT.c [_,_,_,_,_,_,_,_] rfl rfl rfl rfl (WO.buildSl rfl rfl rfl rfl rfl rfl rfl rfl rfl (fun v10=>?_))))))))
        refine WO.nil ⟨_,[_,_],rfl,rfl,(Keep.r (Keep.r (Keep.r (Keep.r (Keep.b (Keep.b Keep.nil)))))),?_⟩
        refine DT.c [_,_,_,_,_,_,_,_,_] rfl rfl rfl rfl ?_
        (have q:=hneg;clear q;refine WO.call (Post:=fun r Hq=>∃ mb:Nat,r=mdV (.map (some mb)) (tkS (sds rl) g1 [-(crs ⟨u,v,0⟩ (atS (sds rl) g1 1)),-(crs (atS (sds rl) g1 0) ⟨u,v,0⟩)] g1.length) (-(crs (atS (sds rl) g1 0) (atS (sds rl) g1 1)))∧Hq=[pt mb (.map (tkL g1 [-(crs ⟨u,v,0⟩ (atS (sds rl) g1 1)),-(crs (atS (sds rl) g1 0) ⟨u,v,0⟩)] g1.length).toArray g1.length)]) rfl Tryz.call195 (fun L w hi=>c_take w p rv sv rl (hT.later hi) hok _ _ g1 _ _ (RdF.of_ow (e:=3) encI_ok (by repeat first | exact .head | apply Pick.tail) hi) (RdF.of_ow (e:=2) (xs:=[-(crs ⟨u,v,0⟩ (atS (sds rl) g1 1)),-(crs (atS (sds rl) g1 0) ⟨u,v,0⟩)]) encI_ok (by repeat exact .head) hi) hgr.rng hgr.nd (by show 2=_;omega) hgr.len.2 (y2_bd (by omega) (by omega))) rfl ?_)
        rintro _ _ ⟨mb,rfl,rfl⟩
        refine WO.nil ⟨_,[_,_,_],rfl,rfl,(Keep.c (Keep.r (Keep.r (Keep.r (Keep.r (Keep.b (Keep.b Keep.nil))))))),?_⟩
        refine DT.c [_,_,_,_,_,_,_,_,_,_] rfl rfl rfl rfl (WO.buildSl rfl rfl rfl rfl rfl rfl rfl rfl rfl (fun v11=>?_))
        refine WO.nil ⟨_,[_,_,_,_],rfl,rfl,(Keep.c (Keep.c (Keep.r (Keep.r (Keep.r (Keep.r (Keep.b (Keep.b Keep.nil)))))))),?_⟩
        refine DT.nil [_,_,_,_,_,_,_,_,_,_,_] rfl ?_
        (have q:=hneg;clear q;refine' WO.appendE (enc:=encMd) (m:=1) (xs:=gxs) (ys:=[(mb,tkS (sds rl) g1 [-(crs ⟨u,v,0⟩ (atS (sds rl) g1 1)),-(crs (atS (sds rl) g1 0) ⟨u,v,0⟩)] g1.length,-(crs (atS (sds rl) g1 0) (atS (sds rl) g1 1)))]) encMd_ok rfl rfl rfl rfl rfl (by repeat first | exact .head | apply Pick.tail) (isSl_lit (by omega) (fun _=>⟨_,_,rfl⟩)) (by omega) rfl (OwC.cells .head) (by omega) (by omega) rfl (fun g c=>?_))
        refine WO.store1 rfl rfl rfl (by rfl) (Pick.tail (Pick.tail (Pick.tail (Pick.tail (Pick.head))))) rfl (WO.nil (endR.go (bl_t.2 hlt) ?_))
        (rw [msts_succ hx,hml];exact all_pack (by repeat (first | exact Sub.nil | refine Sub.cons (by repeat first | exact .head | apply Pick.tail) ?_)) (by rw [List.map_append,hgx];rfl))
       ·refine W.skip (endR.go (bl_t.2 hlt) ?_)
        (rw [msts_succ hx,mstL_2 (d := -(crs (atS (sds rl) g1 0) (atS (sds rl) g1 1))) (x := -(crs ⟨u,v,0⟩ (atS (sds rl) g1 1))) (y := -(crs (atS (sds rl) g1 0) ⟨u,v,0⟩)) (by omega) (.inl ⟨by assumption,rfl,rfl,rfl⟩),if_neg (by omega),List.append_nil];exact fun h hs=>Sub.sat (by repeat (first | exact Sub.nil | refine Sub.cons (by repeat first | exact .head | apply Pick.tail) ?_)) hs)
      ·refine WO.no rfl rfl (WO.no rfl rfl (WO.p rfl rfl (WO.nil (W.cond_f rfl (W.skip (endR.go (bl_t.2 hlt) ?_))))))
       (rw [msts_succ hx,mstL_2 (d := -(crs (atS (sds rl) g1 0) (atS (sds rl) g1 1))) (x := -(crs ⟨u,v,0⟩ (atS (sds rl) g1 1))) (y := -(crs (atS (sds rl) g1 0) ⟨u,v,0⟩)) (by omega) (.inl ⟨by assumption,rfl,rfl,rfl⟩),if_neg (by omega),List.append_nil];exact fun h hs=>Sub.sat (by repeat (first | exact Sub.nil | refine Sub.cons (by repeat first | exact .head | apply Pick.tail) ?_)) hs)
     ·exfalso;omega
    ·refine W.skip (W.sreg (WO.p rfl rfl (WO.p rfl rfl (WO.p rfl rfl ?_))))
     refine WO.guard_bl rfl rfl (fun c9=>?_) (fun c9=>?_)
     ·refine WO.pg rfl rfl rfl (WO.pg rfl rfl rfl (WO.p rfl rfl (WO.p rfl rfl ?_)))
      refine WO.guard_bl rfl rfl (fun c10=>?_) (fun c10=>?_)
      ·refine WO.pg rfl rfl rfl (WO.pg rfl rfl rfl (WO.p rfl rfl (WO.nil ?_)))
       refine W.cond_bl rfl (fun c11=>?_) (fun c11=>?_)
       ·(have hml:=(mstL_2 (S:=sds rl) (p:=u) (q:=v) (g:=g1) (d:=crs (atS (sds rl) g1 0) (atS (sds rl) g1 1)) (x:=crs ⟨u,v,0⟩ (atS (sds rl) g1 1)) (y:=crs (atS (sds rl) g1 0) ⟨u,v,0⟩) (by omega) (.inr ⟨by assumption,rfl,rfl,rfl⟩)).trans (if_pos ⟨by assumption,by assumption,by assumption⟩);have hpos:True:=trivial)
        refine W.chgE (all_open1 (b:=b4) (cs:=msts (sds rl) u v t) (by repeat first | exact .head | apply Pick.tail)) ?_
        rintro gv -
        refine W.chgE (all_open2 (b:=b4) (v:=gv) (cs:=msts (sds rl) u v t)) ?_
        rintro gxs hgx
        have hgl:gxs.length≤1000:=by have:=msts_len (sds rl) u v t;rw [← hgx,List.length_map] at this;omega
        refine W.drawD 9 [.b 0 [],.b 1 [],.r 2 [],.r 3 [],.r 4 [],.r 5 [],.c 6 [],.c 7 [],.c 8 []] [] (A0:=[_]) (H0:=[_,_,_,_,_,_,_]) (.cons (Pick.tail .head) (.cons .head (.cons .head (.cons .head (.cons .head (.cons .head (.cons .head (.cons .head .nil)))))))) (by kernel_rfl) ?_ ?_
        ·repeat constructor
        refine DT.b rfl rfl rfl (WO.load rfl rfl (Cell.own Pick.head rfl) rfl (WO.nil ⟨rfl,rfl⟩)) (DT.b rfl rfl rfl (WO.load rfl rfl (Cell.own (Pick.tail (Pick.tail (Pick.tail (Pick.tail (Pick.tail (Pick.tail (Pick.head))))))) rfl) rfl (WO.nil ⟨rfl,rfl⟩)) (DT.r rfl rfl rfl (WO.p rfl rfl (WO.nil ⟨rfl,rfl⟩)) (DT.r rfl rfl rfl (WO.p rfl rfl (WO.nil ⟨rfl,rfl⟩)) (DT.r rfl rfl rfl (WO.p rfl rfl (WO.nil ⟨rfl,rfl⟩)) (DT.r rfl rfl rfl (WO.p rfl rfl (WO.nil ⟨rfl,rfl⟩)) (DT.c [_,_,_,_,_,_,_,_] rfl rfl rfl rfl (WO.buildSl rfl rfl rfl rfl rfl rfl rfl rfl rfl (fun v12=>?_))))))))
        refine WO.nil ⟨_,[_,_],rfl,rfl,(Keep.r (Keep.r (Keep.r (Keep.r (Keep.b (Keep.b Keep.nil)))))),?_⟩
        refine DT.c [_,_,_,_,_,_,_,_,_] rfl rfl rfl rfl ?_
        (have q:=hpos;clear q;refine WO.call (Post:=fun r Hq=>∃ mb:Nat,r=mdV (.map (some mb)) (tkS (sds rl) g1 [crs ⟨u,v,0⟩ (atS (sds rl) g1 1),crs (atS (sds rl) g1 0) ⟨u,v,0⟩] g1.length) (crs (atS (sds rl) g1 0) (atS (sds rl) g1 1))∧Hq=[pt mb (.map (tkL g1 [crs ⟨u,v,0⟩ (atS (sds rl) g1 1),crs (atS (sds rl) g1 0) ⟨u,v,0⟩] g1.length).toArray g1.length)]) rfl Tryz.call195 (fun L w hi=>c_take w p rv sv rl (hT.later hi) hok _ _ g1 _ _ (RdF.of_ow (e:=3) encI_ok (by repeat first | exact .head | apply Pick.tail) hi) (RdF.of_ow (e:=2) (xs:=[crs ⟨u,v,0⟩ (atS (sds rl) g1 1),crs (atS (sds rl) g1 0) ⟨u,v,0⟩]) encI_ok (by repeat exact .head) hi) hgr.rng hgr.nd (by show 2=_;omega) hgr.len.2 (y2_bd (by omega) (by omega))) rfl ?_)
        rintro _ _ ⟨mb,rfl,rfl⟩
        refine WO.nil ⟨_,[_,_,_],rfl,rfl,(Keep.c (Keep.r (Keep.r (Keep.r (Keep.r (Keep.b (Keep.b Keep.nil))))))),?_⟩
        refine DT.c [_,_,_,_,_,_,_,_,_,_] rfl rfl rfl rfl (WO.buildSl rfl rfl rfl rfl rfl rfl rfl rfl rfl (fun v13=>?_))
        refine WO.nil ⟨_,[_,_,_,_],rfl,rfl,(Keep.c (Keep.c (Keep.r (Keep.r (Keep.r (Keep.r (Keep.b (Keep.b Keep.nil)))))))),?_⟩
        refine DT.nil [_,_,_,_,_,_,_,_,_,_,_] rfl ?_
        (have q:=hpos;clear q;refine' WO.appendE (enc:=encMd) (m:=1) (xs:=gxs) (ys:=[(mb,tkS (sds rl) g1 [crs ⟨u,v,0⟩ (atS (sds rl) g1 1),crs (atS (sds rl) g1 0) ⟨u,v,0⟩] g1.length,crs (atS (sds rl) g1 0) (atS (sds rl) g1 1))]) encMd_ok rfl rfl rfl rfl rfl (by repeat first | exact .head | apply Pick.tail) (isSl_lit (by omega) (fun _=>⟨_,_,rfl⟩)) (by omega) rfl (OwC.cells .head) (by omega) (by omega) rfl (fun g c=>?_))
        refine WO.store1 rfl rfl rfl (by rfl) (Pick.tail (Pick.tail (Pick.tail (Pick.tail (Pick.head))))) rfl (WO.nil (endR.go (bl_t.2 hlt) ?_))
        (rw [msts_succ hx,hml];exact all_pack (by repeat (first | exact Sub.nil | refine Sub.cons (by repeat first | exact .head | apply Pick.tail) ?_)) (by rw [List.map_append,hgx];rfl))
       ·refine W.skip (endR.go (bl_t.2 hlt) ?_)
        (rw [msts_succ hx,mstL_2 (d:=crs (atS (sds rl) g1 0) (atS (sds rl) g1 1)) (x:=crs ⟨u,v,0⟩ (atS (sds rl) g1 1)) (y:=crs (atS (sds rl) g1 0) ⟨u,v,0⟩) (by omega) (.inr ⟨by assumption,rfl,rfl,rfl⟩),if_neg (by omega),List.append_nil];exact fun h hs=>Sub.sat (by repeat (first | exact Sub.nil | refine Sub.cons (by repeat first | exact .head | apply Pick.tail) ?_)) hs)
      ·refine WO.no rfl rfl (WO.no rfl rfl (WO.p rfl rfl (WO.nil (W.cond_f rfl (W.skip (endR.go (bl_t.2 hlt) ?_))))))
       (rw [msts_succ hx,mstL_2 (d:=crs (atS (sds rl) g1 0) (atS (sds rl) g1 1)) (x:=crs ⟨u,v,0⟩ (atS (sds rl) g1 1)) (y:=crs (atS (sds rl) g1 0) ⟨u,v,0⟩) (by omega) (.inr ⟨by assumption,rfl,rfl,rfl⟩),if_neg (by omega),List.append_nil];exact fun h hs=>Sub.sat (by repeat (first | exact Sub.nil | refine Sub.cons (by repeat first | exact .head | apply Pick.tail) ?_)) hs)
     ·refine WO.no rfl rfl (WO.no rfl rfl (WO.p rfl rfl (WO.p rfl rfl (WO.no rfl rfl (WO.no rfl rfl (WO.p rfl rfl (WO.nil (W.cond_f rfl (W.skip (endR.go (bl_t.2 hlt) ?_))))))))))
      (rw [msts_succ hx,mstL_2 (d:=crs (atS (sds rl) g1 0) (atS (sds rl) g1 1)) (x:=crs ⟨u,v,0⟩ (atS (sds rl) g1 1)) (y:=crs (atS (sds rl) g1 0) ⟨u,v,0⟩) (by omega) (.inr ⟨by assumption,rfl,rfl,rfl⟩),if_neg (by omega),List.append_nil];exact fun h hs=>Sub.sat (by repeat (first | exact Sub.nil | refine Sub.cons (by repeat first | exact .head | apply Pick.tail) ?_)) hs)
  ·intro hAll
   rw [msts_end]
   refine W.seq (W.chgE (all_open1 (b:=b4) (cs:=mstA (sds rl) u v) (by repeat first | exact .head | apply Pick.tail)) ?_)
   rintro gv -
   refine W.chgE (all_open2 (b:=b4) (v:=gv) (cs:=mstA (sds rl) u v)) ?_
   rintro gxs hgx
   refine W.fact (OwE.formCap (enc:=encMd) (e:=103) (sz:=5) (v:=gv) (xs:=gxs) (by repeat first | exact .head | apply Pick.tail)) (fun hfc=>?_)
   obtain ⟨ga,gc,rfl,hgc⟩:=hfc
   refine W.fact (OwE.sl (enc:=encMd) (e:=103) (sz:=5) (v:=.slice ga gxs.length gc) (xs:=gxs) (by repeat first | exact .head | apply Pick.tail)) (fun hgs=>?_)
   have hgk:∀ y∈gxs,OkM y.2:=fun y hy=>mstA_ok hS (sds_nz hok) hu hv _ (hgx▸List.mem_map_of_mem hy)
   refine W.sreg (WO.load rfl rfl (Cell.own Pick.head rfl) rfl (WO.len rfl rfl hgs rfl (WO.p rfl rfl (WO.nil ?_))))
   refine W.cond_bl rfl (fun c12=>?_) (fun c12=>?_)
   ·refine W.sreg (WO.build rfl rfl rfl rfl rfl (WO.storeA rfl rfl rfl rfl (Pick.tail (Pick.tail (Pick.tail (Pick.tail (Pick.tail (Pick.head)))))) rfl rfl (WO.p rfl rfl (WO.nil (W.ret ?_)))))
    (have hz:mstA (sds rl) u v=[]:=(by rw [← hgx];exact List.map_eq_nil_iff.2 (List.eq_nil_of_length_eq_zero (by omega)));have hb:¬ Bnd (sds rl) u v:=fun q=>q.elim (fun q=>by omega) (fun q=>q hz);exact fin.ret (Res.two rfl (RV.cell rfl rfl rfl (Cells.own (by repeat exact .head))) (RV.tmp rfl)) ⟨none,sd0,0,by rw [bl_f.2 hb] <;> rfl,fun q=>absurd q hb⟩)
   ·refine W.skip (W.sreg (WO.load rfl rfl (Cell.own Pick.head rfl) rfl (WO.callE rfl Tryz.call196 (fun L w hi=>c_first w ga gc gxs (RdF.of_ow (e:=103) encMd_ok (by repeat first | exact .head | apply Pick.tail) hi) hgc (by omega) hgk) rfl ?_)))
    rintro _ ⟨y,hy,rfl⟩
    refine WO.storeA rfl rfl rfl rfl (Pick.tail (Pick.tail (Pick.tail (Pick.tail (Pick.tail (Pick.head)))))) rfl rfl (WO.p rfl rfl (WO.nil (W.ret ?_)))
    (have q:=hy;exact fin.ret (Res.two rfl (RV.cell rfl rfl rfl (Cells.own (by repeat exact .head))) (RV.tmp rfl)) ⟨some y.1,y.2.1,y.2.2,by rw [bl_t.2 (show Bnd (sds rl) u v from .inr (fun e=>by rw [e] at hgx;have hz:=congrArg List.length hgx;rw [List.length_map] at hz;exact absurd hz (by show ¬ (gxs.length=0);omega)))] <;> rfl,fun _=>firstM_most (by omega) hgx hy⟩)
  ·intro hStop
   exfalso;omega
end Go.Proofs.YtfchgmiiicidcaaGreat.Sp
namespace Go.Proofs.YtfchgmiiicidcaaGreat.Sp
open Go Go.TH
attribute [local irreducible] W WO pt
set_option maxRecDepth 10000
set_option maxHeartbeats 2000000
/-- the error of Least -/
def leE (l:List Rn) (p q:Int):Int:=if chkA l p q≠0 then chkA l p q else if Dbt (sds l) then 20 else if Bnd (sds l) p q then 0 else 5
theorem leE_1 {l:List Rn} {p q:Int} (h:chkA l p q≠0):leE l p q=chkA l p q:=by unfold leE;rw [if_pos h]
theorem leE_20 {l:List Rn} {p q:Int} (h:¬ chkA l p q≠0) (g:Dbt (sds l)):leE l p q=20:=by unfold leE;rw [if_neg h,if_pos g]
theorem leE_5 {l:List Rn} {p q:Int} (h:¬ chkA l p q≠0) (g:¬ Dbt (sds l)) (b:¬ Bnd (sds l) p q):leE l p q=5:=by unfold leE;rw [if_neg h,if_neg g,if_neg b]
theorem leE_0 {l:List Rn} {p q:Int} (h:¬ chkA l p q≠0) (g:¬ Dbt (sds l)) (b:Bnd (sds l) p q):leE l p q=0:=by unfold leE;rw [if_neg h,if_neg g,if_pos b]
/-- what best returns -/
def BestR (l:List Rn) (p q:Int) (r:Value):Prop:=∃ (m:Option Nat) (s:Sd) (t:Int),r=.tuple #[mdV (.map m) s t,.int .i64 (leE l p q)]∧(leE l p q=0→MostI (sds l) p q (s,t))
theorem c_best (w:World) (v:Value) (l:List Rn) (p q:Int) (hR:RdF encRn 4 w.heap.size w v l):RetE Tryz.prog 39 [v,.int .i64 p,.int .i64 q].toArray w (BestR l p q):=by
  refine RetE.of mixed tyTab Tryz.func39 rfl rfl ?_
  replace hR:RdF encRn 4 (fnCx mixed tyTab Tryz.f39.ntmps w).B (fnCx mixed tyTab Tryz.f39.ntmps w).w0 v l:=hR
  refine W.sreg ?_
  refine WO.alloc rfl rfl rfl (fun b1 hb1=>?_)
  refine WO.p rfl rfl ?_
  refine WO.nil ?_
  refine W.seq ?_
  refine W.sreg ?_
  refine WO.p rfl rfl (WO.p rfl rfl (WO.p rfl rfl ?_))
  refine WO.callR rfl Tryz.call103 (fun L w hi=>c_check w v l p q (hR.later hi)) rfl ?_
  refine WO.p rfl rfl ?_
  refine WO.nil ?_
  refine W.sreg ?_
  refine WO.p rfl rfl (WO.p rfl rfl ?_)
  refine WO.nil ?_
  refine W.cond_bl rfl (fun c1=>?_) (fun c1=>?_)
  · first
    | (exfalso;omega)
    | (refine W.sreg ?_
       refine' WO.build (cs:=_) rfl rfl rfl ?hf rfl ?_
       case hf=>(conv=>lhs;simp [-List.getD_eq_getElem?_getD,fillL,vcl,wrl,TTab.pl?.lget']) <;> rfl
       refine WO.p rfl rfl (WO.storeA rfl rfl rfl rfl Pick.head rfl rfl (WO.p rfl rfl ?_))
       refine WO.nil ?_
       refine W.ret ?_
       first
       | exact fin.ret (Res.two rfl (RV.cell rfl rfl rfl (Cells.own (by repeat (first | exact Pick.head | apply Pick.tail)))) (RV.tmp rfl)) ⟨none,sd0,0,by rw [leE_1 (by assumption)] <;> rfl,fun e=>by rw [leE_1 (by assumption)] at e;omega⟩
       | exact fin.ret (Res.two rfl (RV.cell rfl rfl rfl (Cells.own (by repeat (first | exact Pick.head | apply Pick.tail)))) (RV.tmp rfl)) ⟨none,sd0,0,by rw [leE_20 (by assumption) (by assumption)] <;> rfl,fun e=>by rw [leE_20 (by assumption) (by assumption)] at e;omega⟩
       | exact fin.ret (Res.two rfl (RV.cell rfl rfl rfl (Cells.own (by repeat (first | exact Pick.head | apply Pick.tail)))) (RV.tmp rfl)) ⟨none,sd0,0,by rw [leE_5 (by assumption) (by assumption) (by assumption)] <;> rfl,fun e=>by rw [leE_5 (by assumption) (by assumption) (by assumption)] at e;omega⟩
       | exact fin.ret (Res.two rfl (RV.cell rfl rfl rfl (Cells.own (by repeat (first | exact Pick.head | apply Pick.tail)))) (RV.tmp rfl)) ⟨mq,ms,mt,by rw [leE_0 (by assumption) (by assumption) (by assumption)],fun _=>hms (by assumption)⟩)
  · first
    | (exfalso;omega)
    | (refine W.skip ?_
       refine W.sreg ?_
       refine WO.p rfl rfl ?_
       have hrs:=chkRs0.1 (chkA0.1 (show chkA l p q=0 by omega)).1
       have hpq:=(chkA0.1 (show chkA l p q=0 by omega)).2
       refine WO.call (Post:=fun u Hq=>∃ (b:Nat) (rv sv:Value),u=.pointer (some ⟨b,0,none⟩)∧Hq=[pt b (.cells #[rv,sv] 287 (0,0)),OwE encPr 262 10 rv l,OwE encSd 101 3 sv (sds l)]) rfl Tryz.call104 (fun L w hi=>c_newTable w v l (hR.later hi) hrs.2 hrs.1) rfl ?_
       rintro _ _ ⟨tb,rv,sv,rfl,rfl⟩
       refine WO.p rfl rfl ?_
       refine WO.nil ?_
       refine W.seq ?_
       refine W.sreg ?_
       refine WO.p rfl rfl ?_
       refine WO.call (Post:=fun u Hq=>∃ mb:Nat,u=.tuple #[mdV (.map (dbQ (sds l) mb)) (dbS (sds l)) (dbT (sds l)),.bool (bl (Dbt (sds l)))]∧Hq=[dbP (sds l) mb]) rfl Tryz.call105 (fun L w hi=>c_doubt w ⟨tb,0,none⟩ rv sv l (Tbl.own (b:=tb) (by repeat (first | exact Pick.head | apply Pick.tail)) (by repeat (first | exact Pick.head | apply Pick.tail)) (by repeat (first | exact Pick.head | apply Pick.tail)) hi) hrs.2 hrs.1) rfl ?_
       rintro _ _ ⟨mb,rfl,rfl⟩
       refine WO.p rfl rfl (WO.p rfl rfl ?_)
       refine WO.extract (i:=1) rfl rfl rfl ?_
       refine WO.alloc rfl rfl rfl (fun b2 hb2=>?_)
       refine WO.storeA rfl rfl rfl rfl Pick.head rfl rfl (WO.p rfl rfl ?_)
       refine WO.nil ?_
       refine W.sreg ?_
       refine WO.p rfl rfl ?_
       refine WO.nil ?_
       refine W.cond_bl rfl (fun c2=>?_) (fun c2=>?_)
       · first
         | (exfalso;omega)
         | (refine W.sreg ?_
            refine' WO.build (cs:=_) rfl rfl rfl ?hf rfl ?_
            case hf=>(conv=>lhs;simp [-List.getD_eq_getElem?_getD,fillL,vcl,wrl,TTab.pl?.lget']) <;> rfl
            refine WO.storeA rfl rfl rfl rfl (Pick.tail (Pick.tail (Pick.tail (Pick.tail (Pick.tail (Pick.head)))))) rfl rfl (WO.p rfl rfl ?_)
            refine WO.nil ?_
            refine W.ret ?_
            first
            | exact fin.ret (Res.two rfl (RV.cell rfl rfl rfl (Cells.own (by repeat (first | exact Pick.head | apply Pick.tail)))) (RV.tmp rfl)) ⟨none,sd0,0,by rw [leE_1 (by assumption)] <;> rfl,fun e=>by rw [leE_1 (by assumption)] at e;omega⟩
            | exact fin.ret (Res.two rfl (RV.cell rfl rfl rfl (Cells.own (by repeat (first | exact Pick.head | apply Pick.tail)))) (RV.tmp rfl)) ⟨none,sd0,0,by rw [leE_20 (by assumption) (by assumption)] <;> rfl,fun e=>by rw [leE_20 (by assumption) (by assumption)] at e;omega⟩
            | exact fin.ret (Res.two rfl (RV.cell rfl rfl rfl (Cells.own (by repeat (first | exact Pick.head | apply Pick.tail)))) (RV.tmp rfl)) ⟨none,sd0,0,by rw [leE_5 (by assumption) (by assumption) (by assumption)] <;> rfl,fun e=>by rw [leE_5 (by assumption) (by assumption) (by assumption)] at e;omega⟩
            | exact fin.ret (Res.two rfl (RV.cell rfl rfl rfl (Cells.own (by repeat (first | exact Pick.head | apply Pick.tail)))) (RV.tmp rfl)) ⟨mq,ms,mt,by rw [leE_0 (by assumption) (by assumption) (by assumption)],fun _=>hms (by assumption)⟩)
       · first
         | (exfalso;omega)
         | (refine W.skip ?_
            refine W.sreg ?_
            refine WO.p rfl rfl (WO.p rfl rfl (WO.p rfl rfl ?_))
            refine WO.callE rfl Tryz.call106 (fun L w hi=>c_most w ⟨tb,0,none⟩ rv sv l (Tbl.own (b:=tb) (by repeat (first | exact Pick.head | apply Pick.tail)) (by repeat (first | exact Pick.head | apply Pick.tail)) (by repeat (first | exact Pick.head | apply Pick.tail)) hi) hrs.2 hrs.1 p q hpq.1 hpq.2) rfl ?_
            rintro _ ⟨mq,ms,mt,rfl,hms⟩
            refine WO.p rfl rfl (WO.p rfl rfl ?_)
            refine WO.extract (i:=1) rfl rfl rfl ?_
            refine WO.alloc rfl rfl rfl (fun b3 hb3=>?_)
            refine WO.storeA rfl rfl rfl rfl Pick.head rfl rfl (WO.p rfl rfl ?_)
            refine WO.nil ?_
            refine W.seq ?_
            refine W.sreg ?_
            refine WO.p rfl rfl (WO.p rfl rfl ?_)
            refine WO.nil ?_
            refine W.cond_nbl rfl (fun c3=>?_) (fun c3=>?_)
            · first
              | (exfalso;omega)
              | (refine W.sreg ?_
                 refine' WO.build (cs:=_) rfl rfl rfl ?hf rfl ?_
                 case hf=>(conv=>lhs;simp [-List.getD_eq_getElem?_getD,fillL,vcl,wrl,TTab.pl?.lget']) <;> rfl
                 refine WO.storeA rfl rfl rfl rfl (Pick.tail (Pick.tail (Pick.tail (Pick.tail (Pick.tail (Pick.tail (Pick.head))))))) rfl rfl (WO.p rfl rfl ?_)
                 refine WO.nil ?_
                 refine W.ret ?_
                 first
                 | exact fin.ret (Res.two rfl (RV.cell rfl rfl rfl (Cells.own (by repeat (first | exact Pick.head | apply Pick.tail)))) (RV.tmp rfl)) ⟨none,sd0,0,by rw [leE_1 (by assumption)] <;> rfl,fun e=>by rw [leE_1 (by assumption)] at e;omega⟩
                 | exact fin.ret (Res.two rfl (RV.cell rfl rfl rfl (Cells.own (by repeat (first | exact Pick.head | apply Pick.tail)))) (RV.tmp rfl)) ⟨none,sd0,0,by rw [leE_20 (by assumption) (by assumption)] <;> rfl,fun e=>by rw [leE_20 (by assumption) (by assumption)] at e;omega⟩
                 | exact fin.ret (Res.two rfl (RV.cell rfl rfl rfl (Cells.own (by repeat (first | exact Pick.head | apply Pick.tail)))) (RV.tmp rfl)) ⟨none,sd0,0,by rw [leE_5 (by assumption) (by assumption) (by assumption)] <;> rfl,fun e=>by rw [leE_5 (by assumption) (by assumption) (by assumption)] at e;omega⟩
                 | exact fin.ret (Res.two rfl (RV.cell rfl rfl rfl (Cells.own (by repeat (first | exact Pick.head | apply Pick.tail)))) (RV.tmp rfl)) ⟨mq,ms,mt,by rw [leE_0 (by assumption) (by assumption) (by assumption)],fun _=>hms (by assumption)⟩)
            · first
              | (exfalso;omega)
              | (refine W.skip ?_
                 refine W.sreg ?_
                 refine WO.loadA rfl rfl (Cells.own Pick.head) rfl rfl (WO.storeA rfl rfl rfl rfl (Pick.tail (Pick.tail (Pick.tail (Pick.tail (Pick.tail (Pick.tail (Pick.head))))))) rfl rfl (WO.p rfl rfl ?_))
                 refine WO.nil ?_
                 refine W.ret ?_
                 first
                 | exact fin.ret (Res.two rfl (RV.cell rfl rfl rfl (Cells.own (by repeat (first | exact Pick.head | apply Pick.tail)))) (RV.tmp rfl)) ⟨none,sd0,0,by rw [leE_1 (by assumption)] <;> rfl,fun e=>by rw [leE_1 (by assumption)] at e;omega⟩
                 | exact fin.ret (Res.two rfl (RV.cell rfl rfl rfl (Cells.own (by repeat (first | exact Pick.head | apply Pick.tail)))) (RV.tmp rfl)) ⟨none,sd0,0,by rw [leE_20 (by assumption) (by assumption)] <;> rfl,fun e=>by rw [leE_20 (by assumption) (by assumption)] at e;omega⟩
                 | exact fin.ret (Res.two rfl (RV.cell rfl rfl rfl (Cells.own (by repeat (first | exact Pick.head | apply Pick.tail)))) (RV.tmp rfl)) ⟨none,sd0,0,by rw [leE_5 (by assumption) (by assumption) (by assumption)] <;> rfl,fun e=>by rw [leE_5 (by assumption) (by assumption) (by assumption)] at e;omega⟩
                 | exact fin.ret (Res.two rfl (RV.cell rfl rfl rfl (Cells.own (by repeat (first | exact Pick.head | apply Pick.tail)))) (RV.tmp rfl)) ⟨mq,ms,mt,by rw [leE_0 (by assumption) (by assumption) (by assumption)],fun _=>hms (by assumption)⟩)))
/-- what Least returns -/
def LeastR (l:List Rn) (p q:Int) (r:Value):Prop:=∃ x:Int × Int,r=.tuple #[raV x,.int .i64 (leE l p q)]∧(leE l p q=0→∃ y:Sd × Int,MostI (sds l) p q y∧x=red y.1.c y.2)
theorem leE_ok {l:List Rn} {p q:Int} (h:leE l p q=0):OkRs l∧l.length≤12∧OkN p∧OkN q∧¬ Dbt (sds l)∧Bnd (sds l) p q:=by
  unfold leE at h
  split at h
  · omega
  · rename_i h1
    obtain ⟨h2,h3⟩:=chkA0.1 (show chkA l p q=0 by omega)
    obtain ⟨h4,h5⟩:=chkRs0.1 h2
    split at h
    · omega
    · split at h
      · exact ⟨h5,h4,h3.1,h3.2,by assumption,by assumption⟩
      · omega
theorem c_Least (w:World) (v:Value) (l:List Rn) (p q:Int) (hR:RdF encRn 4 w.heap.size w v l):RetE Tryz.prog 10 [v,.int .i64 p,.int .i64 q].toArray w (LeastR l p q):=by
  refine RetE.of mixed tyTab Tryz.func10 rfl rfl ?_
  replace hR:RdF encRn 4 (fnCx mixed tyTab Tryz.f10.ntmps w).B (fnCx mixed tyTab Tryz.f10.ntmps w).w0 v l:=hR
  refine W.sreg ?_
  refine WO.alloc rfl rfl rfl (fun b1 hb1=>?_)
  refine WO.p rfl rfl ?_
  refine WO.nil ?_
  refine W.sreg ?_
  refine WO.p rfl rfl (WO.p rfl rfl (WO.p rfl rfl ?_))
  refine WO.callE rfl Tryz.call39 (fun L w hi=>c_best w v l p q (hR.later hi)) rfl ?_
  rintro _ ⟨mq,ms,mt,rfl,hms⟩
  refine WO.p rfl rfl (WO.p rfl rfl (WO.p rfl rfl ?_))
  refine WO.alloc rfl rfl rfl (fun b2 hb2=>?_)
  refine WO.storeA rfl rfl rfl rfl Pick.head rfl rfl (WO.p rfl rfl ?_)
  refine WO.nil ?_
  refine W.seq ?_
  refine W.sreg ?_
  refine WO.p rfl rfl (WO.p rfl rfl ?_)
  refine WO.nil ?_
  refine W.cond_bl rfl (fun c1=>?_) (fun c1=>?_)
  · first
    | (exfalso;omega)
    | (refine W.sreg ?_
       refine' WO.build (cs:=_) rfl rfl rfl ?hf rfl ?_
       case hf=>(conv=>lhs;simp [-List.getD_eq_getElem?_getD,fillL,vcl,wrl,TTab.pl?.lget']) <;> rfl
       refine WO.p rfl rfl (WO.storeA rfl rfl rfl rfl (Pick.tail (Pick.head)) rfl rfl (WO.p rfl rfl ?_))
       refine WO.nil ?_
       refine W.ret ?_
       first
       | exact fin.ret (Res.two rfl (RV.cell rfl rfl rfl (Cells.own (by repeat (first | exact Pick.head | apply Pick.tail)))) (RV.tmp rfl)) ⟨(0,0),rfl,fun e=>by omega⟩
       | exact fin.ret (Res.two rfl (RV.cell rfl rfl rfl (Cells.own (by repeat (first | exact Pick.head | apply Pick.tail)))) (RV.tmp rfl)) ⟨red ms.c mt,by rw [show leE l p q=0 by omega],fun _=>⟨(ms,mt),hm,rfl⟩⟩)
  · first
    | (exfalso;omega)
    | (refine W.skip ?_
       refine W.sreg ?_
       refine WO.loadA rfl rfl (Cells.own Pick.head) rfl rfl ?_
       have hle:=leE_ok (show leE l p q=0 by omega)
       have hm:=hms (by omega)
       refine WO.callR rfl Tryz.call40 (fun L w hi=>c_boundQ w mq ms mt (hm.ok hle.1 hle.2.2.1 hle.2.2.2.1)) rfl ?_
       refine WO.storeA rfl rfl rfl rfl (Pick.tail (Pick.head)) rfl rfl (WO.p rfl rfl ?_)
       refine WO.nil ?_
       refine W.ret ?_
       first
       | exact fin.ret (Res.two rfl (RV.cell rfl rfl rfl (Cells.own (by repeat (first | exact Pick.head | apply Pick.tail)))) (RV.tmp rfl)) ⟨(0,0),rfl,fun e=>by omega⟩
       | exact fin.ret (Res.two rfl (RV.cell rfl rfl rfl (Cells.own (by repeat (first | exact Pick.head | apply Pick.tail)))) (RV.tmp rfl)) ⟨red ms.c mt,by rw [show leE l p q=0 by omega],fun _=>⟨(ms,mt),hm,rfl⟩⟩)
end Go.Proofs.YtfchgmiiicidcaaGreat.Sp
namespace Go.Proofs.YtfchgmiiicidcaaGreat.Sp
open Go Go.TH
/-- a truth fits a side -/
def fitS (s:Sd) (t:Tru):Prop:=s.c*t.d≤s.a*t.a+s.b*t.b
theorem fitL_iff {l:List Rn} {t:Tru}:fitL l t↔∀ s∈sds l,fitS s t:=by
  constructor
  · intro h s hs
    obtain ⟨r,hr,hm⟩:=List.mem_flatMap.1 hs
    have h1:=h r hr
    unfold fitR at h1
    have:s=loS r∨s=hiS r:=by simpa using hm
    rcases this with rfl | rfl
    · exact h1.1
    · show -r.hi*t.d ≤ -r.p*t.a + -r.q*t.b
      rw [Int.neg_mul,Int.neg_mul,Int.neg_mul];omega
  · intro h r hr
    have h1:fitS (loS r) t:=h _ (List.mem_flatMap.2 ⟨r,hr,by simp⟩)
    have h2:fitS (hiS r) t:=h _ (List.mem_flatMap.2 ⟨r,hr,by simp⟩)
    have h3 : -r.hi*t.d ≤ -r.p*t.a + -r.q*t.b:=h2
    rw [Int.neg_mul,Int.neg_mul,Int.neg_mul] at h3
    exact ⟨h1,by omega⟩
theorem fitS.by_ {s:Sd} {t:Tru} {y:Int} (h:fitS s t) (hy:0≤y):fitS (byS s y) t:=by
  unfold fitS at h
  have h1:=Int.mul_le_mul_of_nonneg_right h hy
  show s.c*y*t.d≤s.a*y*t.a+s.b*y*t.b
  have e1:s.c*y*t.d=s.c*t.d*y:=by grind
  have e2:s.a*y*t.a+s.b*y*t.b=(s.a*t.a+s.b*t.b)*y:=by grind
  omega
theorem fitS.add {s o:Sd} {t:Tru} (h:fitS s t) (g:fitS o t):fitS (addS s o) t:=by
  unfold fitS at h g
  show (s.c+o.c)*t.d≤(s.a+o.a)*t.a+(s.b+o.b)*t.b
  rw [Int.add_mul,Int.add_mul,Int.add_mul];omega
theorem tkS_fit {S:List Sd} {t:Tru} (h:∀ s∈S,fitS s t) {g ys:List Int} (hg:∀ x∈g,0≤x∧x<S.length) (hy:∀ y∈ys,0≤y) (hl:ys.length=g.length):∀ {i:Nat},i≤g.length→fitS (tkS S g ys i) t
  | 0,_=>by unfold fitS;simp [tkS,sd0]
  | i+1,hi=>by
    have hx:=hg _ (getD_mem (show i<g.length by omega) 0)
    exact (tkS_fit h hg hy hl (i:=i) (by omega)).add ((h _ (getD_mem (show (g.getD i 0).toNat<S.length by omega) sd0)).by_ (hy _ (getD_mem (by omega) 0)))
theorem ab_nn' (n:Int):0≤ab n:=by unfold ab;omega
theorem siz_nn (s:Sd):0≤siz s:=by unfold siz;have:=ab_nn' s.a;have:=ab_nn' s.b;omega
theorem zrY_nn {S:List Sd} {g ys:List Int} (h:zrY S g=some ys):∀ y∈ys,0≤y:=by
  unfold zrY at h
  split at h
  · unfold zr2 at h
    split at h
    · cases h
      intro y hy
      have:=siz_nn (atS S g 0);have:=siz_nn (atS S g 1)
      simp only [List.mem_cons,List.not_mem_nil,or_false] at hy
      rcases hy with rfl | rfl <;> omega
    · cases h
  · split at h
    · unfold zr3 at h
      dsimp only at h
      split at h
      · split at h
        · cases h;intro y hy;simp only [List.mem_cons,List.not_mem_nil,or_false] at hy;rcases hy with rfl | rfl | rfl <;> omega
        · cases h
      · split at h
        · cases h;intro y hy;simp only [List.mem_cons,List.not_mem_nil,or_false] at hy;rcases hy with rfl | rfl | rfl <;> omega
        · cases h
    · cases h
/-- sides that contradict each other are not all fit by a truth -/
theorem Dbt.no {S:List Sd} (h:Dbt S) {t:Tru} (ht:0<t.d):¬ ∀ s∈S,fitS s t:=fun hf=>by
  obtain ⟨hg,hs⟩:=h.hit
  obtain ⟨ys,e,ez⟩:=dbt_def hs
  have hgr:=(grp_ok (m:=3) (by omega) hg).1
  have hfit:=tkS_fit hf hgr.rng (zrY_nn ez) (zrY_len ez) (i:=(hitG S).length) (Nat.le_refl _)
  obtain ⟨_,⟨h1,h2⟩,h3⟩:=dbt_some.1 hs
  rw [ez] at h1 h2 h3
  have h1':(tkS S (hitG S) ys (hitG S).length).a=0:=h1
  have h2':(tkS S (hitG S) ys (hitG S).length).b=0:=h2
  have h3':0<(tkS S (hitG S) ys (hitG S).length).c:=h3
  unfold fitS at hfit
  rw [h1',h2',Int.zero_mul,Int.zero_mul] at hfit
  have:=Int.mul_pos h3' ht
  omega
abbrev wS (p q:Int):Sd:=⟨p,q,0⟩
section
variable {S:List Sd} {p q:Int}
theorem mst_inv {y:Sd × Int} (h:y∈mstA S p q):(∃ s∈S,fit2 s (wS p q) (siz (wS p q)) (-(siz s))∧y.1.c=s.c*siz (wS p q)∧y.2=siz s∧y.1.a=p*y.2∧y.1.b=q*y.2) ∨
    (∃ a∈S,∃ b∈S,0<crs a b∧0≤crs (wS p q) b∧0≤crs a (wS p q)∧y.1.c=crs (wS p q) b*a.c+crs a (wS p q)*b.c∧y.2=crs a b∧y.1.a=p*y.2∧y.1.b=q*y.2):=by
  obtain ⟨g,hg,hy⟩:=List.mem_flatMap.1 h
  obtain ⟨hgr,h2⟩:=grp_ok (m:=2) (by omega) hg
  have hgn:=hgr.len
  have hat:∀ i,i<g.length→atS S g i∈S:=fun i hi=>getD_mem (show (g.getD i 0).toNat<S.length by have:=hgr.rng _ (getD_mem hi 0);omega) sd0
  unfold mstL at hy
  cases hm:mstG S p q g with
  | none=>rw [hm] at hy;simp at hy
  | some x =>
    rw [hm] at hy
    obtain rfl:y=(tkS S g x.1 g.length,x.2):=by simpa using hy
    unfold mstG at hm
    split at hm
    · rename_i h1
      unfold mst1 at hm
      split at hm
      · rename_i hf
        cases hm
        refine .inl ⟨_,hat 0 (by omega),hf,?_,rfl,?_,?_⟩
        · rw [h1];show 0+(atS S g 0).c*_=_;rw [Int.zero_add];rfl
        · rw [h1];show 0+(atS S g 0).a*siz (wS p q)=p*siz (atS S g 0)
          have k:(atS S g 0).a*siz (wS p q)+p * -(siz (atS S g 0))=0:=hf.2.1
          rw [Int.mul_neg] at k;omega
        · rw [h1];show 0+(atS S g 0).b*siz (wS p q)=q*siz (atS S g 0)
          have k:(atS S g 0).b*siz (wS p q)+q * -(siz (atS S g 0))=0:=hf.2.2
          rw [Int.mul_neg] at k;omega
      · cases hm
    · rename_i h1
      have h2:g.length=2:=by omega
      have a0:=hat 0 (by omega)
      have a1:=hat 1 (by omega)
      have hc:∀ x y:Int,tkS S g [x,y] g.length=addS (addS sd0 (byS (atS S g 0) x)) (byS (atS S g 1) y):=fun x y=>by rw [h2];rfl
      unfold mst2 at hm
      split at hm
      · split at hm
        · rename_i c1 c2
          cases hm
          have n1:crs (atS S g 1) (atS S g 0) = -crs (atS S g 0) (atS S g 1):=by unfold crs;grind
          have n2:crs (wS p q) (atS S g 0) = -crs (atS S g 0) (wS p q):=by unfold crs;grind
          have n3:crs (atS S g 1) (wS p q) = -crs (wS p q) (atS S g 1):=by unfold crs;grind
          refine .inr ⟨_,a1,_,a0,by omega,by rw [n2];exact c2.2.2,by rw [n3];exact c2.2.1,?_,n1.symm,?_,?_⟩
          · rw [n2,n3,hc]
            show 0+(atS S g 0).c * -(crs (wS p q) (atS S g 1))+(atS S g 1).c * -(crs (atS S g 0) (wS p q))=_
            grind
          · rw [hc]
            show 0+(atS S g 0).a * -(crs (wS p q) (atS S g 1))+(atS S g 1).a * -(crs (atS S g 0) (wS p q))=p * -(crs (atS S g 0) (atS S g 1))
            unfold crs;grind
          · rw [hc]
            show 0+(atS S g 0).b * -(crs (wS p q) (atS S g 1))+(atS S g 1).b * -(crs (atS S g 0) (wS p q))=q * -(crs (atS S g 0) (atS S g 1))
            unfold crs;grind
        · cases hm
      · split at hm
        · rename_i c1 c2
          cases hm
          refine .inr ⟨_,a0,_,a1,c2.1,c2.2.1,c2.2.2,?_,rfl,?_,?_⟩
          · rw [hc]
            show 0+(atS S g 0).c*(crs (wS p q) (atS S g 1))+(atS S g 1).c*(crs (atS S g 0) (wS p q))=_
            grind
          · rw [hc]
            show 0+(atS S g 0).a*(crs (wS p q) (atS S g 1))+(atS S g 1).a*(crs (atS S g 0) (wS p q))=p*(crs (atS S g 0) (atS S g 1))
            unfold crs;grind
          · rw [hc]
            show 0+(atS S g 0).b*(crs (wS p q) (atS S g 1))+(atS S g 1).b*(crs (atS S g 0) (wS p q))=q*(crs (atS S g 0) (atS S g 1))
            unfold crs;grind
        · cases hm
/-- what is made is not above the value of a truth -/
theorem mst_weak {y:Sd × Int} (h:y∈mstA S p q) {t:Tru} (hf:∀ s∈S,fitS s t):y.1.c*t.d≤(p*t.a+q*t.b)*y.2:=by
  have key:fitS ⟨p*y.2,q*y.2,y.1.c⟩ t:=by
    rcases mst_inv h with ⟨s,hs,_,h1,h2,h3,h4⟩ | ⟨a,ha,b,hb,_,h1,h2,h3,h4,h5,h6⟩
    · have:=(hf s hs).by_ (siz_nn (wS p q))
      unfold byS at this
      have e:s.a*siz (wS p q)=p*siz s∧s.b*siz (wS p q)=q*siz s:=by
        rename_i k
        have k1:s.a*siz (wS p q)+p * -(siz s)=0:=k.2.1
        have k2:s.b*siz (wS p q)+q * -(siz s)=0:=k.2.2
        rw [Int.mul_neg] at k1 k2
        constructor <;> omega
      rw [e.1,e.2,← h1,← h2] at this
      exact this
    · have:=((hf a ha).by_ h1).add ((hf b hb).by_ h2)
      unfold byS addS at this
      dsimp only at this
      have e1:a.a*crs (wS p q) b+b.a*crs a (wS p q)=p*y.2:=by rw [h4];unfold crs;grind
      have e2:a.b*crs (wS p q) b+b.b*crs a (wS p q)=q*y.2:=by rw [h4];unfold crs;grind
      have e3:a.c*crs (wS p q) b+b.c*crs a (wS p q)=y.1.c:=by rw [h3];grind
      rw [e1,e2,e3] at this
      exact this
  unfold fitS at key
  dsimp only at key
  have e:(p*t.a+q*t.b)*y.2=p*y.2*t.a+q*y.2*t.b:=by grind
  omega
end
/-! ### Contradictions -/
section
variable {S:List Sd}
end
end Go.Proofs.YtfchgmiiicidcaaGreat.Sp
namespace Go.Proofs.YtfchgmiiicidcaaGreat.Sp
open Go Go.TH
attribute [local irreducible] W WO pt
set_option maxRecDepth 10000
set_option maxHeartbeats 1000000
theorem chkA_0 {l:List Rn} {p q:Int} (h:chkRs l=0) (hp:OkN p) (hq:OkN q):chkA l p q=0:=by unfold chkA;rw [if_neg (by omega),if_pos ⟨hp,hq⟩]
end Go.Proofs.YtfchgmiiicidcaaGreat.Sp
namespace Go.Proofs.YtfchgmiiicidcaaGreat
open Go Go.TH
theorem val_bd4 {P A:List Int} {R:Ch.Rws} {x y:Int} {T:Nat→Nat→Int} (hc:Ch.OkC P A R) (hx:Ch.On P x∧Ch.On A y) (hT:∀ i k,i<P.length→k<A.length→0≤T i k∧T i k≤100000):(0≤(Ch.valQ P A x y T).1∧(Ch.valQ P A x y T).1≤400000000000)∧(0<(Ch.valQ P A x y T).2∧(Ch.valQ P A x y T).2≤4000000):=by
  have hw:=whS_pos hc hx
  have hv:=(val_bd hc hx hT)
  have hbp:=Ch.on_bd hc.up hc.np.1 hx.1
  have hba:=Ch.on_bd hc.ua hc.na.1 hx.2
  have hfx:=Ch.fr_bd hc.up hc.np.1 hx.1
  have hfy:=Ch.fr_bd hc.ua hc.na.1 hx.2
  have hw2:Ch.whS P A x y≤4000000:=by
    have q1:Ch.fr1 P x+Ch.fr0 P x≤2000:=by unfold Ch.fr1 Ch.fr0;omega
    have q2:Ch.fr1 A y+Ch.fr0 A y≤2000:=by unfold Ch.fr1 Ch.fr0;omega
    exact Int.mul_le_mul q1 q2 (by omega) (by omega)
  have h1:=plS_le (T:=T) (T':=fun _ _=>100000) hc hx (fun i k h1 h2=>(hT i k h1 h2).2)
  have e1:Ch.plS P A x y (fun _ _=>100000) 4=Ch.whS P A x y*100000:=by
    rw [← Ch.whS_eq];unfold Ch.plS;simp only [Ch.aS];omega
  obtain ⟨k,hk,k1,k2⟩:=red_pt (Ch.plS P A x y T 4) hw
  unfold Ch.valQ at hv ⊢
  generalize (Ch.red (Ch.plS P A x y T 4) (Ch.whS P A x y)).1=u at *
  generalize (Ch.red (Ch.plS P A x y T 4) (Ch.whS P A x y)).2=v at *
  have hu2:=Int.mul_le_mul_of_nonneg_left (show 1≤k by omega) hv.1.1
  have hv2:=Int.mul_le_mul_of_nonneg_left (show 1≤k by omega) (Int.le_of_lt hv.2.1)
  omega
theorem red_bd {n d M:Int} (hd:0<d∧d≤M) (hn:0≤n∧n≤M):(0≤(Ch.red n d).1∧(Ch.red n d).1≤M)∧(0<(Ch.red n d).2∧(Ch.red n d).2≤M):=by
  obtain ⟨k,hk,k1,k2⟩:=red_pt n hd.1
  generalize (Ch.red n d).1=u at *
  generalize (Ch.red n d).2=v at *
  have hu:0≤u:=by
    rcases Int.lt_or_le u 0 with c | c
    · have:=Int.mul_lt_mul_of_pos_right c hk;rw [Int.zero_mul] at this;omega
    · exact c
  have hv:0<v:=by
    rcases Int.lt_or_le 0 v with c | c
    · exact c
    · have:=Int.mul_le_mul_of_nonneg_right c (Int.le_of_lt hk);rw [Int.zero_mul] at this;omega
  have hu2:=Int.mul_le_mul_of_nonneg_left (show 1≤k by omega) hu
  have hv2:=Int.mul_le_mul_of_nonneg_left (show 1≤k by omega) (Int.le_of_lt hv)
  omega
theorem me_bd {P A:List Int} {R:Ch.Rws} {T:Nat→Nat→Int} {x base slope:Int} {z:Int × Int} (hc:Ch.OkC P A R) (hx:Ch.On P x) (hn:OkN base slope) (hT:∀ i k,i<P.length→k<A.length→0≤T i k∧T i k≤100000) (h:MeR A (abv P A T x base slope) A.length true z):(0≤z.1∧z.1≤1000000000000000)∧(0<z.2∧z.2≤1000000000000000):=by
  cases h with
  | here j hj hp h0=>have:=hc.ua.2 _ (getD_mem hj 0);dsimp only;omega
  | mid j hj hp h0 =>
    have hb1:=abv_bd (k:=j) hc hx hn hT (by omega)
    have hb2:=abv_bd (k:=j+1) hc hx hn hT (by omega)
    have hA1:=hc.ua.2 _ (getD_mem (show j<A.length by omega) 0)
    have hA2:=hc.ua.2 _ (getD_mem (show j+1<A.length by omega) 0)
    have hp0:=hp j (by omega)
    have hp1:abv P A T x base slope j≤5000000000:=by unfold abv;omega
    have hq1 : -5000000000≤abv P A T x base slope (j+1):=by unfold abv;omega
    have hmd:=mid_bd (a:=A.getD j 0) (b:=A.getD (j+1) 0) (p:=abv P A T x base slope j) (q := -abv P A T x base slope (j+1)) (by omega) (by omega) (by omega) (by omega)
    exact red_bd (by omega) (by omega)
theorem sp_two {l:List Sp.Rn} {p q:Int} (h:Sp.chkRs l=0) (hp:Sp.OkN p) (hq:Sp.OkN q) {t:Sp.Tru} (ht:0<t.d) (hf:Sp.fitL l t):Sp.leE l p q=0∨Sp.leE l p q=5:=by
  have h1:¬ Sp.chkA l p q≠0:=by rw [Sp.chkA_0 h hp hq];omega
  have h2:¬ Sp.Dbt (Sp.sds l):=fun hd=>hd.no ht (Sp.fitL_iff.1 hf)
  rcases Decidable.em (Sp.Bnd (Sp.sds l) p q) with hb | hb
  · exact .inl (Sp.leE_0 h1 h2 hb)
  · exact .inr (Sp.leE_5 h1 h2 hb)
/-- a bound is not above the value of a truth with whole numbers -/
theorem sp_bound {l:List Sp.Rn} {p q:Int} (h:Sp.leE l p q=0) {y:Sp.Sd × Int} (hm:Sp.MostI (Sp.sds l) p q y) {a b n:Int} (hn:n=p*a+q*b) (hnb : -1000000≤n∧n≤1000000) (hf:Sp.fitL l ⟨a,b,1⟩):(Sp.red y.1.c y.2).1≤n*(Sp.red y.1.c y.2).2∧((-400000000≤(Sp.red y.1.c y.2).1∧(Sp.red y.1.c y.2).1≤400000000)∧0<(Sp.red y.1.c y.2).2∧(Sp.red y.1.c y.2).2≤1000) ∧ -1000000000≤n*(Sp.red y.1.c y.2).2∧n*(Sp.red y.1.c y.2).2≤1000000000:=by
  obtain ⟨h1,h2,h3,h4,h5,h6⟩:=Sp.leE_ok h
  have hmo:=hm.ok h1 h3 h4
  have hri:=Sp.red_in hmo.c hmo.t
  have hw:y.1.c*1≤n*y.2:=by
    rw [hn]
    rcases hm.mem with ⟨rfl,rfl,rfl⟩ | ⟨_,hy2⟩
    · simp [Sp.sd0]
    · exact Sp.mst_weak hy2 (t:=⟨a,b,1⟩) (Sp.fitL_iff.1 hf)
  obtain ⟨g,hg,e1,e2,_⟩:=Sp.red_parts y.1.c hmo.t.1
  generalize Sp.red y.1.c y.2=r at *
  refine ⟨?_,hri,?_⟩
  · rw [Int.mul_one,e1,e2] at hw
    have e3:n*(r.2*g)=n*r.2*g:=by grind
    rw [e3] at hw
    rcases Int.lt_or_le (n*r.2) r.1 with c | c
    · have:=Int.mul_lt_mul_of_pos_right c hg;omega
    · exact c
  · rcases Int.le_total 0 n with c | c
    · have:=Int.mul_nonneg c (show 0≤r.2 by omega)
      have:=Int.mul_le_mul hnb.2 hri.2.2 (by omega) (by omega)
      omega
    · have:=Int.mul_nonneg (show 0 ≤ -n by omega) (show 0≤r.2 by omega)
      have:=Int.mul_le_mul (show -n≤1000000 by omega) hri.2.2 (by omega) (by omega)
      rw [Int.neg_mul] at *
      omega
end Go.Proofs.YtfchgmiiicidcaaGreat
namespace Go.Proofs.YtfchgmiiicidcaaGreat
open Go Go.TH
attribute [local irreducible] W WO pt
set_option maxRecDepth 10000
set_option maxHeartbeats 2000000
theorem ref_rising (w:World) (v:Value) (l:List Int) (hR:RdF encI 1 w.heap.size w v l):Ret Tryz.prog 79 [v].toArray w (.bool (bl (Ch.Ris l))):=by
 refine Ret.of mixed tyTab Tryz.func79 rfl rfl ?_
 replace hR:RdF encI 1 (fnCx mixed tyTab Tryz.f79.ntmps w).B (fnCx mixed tyTab Tryz.f79.ntmps w).w0 v l:=hR
 have hle:=hR.sl.le
 refine W.sreg (WO.p rfl rfl (WO.nil (W.seq (W.sreg (WO.p rfl rfl (WO.nil (W.block ?_)))))))
 refine W.loop (fun (i:Nat)=>i≤l.length∧Ch.Up l i∧∀ x∈l.take i,0≤x∧x≤2000)
  (fun (i:Nat)=>[(3,.int .i64 (i:Int)),(0,v)])
  (fun (i:Nat)=>[])
  (fun (i:Nat)=>l.length-i) 0
  (by exact ⟨by omega,fun i hi=>by omega,by simp⟩) ⟨rfl,rfl,trivial⟩ (by repeat (first | exact Sub.nil | refine Sub.cons (by repeat first | exact .head | apply Pick.tail) ?_)) ?_
 rintro i ⟨hi0,hu,ha⟩
 refine W.seq (W.sreg (WO.p rfl rfl (WO.p rfl rfl (WO.len rfl rfl hR.sl rfl (WO.p rfl rfl (WO.nil ?_))))))
 refine W.cond_bl rfl (fun c1=>?_) (fun c1=>?_)
 ·refine W.skip (W.seq (W.block (W.seq ?_)))
  refine W.drawD 25 [.r 0 [],.r 1 [],.r 2 [],.b 3 [],.r 4 [],.r 5 [],.r 6 [],.r 7 [],.r 8 [],.b 9 [],.r 10 [],.r 11 [],.r 12 [],.r 13 [],.r 14 [],.r 15 [],.r 16 [],.r 17 [],.r 18 [],.b 19 [],.r 20 [],.r 21 [],.r 22 [],.r 23 [],.b 24 []] [] (A0:=[]) (Sub.refl _) (by kernel_rfl) ?_ ?_
  ·repeat constructor
  refine DT.r rfl rfl rfl (WO.p rfl rfl (WO.nil ⟨rfl,rfl⟩)) (DT.r rfl rfl rfl (WO.p rfl rfl (WO.nil ⟨rfl,rfl⟩)) (DT.r rfl rfl rfl (WO.indexAddr rfl rfl rfl hR.sl (by omega) rfl (WO.nil ⟨rfl,rfl⟩)) ?_))
  refine' DT.b rfl rfl rfl ?hq ?_
  case hq =>
   refine' WO.load (v:=_) rfl rfl ?hc rfl ?_
   case hc=>(first | (refine hR.cell0 (i:=i) ?_ 0 ?_ <;> first | rfl | omega))
   exact WO.nil ⟨rfl,rfl⟩
  refine DT.r rfl rfl rfl (WO.p rfl rfl (WO.nil ⟨rfl,rfl⟩)) ?_
  refine DT.rB rfl rfl rfl (WO.p rfl rfl (WO.nil ⟨rfl,rfl⟩)) (fun c2=>?_) (fun c2=>?_)
  ·refine DT.r rfl rfl rfl (WO.no rfl rfl (WO.nil ⟨rfl,rfl⟩)) (DT.r rfl rfl rfl (WO.no rfl rfl (WO.nil ⟨rfl,rfl⟩)) (DT.r rfl rfl rfl (WO.no rfl rfl (WO.nil ⟨rfl,rfl⟩)) (DT.b rfl rfl rfl (WO.no rfl rfl (WO.nil ⟨rfl,rfl⟩)) (DT.r rfl rfl rfl (WO.no rfl rfl (WO.nil ⟨rfl,rfl⟩)) (DT.r rfl rfl rfl (WO.p rfl rfl (WO.nil ⟨rfl,rfl⟩)) (DT.r rfl rfl rfl (WO.p rfl rfl (WO.nil ⟨rfl,rfl⟩)) (DT.r rfl rfl rfl (WO.no rfl rfl (WO.nil ⟨rfl,rfl⟩)) (DT.r rfl rfl rfl (WO.no rfl rfl (WO.nil ⟨rfl,rfl⟩)) (DT.r rfl rfl rfl (WO.no rfl rfl (WO.nil ⟨rfl,rfl⟩)) (DT.r rfl rfl rfl (WO.no rfl rfl (WO.nil ⟨rfl,rfl⟩)) (DT.r rfl rfl rfl (WO.no rfl rfl (WO.nil ⟨rfl,rfl⟩)) ?_)))))))))))
   refine DT.r rfl rfl rfl (WO.no rfl rfl (WO.nil ⟨rfl,rfl⟩)) (DT.b rfl rfl rfl (WO.no rfl rfl (WO.nil ⟨rfl,rfl⟩)) (DT.r rfl rfl rfl (WO.no rfl rfl (WO.nil ⟨rfl,rfl⟩)) (DT.r rfl rfl rfl (WO.no rfl rfl (WO.nil ⟨rfl,rfl⟩)) (DT.r rfl rfl rfl (WO.no rfl rfl (WO.nil ⟨rfl,rfl⟩)) (DT.r rfl rfl rfl (WO.no rfl rfl (WO.nil ⟨rfl,rfl⟩)) (DT.b rfl rfl rfl (WO.no rfl rfl (WO.nil ⟨rfl,rfl⟩)) (DT.nil [] rfl (WO.no rfl rfl (WO.no rfl rfl (WO.p rfl rfl (WO.nil (W.cond_t rfl (W.sreg (WO.p rfl rfl (WO.nil (W.ret (fin.ret (Res.one rfl (RV.tmp rfl)) (congrArg Value.bool ?_))))))))))))))))))
   (refine (bl_f.2 (fun h=>?_)).symm;have h2:=h.2 _ (getD_mem (show i<l.length by omega) 0);omega)
  ·refine DT.r rfl rfl rfl (WO.pg rfl rfl rfl (WO.nil ⟨rfl,rfl⟩)) (DT.r rfl rfl rfl (WO.pg rfl rfl rfl (WO.nil ⟨rfl,rfl⟩)) (DT.r rfl rfl rfl (WO.go' rfl (WO.indexAddr rfl rfl rfl hR.sl (by omega) rfl (WO.nil ⟨rfl,rfl⟩))) ?_))
   refine' DT.b rfl rfl rfl ?hq ?_
   case hq =>
    refine WO.go' rfl ?_
    refine' WO.load (v:=_) rfl rfl ?hc rfl ?_
    case hc=>(first | (refine hR.cell0 (i:=i) ?_ 0 ?_ <;> first | rfl | omega))
    exact WO.nil ⟨rfl,rfl⟩
   refine DT.r rfl rfl rfl (WO.pg rfl rfl rfl (WO.nil ⟨rfl,rfl⟩)) (DT.r rfl rfl rfl (WO.p rfl rfl (WO.nil ⟨rfl,rfl⟩)) ?_)
   refine DT.rB rfl rfl rfl (WO.p rfl rfl (WO.nil ⟨rfl,rfl⟩)) (fun c3=>?_) (fun c3=>?_)
   ·refine DT.r rfl rfl rfl (WO.no rfl rfl (WO.nil ⟨rfl,rfl⟩)) (DT.r rfl rfl rfl (WO.no rfl rfl (WO.nil ⟨rfl,rfl⟩)) (DT.r rfl rfl rfl (WO.no rfl rfl (WO.nil ⟨rfl,rfl⟩)) (DT.r rfl rfl rfl (WO.no rfl rfl (WO.nil ⟨rfl,rfl⟩)) (DT.r rfl rfl rfl (WO.no rfl rfl (WO.nil ⟨rfl,rfl⟩)) (DT.r rfl rfl rfl (WO.no rfl rfl (WO.nil ⟨rfl,rfl⟩)) (DT.b rfl rfl rfl (WO.no rfl rfl (WO.nil ⟨rfl,rfl⟩)) (DT.r rfl rfl rfl (WO.no rfl rfl (WO.nil ⟨rfl,rfl⟩)) (DT.r rfl rfl rfl (WO.no rfl rfl (WO.nil ⟨rfl,rfl⟩)) (DT.r rfl rfl rfl (WO.no rfl rfl (WO.nil ⟨rfl,rfl⟩)) (DT.r rfl rfl rfl (WO.no rfl rfl (WO.nil ⟨rfl,rfl⟩)) (DT.b rfl rfl rfl (WO.no rfl rfl (WO.nil ⟨rfl,rfl⟩)) (DT.nil [] rfl ?_))))))))))))
    refine WO.no rfl rfl (WO.no rfl rfl (WO.p rfl rfl (WO.nil (W.cond_t rfl (W.sreg (WO.p rfl rfl (WO.nil (W.ret (fin.ret (Res.one rfl (RV.tmp rfl)) (congrArg Value.bool ?_))))))))))
    (refine (bl_f.2 (fun h=>?_)).symm;have h2:=h.2 _ (getD_mem (show i<l.length by omega) 0);omega)
   ·refine DT.r rfl rfl rfl (WO.pg rfl rfl rfl (WO.nil ⟨rfl,rfl⟩)) (DT.r rfl rfl rfl (WO.pg rfl rfl rfl (WO.nil ⟨rfl,rfl⟩)) ?_)
    refine DT.rB rfl rfl rfl (WO.pg rfl rfl rfl (WO.nil ⟨rfl,rfl⟩)) (fun c4=>?_) (fun c4=>?_)
    ·refine DT.r rfl rfl rfl (WO.pg rfl rfl rfl (WO.nil ⟨rfl,rfl⟩)) (DT.r rfl rfl rfl (WO.pg rfl rfl rfl (WO.nil ⟨rfl,rfl⟩)) (DT.r rfl rfl rfl (WO.go' rfl (WO.indexAddr rfl rfl rfl hR.sl (by omega) rfl (WO.nil ⟨rfl,rfl⟩))) ?_))
     refine' DT.b rfl rfl rfl ?hq ?_
     case hq =>
      refine WO.go' rfl ?_
      refine' WO.load (v:=_) rfl rfl ?hc rfl ?_
      case hc=>(first | (refine hR.cell0 (i:=i) ?_ 0 ?_ <;> first | rfl | omega))
      exact WO.nil ⟨rfl,rfl⟩
     refine DT.r rfl rfl rfl (WO.pg rfl rfl rfl (WO.nil ⟨rfl,rfl⟩)) (DT.r rfl rfl rfl (WO.pg rfl rfl rfl (WO.nil ⟨rfl,rfl⟩)) (DT.r rfl rfl rfl (WO.go' rfl (WO.ar rfl rfl rfl (by unfold in64;omega) rfl (WO.nil ⟨rfl,rfl⟩))) ?_))
     refine' DT.r rfl rfl rfl ?hq ?_
     case hq =>
      refine WO.go' rfl ?_
      refine' WO.indexAddrZ (n:=_) rfl rfl rfl ?hs ?h00 ?h1 rfl ?_
      case hs=>exact hR.sl
      case h00=>omega
      case h1=>(omega)
      exact WO.nil ⟨rfl,rfl⟩
     refine' DT.b rfl rfl rfl ?hq ?_
     case hq =>
      refine WO.go' rfl ?_
      refine' WO.load (v:=_) rfl rfl ?hc rfl ?_
      case hc=>(first | (refine hR.cell0 (i:=((i:Int)-1).toNat) ?_ 0 ?_ <;> first | rfl | omega))
      exact WO.nil ⟨rfl,rfl⟩
     refine DT.nil [] rfl (WO.pg rfl rfl rfl (WO.pg rfl rfl rfl (WO.p rfl rfl (WO.nil ?_))))
     refine W.cond_bl rfl (fun c5=>?_) (fun c5=>?_)
     ·refine W.sreg (WO.p rfl rfl (WO.nil (W.ret (fin.ret (Res.one rfl (RV.tmp rfl)) (congrArg Value.bool ?_)))))
      (refine (bl_f.2 (fun h=>?_)).symm;have h1:=h.1 i (by omega) (by omega);rw [show i-1=((i:Int)-1).toNat by omega] at h1;omega)
     ·refine W.skip (W.region (WO.p rfl rfl (WO.ar rfl rfl rfl (by unfold in64;omega) rfl (WO.p rfl rfl (WO.nil ?_)))))
      refine' ⟨i+1,?hp,?hmu,⟨rfl,rfl,trivial⟩,?hS⟩
      case hS=>repeat (first | exact Sub.nil | refine Sub.cons (by repeat first | exact .head | apply Pick.tail) ?_)
      case hp=>exact ⟨by omega,hu.next fun h0=>(by rw [show i-1=((i:Int)-1).toNat by omega];omega),all_succ (by omega) 0 ha (by omega)⟩
      case hmu=>omega
    ·refine DT.r rfl rfl rfl (WO.no rfl rfl (WO.nil ⟨rfl,rfl⟩)) (DT.r rfl rfl rfl (WO.no rfl rfl (WO.nil ⟨rfl,rfl⟩)) (DT.r rfl rfl rfl (WO.no rfl rfl (WO.nil ⟨rfl,rfl⟩)) (DT.b rfl rfl rfl (WO.no rfl rfl (WO.nil ⟨rfl,rfl⟩)) (DT.r rfl rfl rfl (WO.no rfl rfl (WO.nil ⟨rfl,rfl⟩)) (DT.r rfl rfl rfl (WO.no rfl rfl (WO.nil ⟨rfl,rfl⟩)) (DT.r rfl rfl rfl (WO.no rfl rfl (WO.nil ⟨rfl,rfl⟩)) (DT.r rfl rfl rfl (WO.no rfl rfl (WO.nil ⟨rfl,rfl⟩)) (DT.b rfl rfl rfl (WO.no rfl rfl (WO.nil ⟨rfl,rfl⟩)) (DT.nil [] rfl (WO.no rfl rfl (WO.pg rfl rfl rfl (WO.p rfl rfl (WO.nil (W.cond_f rfl (W.skip (W.region ?_))))))))))))))))
     refine WO.p rfl rfl (WO.ar rfl rfl rfl (by unfold in64;omega) rfl (WO.p rfl rfl (WO.nil ?_)))
     refine' ⟨i+1,?hp,?hmu,⟨rfl,rfl,trivial⟩,?hS⟩
     case hS=>repeat (first | exact Sub.nil | refine Sub.cons (by repeat first | exact .head | apply Pick.tail) ?_)
     case hp=>exact ⟨by omega,hu.next fun h0=>(by rw [show i-1=((i:Int)-1).toNat by omega];omega),all_succ (by omega) 0 ha (by omega)⟩
     case hmu=>omega
 ·refine W.exit (blk_same (W.sreg (WO.p rfl rfl (WO.nil (W.ret (fin.ret (Res.one rfl (RV.tmp rfl)) (congrArg Value.bool ?_)))))))
  (have hl:i=l.length:=(by omega);subst hl;rw [List.take_length] at ha;exact (bl_t.2 ⟨hu,ha⟩).symm)
end Go.Proofs.YtfchgmiiicidcaaGreat
namespace Go.Proofs.YtfchgmiiicidcaaGreat
open Go Go.TH
attribute [local irreducible] W WO pt
set_option maxRecDepth 10000
set_option maxHeartbeats 2000000
def ptN (l:List Int) (g:Int):Int:=l.getD 0 0+g.tmod (l.getD (l.length-1) 0-l.getD 0 0+1)
theorem pt_bd {l:List Int} {g:Int} (hr:Ch.Ris l) (h2:2≤l.length) (hg:0≤g):l.getD 0 0≤ptN l g∧ptN l g≤l.getD (l.length-1) 0∧(0≤l.getD 0 0∧l.getD 0 0≤l.getD (l.length-1) 0∧l.getD (l.length-1) 0≤2000):=by
 have h0:=hr.2 _ (getD_mem (show 0<l.length by omega) 0)
 have h1:=hr.2 _ (getD_mem (show l.length-1<l.length by omega) 0)
 have hlt:=hr.1.lt (show 0<l.length-1 by omega) (show l.length-1<l.length by omega)
 have m0:=Int.tmod_nonneg (l.getD (l.length-1) 0-l.getD 0 0+1) hg
 have m1:=Int.tmod_lt_of_pos g (show 0<l.getD (l.length-1) 0-l.getD 0 0+1 by omega)
 unfold ptN
 omega
theorem pt_on {l:List Int} {g:Int} (hr:Ch.Ris l) (h2:2≤l.length) (hg:0≤g):Ch.On l (ptN l g):=by
 have h:=pt_bd hr h2 hg
 refine ⟨h.1,List.findIdx_lt_length.2 ⟨l.getD (l.length-1) 0,getD_mem (by omega) 0,decide_eq_true h.2.1⟩⟩
theorem c_Point (w:World) (vp va o:Value) (P A:List Int) (R:Ch.Rws) (g h:Int) (hg:0≤g∧g≤65535) (hh:0≤h∧h≤65535) (hc:Ch.OkC P A R) (ho:o.oneCell'=true) (hP:RdF encI 1 w.heap.size w vp P) (hA:RdF encI 1 w.heap.size w va A):Ret Tryz.prog 19 [.agg #[vp,va,o],.agg #[.int .u16 g,.int .u16 h]].toArray w (.agg #[.int .i64 (ptN P g),.int .i64 (ptN A h)]):=by
 refine Ret.of mixed tyTab Tryz.func19 rfl rfl ?_
 replace hP:RdF encI 1 (fnCx mixed tyTab Tryz.f19.ntmps w).B (fnCx mixed tyTab Tryz.f19.ntmps w).w0 vp P:=hP
 replace hA:RdF encI 1 (fnCx mixed tyTab Tryz.f19.ntmps w).B (fnCx mixed tyTab Tryz.f19.ntmps w).w0 va A:=hA
 have hlp:=hP.sl.le
 have hla:=hA.sl.le
 have hnp:=hc.np
 have hna:=hc.na
 have bp:=pt_bd hc.up hnp.1 hg.1
 have ba:=pt_bd hc.ua hna.1 hh.1
 unfold ptN at bp ba
 have e1:((P.length:Int)-1).toNat=P.length-1:=by omega
 have e2:((A.length:Int)-1).toNat=A.length-1:=by omega
 rw [← e1] at bp
 rw [← e2] at ba
 unfold ptN
 rw [← e1,← e2]
 refine W.sreg (WO.boxA rfl rfl (fun b1 hb1=>(WO.boxA rfl rfl (fun b2 hb2=>(WO.alloc rfl rfl rfl (fun b3 hb3=>(WO.nil (W.seq ?_))))))))
 refine W.drawD 13 [.r 0 [],.b 1 [],.r 2 [],.b 3 [],.r 4 [],.b 5 [],.r 6 [],.b 7 [],.r 8 [],.r 9 [],.r 10 [],.b 11 [],.r 12 []] [] (A0:=[]) (Sub.refl _) (by kernel_rfl) ?_ ?_
 ·repeat constructor
 refine DT.r rfl rfl rfl (WO.field0 rfl rfl rfl (WO.nil ⟨rfl,rfl⟩)) (DT.b rfl rfl rfl (WO.load rfl rfl (Cell.own (Pick.tail (Pick.tail (Pick.head))) rfl) rfl (WO.nil ⟨rfl,rfl⟩)) (DT.r rfl rfl rfl (WO.indexAddr (i:=0) rfl rfl rfl hP.sl (by omega) rfl (WO.nil ⟨rfl,rfl⟩)) ?_))
 refine' DT.b rfl rfl rfl ?hq ?_
 case hq =>
  refine' WO.load (v:=_) rfl rfl ?hc rfl ?_
  case hc=>(first | (refine hP.cell0 (i:=0) ?_ 0 ?_ <;> first | rfl | omega))
  exact WO.nil ⟨rfl,rfl⟩
 refine DT.r rfl rfl rfl (WO.field0 rfl rfl rfl (WO.nil ⟨rfl,rfl⟩)) (DT.b rfl rfl rfl (WO.load rfl rfl (Cell.own (Pick.tail (Pick.tail (Pick.head))) rfl) rfl (WO.nil ⟨rfl,rfl⟩)) (DT.r rfl rfl rfl (WO.field0 rfl rfl rfl (WO.nil ⟨rfl,rfl⟩)) (DT.b rfl rfl rfl (WO.load rfl rfl (Cell.own (Pick.tail (Pick.tail (Pick.head))) rfl) rfl (WO.nil ⟨rfl,rfl⟩)) (DT.r rfl rfl rfl (WO.len rfl rfl hP.sl rfl (WO.nil ⟨rfl,rfl⟩)) (DT.r rfl rfl rfl (WO.ar rfl rfl rfl (by unfold in64;omega) rfl (WO.nil ⟨rfl,rfl⟩)) ?_)))))
 refine' DT.r rfl rfl rfl ?hq ?_
 case hq =>
  refine' WO.indexAddrZ (n:=_) rfl rfl rfl ?hs ?h00 ?h1 rfl ?_
  case hs=>exact hP.sl
  case h00=>omega
  case h1=>(omega)
  exact WO.nil ⟨rfl,rfl⟩
 refine' DT.b rfl rfl rfl ?hq ?_
 case hq =>
  refine' WO.load (v:=_) rfl rfl ?hc rfl ?_
  case hc=>(first | (refine hP.cell0 (i:=((P.length:Int)-1).toNat) ?_ 0 ?_ <;> first | rfl | omega))
  exact WO.nil ⟨rfl,rfl⟩
 refine DT.r rfl rfl rfl (WO.p rfl rfl (WO.nil ⟨rfl,rfl⟩)) (DT.nil [_,_,_] rfl (WO.p rfl rfl (WO.nil (W.seq ?_))))
 refine W.drawD 13 [.r 0 [],.b 1 [],.r 2 [],.b 3 [],.r 4 [],.b 5 [],.r 6 [],.b 7 [],.r 8 [],.r 9 [],.r 10 [],.b 11 [],.r 12 []] [] (A0:=[]) (Sub.refl _) (by kernel_rfl) ?_ ?_
 ·repeat constructor
 refine DT.r rfl rfl rfl (WO.fieldL rfl rfl rfl (WO.nil ⟨rfl,rfl⟩)) (DT.b rfl rfl rfl (WO.load rfl rfl (Cell.own (Pick.tail (Pick.tail (Pick.head))) rfl) rfl (WO.nil ⟨rfl,rfl⟩)) (DT.r rfl rfl rfl (WO.indexAddr (i:=0) rfl rfl rfl hA.sl (by omega) rfl (WO.nil ⟨rfl,rfl⟩)) ?_))
 refine' DT.b rfl rfl rfl ?hq ?_
 case hq =>
  refine' WO.load (v:=_) rfl rfl ?hc rfl ?_
  case hc=>(first | (refine hA.cell0 (i:=0) ?_ 0 ?_ <;> first | rfl | omega))
  exact WO.nil ⟨rfl,rfl⟩
 refine DT.r rfl rfl rfl (WO.fieldL rfl rfl rfl (WO.nil ⟨rfl,rfl⟩)) (DT.b rfl rfl rfl (WO.load rfl rfl (Cell.own (Pick.tail (Pick.tail (Pick.head))) rfl) rfl (WO.nil ⟨rfl,rfl⟩)) (DT.r rfl rfl rfl (WO.fieldL rfl rfl rfl (WO.nil ⟨rfl,rfl⟩)) (DT.b rfl rfl rfl (WO.load rfl rfl (Cell.own (Pick.tail (Pick.tail (Pick.head))) rfl) rfl (WO.nil ⟨rfl,rfl⟩)) (DT.r rfl rfl rfl (WO.len rfl rfl hA.sl rfl (WO.nil ⟨rfl,rfl⟩)) (DT.r rfl rfl rfl (WO.ar rfl rfl rfl (by unfold in64;omega) rfl (WO.nil ⟨rfl,rfl⟩)) ?_)))))
 refine' DT.r rfl rfl rfl ?hq ?_
 case hq =>
  refine' WO.indexAddrZ (n:=_) rfl rfl rfl ?hs ?h00 ?h1 rfl ?_
  case hs=>exact hA.sl
  case h00=>omega
  case h1=>(omega)
  exact WO.nil ⟨rfl,rfl⟩
 refine' DT.b rfl rfl rfl ?hq ?_
 case hq =>
  refine' WO.load (v:=_) rfl rfl ?hc rfl ?_
  case hc=>(first | (refine hA.cell0 (i:=((A.length:Int)-1).toNat) ?_ 0 ?_ <;> first | rfl | omega))
  exact WO.nil ⟨rfl,rfl⟩
 refine DT.r rfl rfl rfl (WO.p rfl rfl (WO.nil ⟨rfl,rfl⟩)) (DT.nil [_,_,_] rfl (WO.p rfl rfl (WO.nil (W.seq ?_))))
 refine W.drawD 20 [.r 0 [],.r 1 [],.b 2 [],.r 3 [],.r 4 [],.r 5 [],.r 6 [],.r 7 [],.r 8 [],.r 9 [],.r 10 [],.r 11 [],.b 12 [],.r 13 [],.r 14 [],.r 15 [],.r 16 [],.r 17 [],.r 18 [],.r 19 []] [] (A0:=[_]) (H0:=[_,_]) (.cons .head (.cons .head (.cons .head .nil))) (by kernel_rfl) ?_ ?_
 ·repeat constructor
 refine DT.r rfl rfl rfl (WO.p rfl rfl (WO.nil ⟨rfl,rfl⟩)) (DT.r rfl rfl rfl (WO.indexArrL (o':=0) rfl rfl rfl (by decide) rfl rfl (WO.nil ⟨rfl,rfl⟩)) (DT.b rfl rfl rfl (WO.load rfl rfl (Cell.own Pick.head rfl) rfl (WO.nil ⟨rfl,rfl⟩)) (DT.r rfl rfl rfl (WO.conv64 rfl rfl rfl (by unfold in64;omega) rfl (WO.nil ⟨rfl,rfl⟩)) (DT.r rfl rfl rfl (WO.p rfl rfl (WO.nil ⟨rfl,rfl⟩)) (DT.r rfl rfl rfl (WO.p rfl rfl (WO.nil ⟨rfl,rfl⟩)) (DT.r rfl rfl rfl (WO.ar rfl rfl rfl (by unfold in64;omega) rfl (WO.nil ⟨rfl,rfl⟩)) (DT.r rfl rfl rfl (WO.ar rfl rfl rfl (by unfold in64;omega) rfl (WO.nil ⟨rfl,rfl⟩)) (DT.r rfl rfl rfl (WO.rem rfl rfl (by omega) rfl (WO.nil ⟨rfl,rfl⟩)) ?_))))))))
 refine DT.r rfl rfl rfl (WO.ar rfl rfl rfl (by unfold in64;omega) rfl (WO.nil ⟨rfl,rfl⟩)) (DT.r rfl rfl rfl (WO.p rfl rfl (WO.nil ⟨rfl,rfl⟩)) (DT.r rfl rfl rfl (WO.indexArrL (o':=1) rfl rfl rfl (by decide) rfl rfl (WO.nil ⟨rfl,rfl⟩)) (DT.b rfl rfl rfl (WO.load rfl rfl (Cell.own Pick.head rfl) rfl (WO.nil ⟨rfl,rfl⟩)) (DT.r rfl rfl rfl (WO.conv64 rfl rfl rfl (by unfold in64;omega) rfl (WO.nil ⟨rfl,rfl⟩)) (DT.r rfl rfl rfl (WO.p rfl rfl (WO.nil ⟨rfl,rfl⟩)) (DT.r rfl rfl rfl (WO.p rfl rfl (WO.nil ⟨rfl,rfl⟩)) (DT.r rfl rfl rfl (WO.ar rfl rfl rfl (by unfold in64;omega) rfl (WO.nil ⟨rfl,rfl⟩)) ?_)))))))
 refine DT.r rfl rfl rfl (WO.ar rfl rfl rfl (by unfold in64;omega) rfl (WO.nil ⟨rfl,rfl⟩)) (DT.r rfl rfl rfl (WO.rem rfl rfl (by omega) rfl (WO.nil ⟨rfl,rfl⟩)) (DT.r rfl rfl rfl (WO.ar rfl rfl rfl (by unfold in64;omega) rfl (WO.nil ⟨rfl,rfl⟩)) (DT.nil [_,_,_] rfl (WO.build rfl rfl rfl rfl rfl (WO.storeA rfl rfl rfl rfl Pick.head rfl rfl (WO.nil (W.ret ?_)))))))
 (rw [e1,e2];exact fin.ret (Res.one rfl (RV.cell rfl rfl rfl (Cells.own (by repeat exact .head)))) rfl)
end Go.Proofs.YtfchgmiiicidcaaGreat
namespace Go.Proofs.YtfchgmiiicidcaaGreat
open Go Go.TH
attribute [local irreducible] W WO pt
set_option maxRecDepth 10000
set_option maxHeartbeats 4000000
def rgX (x:Int × Int):Prop:=0≤x.1∧x.1≤x.2∧x.2≤100000
def flR (r:List (Int × Int)) (n:Nat):Prop:=∀ k,k<n→0<k→(r.getD k (0,0)).1≤(r.getD (k-1) (0,0)).1∧(r.getD k (0,0)).2≤(r.getD (k-1) (0,0)).2
theorem flR.next {r:List (Int × Int)} {n:Nat} (h:flR r n) (g:(r.getD n (0,0)).1≤(r.getD ((n:Int)-1).toNat (0,0)).1∧(r.getD n (0,0)).2≤(r.getD ((n:Int)-1).toNat (0,0)).2):flR r (n+1):=fun k hk h0=>by
 rcases Nat.lt_or_ge k n with q | q
 ·exact h k q h0
 ·obtain rfl:k=n:=by omega
  rw [show k-1=((k:Int)-1).toNat by omega];exact g
theorem ref_CheckChart (w:World) (vp va o:Value) (rv:List Value) (P A:List Int) (R:Ch.Rws) (hP:RdF encI 1 w.heap.size w vp P) (hA:RdF encI 1 w.heap.size w va A) (hR:RdR encP 2 w.heap.size w o rv R):RetE Tryz.prog 31 [.agg #[vp,va,o]].toArray w (fun r=>∃ e:Int,r=.int .i64 e∧(e=0→Ch.OkC P A R)):=by
 refine RetE.of mixed tyTab Tryz.func31 rfl rfl ?_
 replace hR:RdR encP 2 (fnCx mixed tyTab Tryz.f31.ntmps w).B (fnCx mixed tyTab Tryz.f31.ntmps w).w0 o rv R:=hR
 replace hP:RdF encI 1 (fnCx mixed tyTab Tryz.f31.ntmps w).B (fnCx mixed tyTab Tryz.f31.ntmps w).w0 vp P:=hP
 replace hA:RdF encI 1 (fnCx mixed tyTab Tryz.f31.ntmps w).B (fnCx mixed tyTab Tryz.f31.ntmps w).w0 va A:=hA
 have hle:=hR.sl.le
 have hrl:∀ j,j<R.length→(R.getD j []).length≤9223372036854775807:=fun j hj=>(hR.row j hj).sl.le
 refine W.sreg (WO.boxA rfl rfl (fun b1 hb1=>(WO.p rfl rfl (WO.nil (W.seq (W.sreg (WO.field0 rfl rfl rfl (WO.load rfl rfl (Cell.own Pick.head rfl) rfl ?_))))))))
 refine' WO.len (n:=_) rfl rfl ?hs rfl ?_
 case hs=>(first | exact hP.sl)
 refine WO.p rfl rfl (WO.p rfl rfl ?_)
 refine WO.guard_bl rfl rfl (fun c1=>?_) (fun c1=>?_)
 ·refine WO.no rfl rfl (WO.no rfl rfl (WO.no rfl rfl (WO.no rfl rfl (WO.p rfl rfl (WO.p rfl rfl (WO.no rfl rfl (WO.no rfl rfl (WO.no rfl rfl (WO.no rfl rfl (WO.p rfl rfl (WO.p rfl rfl (WO.no rfl rfl (WO.no rfl rfl (WO.no rfl rfl (WO.no rfl rfl (WO.p rfl rfl (WO.nil (W.cond_t rfl (W.sreg (WO.p rfl rfl (WO.nil (W.ret ?_))))))))))))))))))))))
  refine fin.ret (Res.one rfl (RV.tmp rfl)) ⟨_,rfl,fun he=>?_⟩
  (exfalso;omega)
 ·refine WO.go' rfl (WO.field0 rfl rfl rfl (WO.go' rfl (WO.load rfl rfl (Cell.own Pick.head rfl) rfl (WO.go' rfl ?_))))
  refine' WO.len (n:=_) rfl rfl ?hs rfl ?_
  case hs=>(first | exact hP.sl)
  refine WO.pg rfl rfl rfl (WO.p rfl rfl (WO.p rfl rfl ?_))
  refine WO.guard_bl rfl rfl (fun c2=>?_) (fun c2=>?_)
  ·refine WO.no rfl rfl (WO.no rfl rfl (WO.no rfl rfl (WO.no rfl rfl (WO.p rfl rfl (WO.p rfl rfl (WO.no rfl rfl (WO.no rfl rfl (WO.no rfl rfl (WO.no rfl rfl (WO.p rfl rfl (WO.nil (W.cond_t rfl (W.sreg (WO.p rfl rfl (WO.nil (W.ret ?_))))))))))))))))
   refine fin.ret (Res.one rfl (RV.tmp rfl)) ⟨_,rfl,fun he=>?_⟩
   (exfalso;omega)
  ·refine WO.go' rfl (WO.fieldL rfl rfl rfl (WO.go' rfl (WO.load rfl rfl (Cell.own Pick.head rfl) rfl (WO.go' rfl ?_))))
   refine' WO.len (n:=_) rfl rfl ?hs rfl ?_
   case hs=>(first | exact hA.sl)
   refine WO.pg rfl rfl rfl (WO.p rfl rfl (WO.p rfl rfl ?_))
   refine WO.guard_bl rfl rfl (fun c3=>?_) (fun c3=>?_)
   ·refine WO.no rfl rfl (WO.no rfl rfl (WO.no rfl rfl (WO.no rfl rfl (WO.p rfl rfl (WO.nil (W.cond_t rfl (W.sreg (WO.p rfl rfl (WO.nil (W.ret ?_))))))))))
    refine fin.ret (Res.one rfl (RV.tmp rfl)) ⟨_,rfl,fun he=>?_⟩
    (exfalso;omega)
   ·refine WO.go' rfl (WO.fieldL rfl rfl rfl (WO.go' rfl (WO.load rfl rfl (Cell.own Pick.head rfl) rfl (WO.go' rfl ?_))))
    refine' WO.len (n:=_) rfl rfl ?hs rfl ?_
    case hs=>(first | exact hA.sl)
    refine WO.pg rfl rfl rfl (WO.p rfl rfl (WO.nil ?_))
    refine W.cond_bl rfl (fun c4=>?_) (fun c4=>?_)
    ·refine W.sreg (WO.p rfl rfl (WO.nil (W.ret ?_)))
     refine fin.ret (Res.one rfl (RV.tmp rfl)) ⟨_,rfl,fun he=>?_⟩
     (exfalso;omega)
    ·refine W.skip (W.seq (W.sreg (WO.fieldL rfl rfl rfl (WO.load rfl rfl (Cell.own Pick.head rfl) rfl ?_))))
     refine' WO.len (n:=_) rfl rfl ?hs rfl ?_
     case hs=>(first | exact hR.sl)
     refine WO.field0 rfl rfl rfl (WO.load rfl rfl (Cell.own Pick.head rfl) rfl ?_)
     refine' WO.len (n:=_) rfl rfl ?hs rfl ?_
     case hs=>(first | exact hP.sl)
     refine WO.p rfl rfl (WO.nil ?_)
     refine W.cond_bl rfl (fun c5=>?_) (fun c5=>?_)
     ·refine W.sreg (WO.p rfl rfl (WO.nil (W.ret ?_)))
      refine fin.ret (Res.one rfl (RV.tmp rfl)) ⟨_,rfl,fun he=>?_⟩
      (exfalso;omega)
     ·refine W.skip (W.seq (W.sreg (WO.p rfl rfl (WO.nil (W.block ?_)))))
      refine W.loop (fun (i:Nat)=>i≤R.length∧∀ r∈R.take i,r.length=A.length)
       (fun (i:Nat)=>[(3,.int .i64 (i:Int)),(1,.pointer (some ⟨b1,0,none⟩))])
       (fun (i:Nat)=>[pt b1 (.cells #[vp,va,o] 25 (0,0))])
       (fun (i:Nat)=>R.length-i) 0
       (by exact ⟨by omega,by simp⟩) ⟨rfl,rfl,trivial⟩ (by repeat (first | exact Sub.nil | refine Sub.cons (by repeat exact .head) ?_)) ?_
      rintro i ⟨hi0,hl0⟩
      refine W.seq (W.sreg (WO.p rfl rfl (WO.fieldL rfl rfl rfl (WO.load rfl rfl (Cell.own Pick.head rfl) rfl ?_))))
      refine' WO.len (n:=_) rfl rfl ?hs rfl ?_
      case hs=>(first | exact hR.sl)
      refine WO.p rfl rfl (WO.nil ?_)
      refine W.cond_bl rfl (fun c6=>?_) (fun c6=>?_)
      ·refine W.skip (W.seq (W.block (W.seq ?_)))
       have hq0:=hrl i (by omega)
       refine W.drawD 9 [.r 0 [],.b 1 [],.r 2 [],.r 3 [],.b 4 [],.r 5 [],.r 6 [],.b 7 [],.r 8 []] [] (A0:=[]) (Sub.refl _) (by kernel_rfl) ?_ ?_
       ·repeat constructor
       refine DT.r rfl rfl rfl (WO.fieldL rfl rfl rfl (WO.nil ⟨rfl,rfl⟩)) (DT.b rfl rfl rfl (WO.load rfl rfl (Cell.own Pick.head rfl) rfl (WO.nil ⟨rfl,rfl⟩)) (DT.r rfl rfl rfl (WO.p rfl rfl (WO.nil ⟨rfl,rfl⟩)) ?_))
       refine' DT.r rfl rfl rfl ?hq ?_
       case hq =>
        refine' WO.indexAddr (n:=_) (i:=_) rfl rfl rfl ?hs ?h1 rfl ?_
        case hs=>(first | exact hR.sl)
        case h1=>(omega)
        exact WO.nil ⟨rfl,rfl⟩
       refine' DT.b rfl rfl rfl ?hq ?_
       case hq =>
        refine' WO.load (v:=_) rfl rfl ?hc rfl ?_
        case hc=>(first | first | (refine hR.cellV ?_;omega) | (refine (hR.row i ?_).cell0 (i:=k) ?_ (0,0) ?_ <;> first | rfl | omega) | (refine (hR.row i ?_).cell0 (i:=((k:Int)-1).toNat) ?_ (0,0) ?_ <;> first | rfl | omega) | (refine (hR.row i ?_).cellAt (i:=k) (j:=1) ?_ (0,0) ?_ <;> first | rfl | omega) | (refine (hR.row i ?_).cellAt (i:=((k:Int)-1).toNat) (j:=1) ?_ (0,0) ?_ <;> first | rfl | omega))
        exact WO.nil ⟨rfl,rfl⟩
       refine' DT.r rfl rfl rfl ?hq ?_
       case hq =>
        refine' WO.len (n:=_) rfl rfl ?hs rfl ?_
        case hs=>(first | (refine (hR.row i ?_).sl;omega))
        exact WO.nil ⟨rfl,rfl⟩
       refine DT.r rfl rfl rfl (WO.fieldL rfl rfl rfl (WO.nil ⟨rfl,rfl⟩)) (DT.b rfl rfl rfl (WO.load rfl rfl (Cell.own Pick.head rfl) rfl (WO.nil ⟨rfl,rfl⟩)) ?_)
       refine' DT.r rfl rfl rfl ?hq ?_
       case hq =>
        refine' WO.len (n:=_) rfl rfl ?hs rfl ?_
        case hs=>(first | exact hA.sl)
        exact WO.nil ⟨rfl,rfl⟩
       refine DT.nil [_] rfl (WO.p rfl rfl (WO.nil ?_))
       refine W.cond_bl rfl (fun c7=>?_) (fun c7=>?_)
       ·refine W.sreg (WO.p rfl rfl (WO.nil (W.ret ?_)))
        refine fin.ret (Res.one rfl (RV.tmp rfl)) ⟨_,rfl,fun he=>?_⟩
        (exfalso;omega)
       ·refine W.skip (W.region (WO.p rfl rfl (WO.ar rfl rfl rfl (by unfold in64;omega) rfl (WO.p rfl rfl (WO.nil ?_)))))
        refine' ⟨i+1,?hp,?hmu,⟨rfl,rfl,trivial⟩,?hS⟩
        case hS=>repeat (first | exact Sub.nil | refine Sub.cons (by repeat exact .head) ?_)
        case hp=>exact ⟨by omega,all_succ (by omega) [] hl0 (by omega)⟩
        case hmu=>omega
      ·refine W.exit (blk_same (W.seq ?_))
       obtain rfl:R.length=i:=by omega
       rw [List.take_length] at hl0
       refine W.sreg (WO.field0 rfl rfl rfl (WO.load rfl rfl (Cell.own Pick.head rfl) rfl (WO.callR rfl Tryz.call79 (fun L w hi=>ref_rising w vp P (hP.later hi)) rfl (WO.p rfl rfl (WO.p rfl rfl ?_)))))
       refine WO.guard_nbl rfl rfl (fun c8=>?_) (fun c8=>?_)
       ·refine WO.no rfl rfl (WO.no rfl rfl (WO.no rfl rfl (WO.no rfl rfl (WO.p rfl rfl (WO.nil (W.cond_t rfl (W.sreg (WO.p rfl rfl (WO.nil (W.ret ?_))))))))))
        refine fin.ret (Res.one rfl (RV.tmp rfl)) ⟨_,rfl,fun he=>?_⟩
        (exfalso;omega)
       ·refine WO.go' rfl (WO.fieldL rfl rfl rfl (WO.go' rfl (WO.load rfl rfl (Cell.own Pick.head rfl) rfl (WO.go' rfl (WO.callR rfl Tryz.call79 (fun L w hi=>ref_rising w va A (hA.later hi)) rfl (WO.pg rfl rfl rfl (WO.p rfl rfl (WO.nil ?_))))))))
        refine W.cond_nbl rfl (fun c9=>?_) (fun c9=>?_)
        ·refine W.sreg (WO.p rfl rfl (WO.nil (W.ret ?_)))
         refine fin.ret (Res.one rfl (RV.tmp rfl)) ⟨_,rfl,fun he=>?_⟩
         (exfalso;omega)
        ·refine W.skip (W.seq (W.sreg (WO.p rfl rfl (WO.nil (W.block ?_)))))
         refine W.loop (fun (i:Nat)=>i≤R.length∧∀ r∈R.take i,∀ x∈r,rgX x)
          (fun (i:Nat)=>[(4,.int .i64 (i:Int)),(1,.pointer (some ⟨b1,0,none⟩))])
          (fun (i:Nat)=>[pt b1 (.cells #[vp,va,o] 25 (0,0))])
          (fun (i:Nat)=>R.length-i) 0
          (by exact ⟨by omega,by simp⟩) ⟨rfl,rfl,trivial⟩ (by repeat (first | exact Sub.nil | refine Sub.cons (by repeat exact .head) ?_)) ?_
         rintro i ⟨hi1,hg0⟩
         refine W.seq (W.sreg (WO.p rfl rfl (WO.fieldL rfl rfl rfl (WO.load rfl rfl (Cell.own Pick.head rfl) rfl ?_))))
         refine' WO.len (n:=_) rfl rfl ?hs rfl ?_
         case hs=>(first | exact hR.sl)
         refine WO.p rfl rfl (WO.nil ?_)
         refine W.cond_bl rfl (fun c10=>?_) (fun c10=>?_)
         ·refine W.skip (W.seq (W.block (W.sreg (WO.p rfl rfl (WO.nil (W.block ?_))))))
          refine W.loop (fun (k:Nat)=>k≤(R.getD i []).length∧∀ x∈(R.getD i []).take k,rgX x)
           (fun (k:Nat)=>[(5,.int .i64 (k:Int)),(4,.int .i64 (i:Int)),(1,.pointer (some ⟨b1,0,none⟩))])
           (fun (k:Nat)=>[pt b1 (.cells #[vp,va,o] 25 (0,0))])
           (fun (k:Nat)=>(R.getD i []).length-k) 0
           (by exact ⟨by omega,by simp⟩) ⟨rfl,rfl,rfl,trivial⟩ (by repeat (first | exact Sub.nil | refine Sub.cons (by repeat exact .head) ?_)) ?_
          rintro k ⟨hk0,hk1⟩
          refine W.seq ?_
          have hq0:=hrl i (by omega)
          refine W.sreg (WO.p rfl rfl (WO.fieldL rfl rfl rfl (WO.load rfl rfl (Cell.own Pick.head rfl) rfl (WO.p rfl rfl ?_))))
          refine' WO.indexAddr (n:=_) (i:=_) rfl rfl rfl ?hs ?h1 rfl ?_
          case hs=>(first | exact hR.sl)
          case h1=>(omega)
          refine' WO.load (v:=_) rfl rfl ?hc rfl ?_
          case hc=>(first | first | (refine hR.cellV ?_;omega) | (refine (hR.row i ?_).cell0 (i:=k) ?_ (0,0) ?_ <;> first | rfl | omega) | (refine (hR.row i ?_).cell0 (i:=((k:Int)-1).toNat) ?_ (0,0) ?_ <;> first | rfl | omega) | (refine (hR.row i ?_).cellAt (i:=k) (j:=1) ?_ (0,0) ?_ <;> first | rfl | omega) | (refine (hR.row i ?_).cellAt (i:=((k:Int)-1).toNat) (j:=1) ?_ (0,0) ?_ <;> first | rfl | omega))
          refine' WO.len (n:=_) rfl rfl ?hs rfl ?_
          case hs=>(first | (refine (hR.row i ?_).sl;omega))
          refine WO.p rfl rfl (WO.nil ?_)
          refine W.cond_bl rfl (fun c11=>?_) (fun c11=>?_)
          ·refine W.skip (W.seq (W.block (W.sreg (WO.fieldL rfl rfl rfl (WO.load rfl rfl (Cell.own Pick.head rfl) rfl (WO.p rfl rfl ?_))))))
           refine' WO.indexAddr (n:=_) (i:=_) rfl rfl rfl ?hs ?h1 rfl ?_
           case hs=>(first | exact hR.sl)
           case h1=>(omega)
           refine' WO.load (v:=_) rfl rfl ?hc rfl ?_
           case hc=>(first | first | (refine hR.cellV ?_;omega) | (refine (hR.row i ?_).cell0 (i:=k) ?_ (0,0) ?_ <;> first | rfl | omega) | (refine (hR.row i ?_).cell0 (i:=((k:Int)-1).toNat) ?_ (0,0) ?_ <;> first | rfl | omega) | (refine (hR.row i ?_).cellAt (i:=k) (j:=1) ?_ (0,0) ?_ <;> first | rfl | omega) | (refine (hR.row i ?_).cellAt (i:=((k:Int)-1).toNat) (j:=1) ?_ (0,0) ?_ <;> first | rfl | omega))
           refine WO.p rfl rfl ?_
           refine' WO.indexAddr (n:=_) (i:=_) rfl rfl rfl ?hs ?h1 rfl ?_
           case hs=>(first | (refine (hR.row i ?_).sl;omega))
           case h1=>(omega)
           refine' WO.loadA (vs:=_) rfl rfl ?hc ?hl rfl ?_
           case hc=>((refine (hR.row i ?_).cells ?_ (0,0) <;> omega))
           case hl=>rfl
           refine WO.alloc rfl rfl rfl (fun b2 hb2=>(WO.storeA rfl rfl rfl rfl Pick.head rfl rfl (WO.nil (W.sreg (WO.field0 rfl rfl rfl (WO.load rfl rfl (Cell.own Pick.head rfl) rfl (WO.p rfl rfl (WO.p rfl rfl ?_))))))))
           refine WO.guard_bl rfl rfl (fun c12=>?_) (fun c12=>?_)
           ·refine WO.no rfl rfl (WO.no rfl rfl (WO.no rfl rfl (WO.no rfl rfl (WO.no rfl rfl (WO.p rfl rfl (WO.p rfl rfl (WO.no rfl rfl (WO.no rfl rfl (WO.no rfl rfl (WO.p rfl rfl (WO.nil (W.cond_t rfl (W.sreg (WO.p rfl rfl (WO.nil (W.ret ?_))))))))))))))))
            refine fin.ret (Res.one rfl (RV.tmp rfl)) ⟨_,rfl,fun he=>?_⟩
            (exfalso;omega)
           ·refine WO.go' rfl (WO.field0 rfl rfl rfl (WO.go' rfl (WO.load rfl rfl (Cell.own Pick.head rfl) rfl (WO.go' rfl (WO.fieldL rfl rfl rfl (WO.go' rfl (WO.load rfl rfl (Cell.own Pick.head rfl) rfl (WO.pg rfl rfl rfl (WO.p rfl rfl (WO.p rfl rfl ?_))))))))))
            refine WO.guard_bl rfl rfl (fun c13=>?_) (fun c13=>?_)
            ·refine WO.no rfl rfl (WO.no rfl rfl (WO.no rfl rfl (WO.p rfl rfl (WO.nil (W.cond_t rfl (W.sreg (WO.p rfl rfl (WO.nil (W.ret ?_)))))))))
             refine fin.ret (Res.one rfl (RV.tmp rfl)) ⟨_,rfl,fun he=>?_⟩
             (exfalso;omega)
            ·refine WO.go' rfl (WO.fieldL rfl rfl rfl (WO.go' rfl (WO.load rfl rfl (Cell.own Pick.head rfl) rfl (WO.pg rfl rfl rfl (WO.p rfl rfl (WO.nil ?_))))))
             refine W.cond_bl rfl (fun c14=>?_) (fun c14=>?_)
             ·refine W.sreg (WO.p rfl rfl (WO.nil (W.ret ?_)))
              refine fin.ret (Res.one rfl (RV.tmp rfl)) ⟨_,rfl,fun he=>?_⟩
              (exfalso;omega)
             ·refine W.skip (W.region (WO.p rfl rfl (WO.ar rfl rfl rfl (by unfold in64;omega) rfl (WO.p rfl rfl (WO.nil ?_)))))
              refine' ⟨k+1,?hp,?hmu,⟨rfl,rfl,rfl,trivial⟩,?hS⟩
              case hS=>repeat (first | exact Sub.nil | refine Sub.cons (by repeat first | exact .head | apply Pick.tail) ?_)
              case hp=>exact ⟨by omega,all_succ (by omega) (0,0) hk1 (by unfold rgX;omega)⟩
              case hmu=>omega
          ·refine W.exit (blk_same (W.region (WO.p rfl rfl (WO.ar rfl rfl rfl (by unfold in64;omega) rfl (WO.p rfl rfl (WO.nil ?_))))))
           refine' ⟨i+1,?hp,?hmu,⟨rfl,rfl,trivial⟩,?hS⟩
           case hS=>repeat (first | exact Sub.nil | refine Sub.cons (by repeat exact .head) ?_)
           case hp=>exact ⟨by omega,all_succ (by omega) [] hg0 (all_len (by omega) hk1)⟩
           case hmu=>omega
         ·refine W.exit (blk_same (W.seq ?_))
          obtain rfl:R.length=i:=by omega
          rw [List.take_length] at hg0
          refine W.sreg (WO.p rfl rfl (WO.nil (W.block ?_)))
          refine W.loop (fun (i:Nat)=>i≤R.length∧∀ r∈R.take i,flR r r.length)
           (fun (i:Nat)=>[(7,.int .i64 (i:Int)),(1,.pointer (some ⟨b1,0,none⟩))])
           (fun (i:Nat)=>[pt b1 (.cells #[vp,va,o] 25 (0,0))])
           (fun (i:Nat)=>R.length-i) 0
           (by exact ⟨by omega,by simp⟩) ⟨rfl,rfl,trivial⟩ (by repeat (first | exact Sub.nil | refine Sub.cons (by repeat exact .head) ?_)) ?_
          rintro i ⟨hi2,hf0⟩
          refine W.seq (W.sreg (WO.p rfl rfl (WO.fieldL rfl rfl rfl (WO.load rfl rfl (Cell.own Pick.head rfl) rfl ?_))))
          refine' WO.len (n:=_) rfl rfl ?hs rfl ?_
          case hs=>(first | exact hR.sl)
          refine WO.p rfl rfl (WO.nil ?_)
          refine W.cond_bl rfl (fun c15=>?_) (fun c15=>?_)
          ·refine W.skip (W.seq (W.block (W.sreg (WO.p rfl rfl (WO.nil (W.block ?_))))))
           refine W.loop (fun (k:Nat)=>(1≤k∧k≤(R.getD i []).length+1)∧flR (R.getD i []) k)
            (fun (k:Nat)=>[(8,.int .i64 (k:Int)),(7,.int .i64 (i:Int)),(1,.pointer (some ⟨b1,0,none⟩))])
            (fun (k:Nat)=>[pt b1 (.cells #[vp,va,o] 25 (0,0))])
            (fun (k:Nat)=>(R.getD i []).length+1-k) 1
            (by exact ⟨by omega,fun m h1 h2=>by omega⟩) ⟨rfl,rfl,rfl,trivial⟩ (by repeat (first | exact Sub.nil | refine Sub.cons (by repeat exact .head) ?_)) ?_
           rintro k ⟨hk2,hk3⟩
           refine W.seq ?_
           have hq0:=hrl i (by omega)
           refine W.sreg (WO.p rfl rfl (WO.fieldL rfl rfl rfl (WO.load rfl rfl (Cell.own Pick.head rfl) rfl (WO.p rfl rfl ?_))))
           refine' WO.indexAddr (n:=_) (i:=_) rfl rfl rfl ?hs ?h1 rfl ?_
           case hs=>(first | exact hR.sl)
           case h1=>(omega)
           refine' WO.load (v:=_) rfl rfl ?hc rfl ?_
           case hc=>(first | first | (refine hR.cellV ?_;omega) | (refine (hR.row i ?_).cell0 (i:=k) ?_ (0,0) ?_ <;> first | rfl | omega) | (refine (hR.row i ?_).cell0 (i:=((k:Int)-1).toNat) ?_ (0,0) ?_ <;> first | rfl | omega) | (refine (hR.row i ?_).cellAt (i:=k) (j:=1) ?_ (0,0) ?_ <;> first | rfl | omega) | (refine (hR.row i ?_).cellAt (i:=((k:Int)-1).toNat) (j:=1) ?_ (0,0) ?_ <;> first | rfl | omega))
           refine' WO.len (n:=_) rfl rfl ?hs rfl ?_
           case hs=>(first | (refine (hR.row i ?_).sl;omega))
           refine WO.p rfl rfl (WO.nil ?_)
           refine W.cond_bl rfl (fun c16=>?_) (fun c16=>?_)
           ·refine W.skip (W.seq (W.block (W.seq ?_)))
            refine W.drawD 40 [.r 0 [],.b 1 [],.r 2 [],.r 3 [],.b 4 [],.r 5 [],.r 6 [],.r 7 [],.b 8 [],.r 9 [],.b 10 [],.r 11 [],.r 12 [],.b 13 [],.r 14 [],.r 15 [],.r 16 [],.r 17 [],.b 18 [],.r 19 [],.r 20 [],.r 21 [],.b 22 [],.r 23 [],.r 24 [],.b 25 [],.r 26 [],.r 27 [],.r 28 [],.b 29 [],.r 30 [],.b 31 [],.r 32 [],.r 33 [],.b 34 [],.r 35 [],.r 36 [],.r 37 [],.r 38 [],.b 39 []] [] (A0:=[]) (Sub.refl _) (by kernel_rfl) ?_ ?_
            ·repeat constructor
            refine DT.r rfl rfl rfl (WO.fieldL rfl rfl rfl (WO.nil ⟨rfl,rfl⟩)) (DT.b rfl rfl rfl (WO.load rfl rfl (Cell.own Pick.head rfl) rfl (WO.nil ⟨rfl,rfl⟩)) (DT.r rfl rfl rfl (WO.p rfl rfl (WO.nil ⟨rfl,rfl⟩)) ?_))
            refine' DT.r rfl rfl rfl ?hq ?_
            case hq =>
             refine' WO.indexAddr (n:=_) (i:=_) rfl rfl rfl ?hs ?h1 rfl ?_
             case hs=>(first | exact hR.sl)
             case h1=>(omega)
             exact WO.nil ⟨rfl,rfl⟩
            refine' DT.b rfl rfl rfl ?hq ?_
            case hq =>
             refine' WO.load (v:=_) rfl rfl ?hc rfl ?_
             case hc=>(first | first | (refine hR.cellV ?_;omega) | (refine (hR.row i ?_).cell0 (i:=k) ?_ (0,0) ?_ <;> first | rfl | omega) | (refine (hR.row i ?_).cell0 (i:=((k:Int)-1).toNat) ?_ (0,0) ?_ <;> first | rfl | omega) | (refine (hR.row i ?_).cellAt (i:=k) (j:=1) ?_ (0,0) ?_ <;> first | rfl | omega) | (refine (hR.row i ?_).cellAt (i:=((k:Int)-1).toNat) (j:=1) ?_ (0,0) ?_ <;> first | rfl | omega))
             exact WO.nil ⟨rfl,rfl⟩
            refine DT.r rfl rfl rfl (WO.p rfl rfl (WO.nil ⟨rfl,rfl⟩)) ?_
            refine' DT.r rfl rfl rfl ?hq ?_
            case hq =>
             refine' WO.indexAddr (n:=_) (i:=_) rfl rfl rfl ?hs ?h1 rfl ?_
             case hs=>(first | (refine (hR.row i ?_).sl;omega))
             case h1=>(omega)
             exact WO.nil ⟨rfl,rfl⟩
            refine DT.r rfl rfl rfl (WO.field0 rfl rfl rfl (WO.nil ⟨rfl,rfl⟩)) ?_
            refine' DT.b rfl rfl rfl ?hq ?_
            case hq =>
             refine' WO.load (v:=_) rfl rfl ?hc rfl ?_
             case hc=>(first | first | (refine hR.cellV ?_;omega) | (refine (hR.row i ?_).cell0 (i:=k) ?_ (0,0) ?_ <;> first | rfl | omega) | (refine (hR.row i ?_).cell0 (i:=((k:Int)-1).toNat) ?_ (0,0) ?_ <;> first | rfl | omega) | (refine (hR.row i ?_).cellAt (i:=k) (j:=1) ?_ (0,0) ?_ <;> first | rfl | omega) | (refine (hR.row i ?_).cellAt (i:=((k:Int)-1).toNat) (j:=1) ?_ (0,0) ?_ <;> first | rfl | omega))
             exact WO.nil ⟨rfl,rfl⟩
            refine DT.r rfl rfl rfl (WO.fieldL rfl rfl rfl (WO.nil ⟨rfl,rfl⟩)) (DT.b rfl rfl rfl (WO.load rfl rfl (Cell.own Pick.head rfl) rfl (WO.nil ⟨rfl,rfl⟩)) (DT.r rfl rfl rfl (WO.p rfl rfl (WO.nil ⟨rfl,rfl⟩)) ?_))
            refine' DT.r rfl rfl rfl ?hq ?_
            case hq =>
             refine' WO.indexAddr (n:=_) (i:=_) rfl rfl rfl ?hs ?h1 rfl ?_
             case hs=>(first | exact hR.sl)
             case h1=>(omega)
             exact WO.nil ⟨rfl,rfl⟩
            refine' DT.b rfl rfl rfl ?hq ?_
            case hq =>
             refine' WO.load (v:=_) rfl rfl ?hc rfl ?_
             case hc=>(first | first | (refine hR.cellV ?_;omega) | (refine (hR.row i ?_).cell0 (i:=k) ?_ (0,0) ?_ <;> first | rfl | omega) | (refine (hR.row i ?_).cell0 (i:=((k:Int)-1).toNat) ?_ (0,0) ?_ <;> first | rfl | omega) | (refine (hR.row i ?_).cellAt (i:=k) (j:=1) ?_ (0,0) ?_ <;> first | rfl | omega) | (refine (hR.row i ?_).cellAt (i:=((k:Int)-1).toNat) (j:=1) ?_ (0,0) ?_ <;> first | rfl | omega))
             exact WO.nil ⟨rfl,rfl⟩
            refine DT.r rfl rfl rfl (WO.p rfl rfl (WO.nil ⟨rfl,rfl⟩)) (DT.r rfl rfl rfl (WO.ar rfl rfl rfl (by unfold in64;omega) rfl (WO.nil ⟨rfl,rfl⟩)) ?_)
            refine' DT.r rfl rfl rfl ?hq ?_
            case hq =>
             refine' WO.indexAddrZ (n:=_) rfl rfl rfl ?hs ?h00 ?h1 rfl ?_
             case hs=>(first | (refine (hR.row i ?_).sl;omega))
             case h00=>omega
             case h1=>(omega)
             exact WO.nil ⟨rfl,rfl⟩
            refine DT.r rfl rfl rfl (WO.field0 rfl rfl rfl (WO.nil ⟨rfl,rfl⟩)) ?_
            refine' DT.b rfl rfl rfl ?hq ?_
            case hq =>
             refine' WO.load (v:=_) rfl rfl ?hc rfl ?_
             case hc=>(first | first | (refine hR.cellV ?_;omega) | (refine (hR.row i ?_).cell0 (i:=k) ?_ (0,0) ?_ <;> first | rfl | omega) | (refine (hR.row i ?_).cell0 (i:=((k:Int)-1).toNat) ?_ (0,0) ?_ <;> first | rfl | omega) | (refine (hR.row i ?_).cellAt (i:=k) (j:=1) ?_ (0,0) ?_ <;> first | rfl | omega) | (refine (hR.row i ?_).cellAt (i:=((k:Int)-1).toNat) (j:=1) ?_ (0,0) ?_ <;> first | rfl | omega))
             exact WO.nil ⟨rfl,rfl⟩
            refine DT.r rfl rfl rfl (WO.p rfl rfl (WO.nil ⟨rfl,rfl⟩)) ?_
            refine DT.rB rfl rfl rfl (WO.p rfl rfl (WO.nil ⟨rfl,rfl⟩)) (fun c17=>?_) (fun c17=>?_)
            ·refine DT.r rfl rfl rfl (WO.no rfl rfl (WO.nil ⟨rfl,rfl⟩)) (DT.b rfl rfl rfl (WO.no rfl rfl (WO.nil ⟨rfl,rfl⟩)) (DT.r rfl rfl rfl (WO.no rfl rfl (WO.nil ⟨rfl,rfl⟩)) (DT.r rfl rfl rfl (WO.no rfl rfl (WO.nil ⟨rfl,rfl⟩)) (DT.b rfl rfl rfl (WO.no rfl rfl (WO.nil ⟨rfl,rfl⟩)) (DT.r rfl rfl rfl (WO.no rfl rfl (WO.nil ⟨rfl,rfl⟩)) (DT.r rfl rfl rfl (WO.no rfl rfl (WO.nil ⟨rfl,rfl⟩)) (DT.r rfl rfl rfl (WO.no rfl rfl (WO.nil ⟨rfl,rfl⟩)) (DT.b rfl rfl rfl (WO.no rfl rfl (WO.nil ⟨rfl,rfl⟩)) (DT.r rfl rfl rfl (WO.no rfl rfl (WO.nil ⟨rfl,rfl⟩)) (DT.b rfl rfl rfl (WO.no rfl rfl (WO.nil ⟨rfl,rfl⟩)) ?_))))))))))
             refine DT.r rfl rfl rfl (WO.no rfl rfl (WO.nil ⟨rfl,rfl⟩)) (DT.r rfl rfl rfl (WO.no rfl rfl (WO.nil ⟨rfl,rfl⟩)) (DT.b rfl rfl rfl (WO.no rfl rfl (WO.nil ⟨rfl,rfl⟩)) (DT.r rfl rfl rfl (WO.no rfl rfl (WO.nil ⟨rfl,rfl⟩)) (DT.r rfl rfl rfl (WO.no rfl rfl (WO.nil ⟨rfl,rfl⟩)) (DT.r rfl rfl rfl (WO.no rfl rfl (WO.nil ⟨rfl,rfl⟩)) (DT.r rfl rfl rfl (WO.no rfl rfl (WO.nil ⟨rfl,rfl⟩)) (DT.b rfl rfl rfl (WO.no rfl rfl (WO.nil ⟨rfl,rfl⟩)) (DT.nil [_] rfl (WO.no rfl rfl (WO.p rfl rfl (WO.nil (W.cond_t rfl (W.sreg (WO.p rfl rfl (WO.nil (W.ret ?_))))))))))))))))
             refine fin.ret (Res.one rfl (RV.tmp rfl)) ⟨_,rfl,fun he=>?_⟩
             (exfalso;omega)
            ·refine DT.r rfl rfl rfl (WO.go' rfl (WO.fieldL rfl rfl rfl (WO.nil ⟨rfl,rfl⟩))) (DT.b rfl rfl rfl (WO.go' rfl (WO.load rfl rfl (Cell.own Pick.head rfl) rfl (WO.nil ⟨rfl,rfl⟩))) (DT.r rfl rfl rfl (WO.pg rfl rfl rfl (WO.nil ⟨rfl,rfl⟩)) ?_))
             refine' DT.r rfl rfl rfl ?hq ?_
             case hq =>
              refine WO.go' rfl ?_
              refine' WO.indexAddr (n:=_) (i:=_) rfl rfl rfl ?hs ?h1 rfl ?_
              case hs=>(first | exact hR.sl)
              case h1=>(omega)
              exact WO.nil ⟨rfl,rfl⟩
             refine' DT.b rfl rfl rfl ?hq ?_
             case hq =>
              refine WO.go' rfl ?_
              refine' WO.load (v:=_) rfl rfl ?hc rfl ?_
              case hc=>(first | first | (refine hR.cellV ?_;omega) | (refine (hR.row i ?_).cell0 (i:=k) ?_ (0,0) ?_ <;> first | rfl | omega) | (refine (hR.row i ?_).cell0 (i:=((k:Int)-1).toNat) ?_ (0,0) ?_ <;> first | rfl | omega) | (refine (hR.row i ?_).cellAt (i:=k) (j:=1) ?_ (0,0) ?_ <;> first | rfl | omega) | (refine (hR.row i ?_).cellAt (i:=((k:Int)-1).toNat) (j:=1) ?_ (0,0) ?_ <;> first | rfl | omega))
              exact WO.nil ⟨rfl,rfl⟩
             refine DT.r rfl rfl rfl (WO.pg rfl rfl rfl (WO.nil ⟨rfl,rfl⟩)) ?_
             refine' DT.r rfl rfl rfl ?hq ?_
             case hq =>
              refine WO.go' rfl ?_
              refine' WO.indexAddr (n:=_) (i:=_) rfl rfl rfl ?hs ?h1 rfl ?_
              case hs=>(first | (refine (hR.row i ?_).sl;omega))
              case h1=>(omega)
              exact WO.nil ⟨rfl,rfl⟩
             refine DT.r rfl rfl rfl (WO.go' rfl (WO.field rfl rfl rfl (WO.nil ⟨rfl,rfl⟩))) ?_
             refine' DT.b rfl rfl rfl ?hq ?_
             case hq =>
              refine WO.go' rfl ?_
              refine' WO.load (v:=_) rfl rfl ?hc rfl ?_
              case hc=>(first | first | (refine hR.cellV ?_;omega) | (refine (hR.row i ?_).cell0 (i:=k) ?_ (0,0) ?_ <;> first | rfl | omega) | (refine (hR.row i ?_).cell0 (i:=((k:Int)-1).toNat) ?_ (0,0) ?_ <;> first | rfl | omega) | (refine (hR.row i ?_).cellAt (i:=k) (j:=1) ?_ (0,0) ?_ <;> first | rfl | omega) | (refine (hR.row i ?_).cellAt (i:=((k:Int)-1).toNat) (j:=1) ?_ (0,0) ?_ <;> first | rfl | omega))
              exact WO.nil ⟨rfl,rfl⟩
             refine DT.r rfl rfl rfl (WO.go' rfl (WO.fieldL rfl rfl rfl (WO.nil ⟨rfl,rfl⟩))) (DT.b rfl rfl rfl (WO.go' rfl (WO.load rfl rfl (Cell.own Pick.head rfl) rfl (WO.nil ⟨rfl,rfl⟩))) (DT.r rfl rfl rfl (WO.pg rfl rfl rfl (WO.nil ⟨rfl,rfl⟩)) ?_))
             refine' DT.r rfl rfl rfl ?hq ?_
             case hq =>
              refine WO.go' rfl ?_
              refine' WO.indexAddr (n:=_) (i:=_) rfl rfl rfl ?hs ?h1 rfl ?_
              case hs=>(first | exact hR.sl)
              case h1=>(omega)
              exact WO.nil ⟨rfl,rfl⟩
             refine' DT.b rfl rfl rfl ?hq ?_
             case hq =>
              refine WO.go' rfl ?_
              refine' WO.load (v:=_) rfl rfl ?hc rfl ?_
              case hc=>(first | first | (refine hR.cellV ?_;omega) | (refine (hR.row i ?_).cell0 (i:=k) ?_ (0,0) ?_ <;> first | rfl | omega) | (refine (hR.row i ?_).cell0 (i:=((k:Int)-1).toNat) ?_ (0,0) ?_ <;> first | rfl | omega) | (refine (hR.row i ?_).cellAt (i:=k) (j:=1) ?_ (0,0) ?_ <;> first | rfl | omega) | (refine (hR.row i ?_).cellAt (i:=((k:Int)-1).toNat) (j:=1) ?_ (0,0) ?_ <;> first | rfl | omega))
              exact WO.nil ⟨rfl,rfl⟩
             refine DT.r rfl rfl rfl (WO.pg rfl rfl rfl (WO.nil ⟨rfl,rfl⟩)) (DT.r rfl rfl rfl (WO.go' rfl (WO.ar rfl rfl rfl (by unfold in64;omega) rfl (WO.nil ⟨rfl,rfl⟩))) ?_)
             refine' DT.r rfl rfl rfl ?hq ?_
             case hq =>
              refine WO.go' rfl ?_
              refine' WO.indexAddrZ (n:=_) rfl rfl rfl ?hs ?h00 ?h1 rfl ?_
              case hs=>(first | (refine (hR.row i ?_).sl;omega))
              case h00=>omega
              case h1=>(omega)
              exact WO.nil ⟨rfl,rfl⟩
             refine DT.r rfl rfl rfl (WO.go' rfl (WO.field rfl rfl rfl (WO.nil ⟨rfl,rfl⟩))) ?_
             refine' DT.b rfl rfl rfl ?hq ?_
             case hq =>
              refine WO.go' rfl ?_
              refine' WO.load (v:=_) rfl rfl ?hc rfl ?_
              case hc=>(first | first | (refine hR.cellV ?_;omega) | (refine (hR.row i ?_).cell0 (i:=k) ?_ (0,0) ?_ <;> first | rfl | omega) | (refine (hR.row i ?_).cell0 (i:=((k:Int)-1).toNat) ?_ (0,0) ?_ <;> first | rfl | omega) | (refine (hR.row i ?_).cellAt (i:=k) (j:=1) ?_ (0,0) ?_ <;> first | rfl | omega) | (refine (hR.row i ?_).cellAt (i:=((k:Int)-1).toNat) (j:=1) ?_ (0,0) ?_ <;> first | rfl | omega))
              exact WO.nil ⟨rfl,rfl⟩
             refine DT.nil [_] rfl (WO.pg rfl rfl rfl (WO.p rfl rfl (WO.nil ?_)))
             refine W.cond_bl rfl (fun c18=>?_) (fun c18=>?_)
             ·refine W.sreg (WO.p rfl rfl (WO.nil (W.ret ?_)))
              refine fin.ret (Res.one rfl (RV.tmp rfl)) ⟨_,rfl,fun he=>?_⟩
              (exfalso;omega)
             ·refine W.skip (W.region (WO.p rfl rfl (WO.ar rfl rfl rfl (by unfold in64;omega) rfl (WO.p rfl rfl (WO.nil ?_)))))
              refine' ⟨k+1,?hp,?hmu,⟨rfl,rfl,rfl,trivial⟩,?hS⟩
              case hS=>repeat (first | exact Sub.nil | refine Sub.cons (by repeat exact .head) ?_)
              case hp=>exact ⟨by omega,hk3.next (by omega)⟩
              case hmu=>omega
           ·refine W.exit (blk_same (W.region (WO.p rfl rfl (WO.ar rfl rfl rfl (by unfold in64;omega) rfl (WO.p rfl rfl (WO.nil ?_))))))
            refine' ⟨i+1,?hp,?hmu,⟨rfl,rfl,trivial⟩,?hS⟩
            case hS=>repeat (first | exact Sub.nil | refine Sub.cons (by repeat exact .head) ?_)
            case hp=>exact ⟨by omega,all_succ (by omega) [] hf0 (fun m hm h0=>hk3 m (by omega) h0)⟩
            case hmu=>omega
          ·refine W.exit (blk_same (W.sreg (WO.p rfl rfl (WO.nil (W.ret ?_)))))
           refine fin.ret (Res.one rfl (RV.tmp rfl)) ⟨_,rfl,fun he=>?_⟩
           (have hl9:R.length=i:=(by omega);subst hl9;rw [List.take_length] at hf0;exact ⟨by omega,by omega,by omega,hl0,by assumption,by assumption,hg0,hf0⟩)
end Go.Proofs.YtfchgmiiicidcaaGreat
namespace Go.Proofs.YtfchgmiiicidcaaGreat
open Go Go.TH
attribute [local irreducible] W WO pt
set_option maxRecDepth 10000
set_option maxHeartbeats 4000000
theorem c_chart08 (w:World) (vp va o:Value) (rv:List Value) (P A:List Int) (R:Ch.Rws) (hP:RdF encI 1 w.heap.size w vp P) (hA:RdF encI 1 w.heap.size w va A) (hR:RdR encP 2 w.heap.size w o rv R):RetE Tryz.prog 7 [.agg #[vp,va,o]].toArray w (fun r=>∃ b:Bool,r=.bool b∧(b=true→Ch.OkC P A R)):=by
 refine RetE.of mixed tyTab Tryz.func7 rfl rfl ?_
 replace hR:RdR encP 2 (fnCx mixed tyTab Tryz.f7.ntmps w).B (fnCx mixed tyTab Tryz.f7.ntmps w).w0 o rv R:=hR
 replace hP:RdF encI 1 (fnCx mixed tyTab Tryz.f7.ntmps w).B (fnCx mixed tyTab Tryz.f7.ntmps w).w0 vp P:=hP
 replace hA:RdF encI 1 (fnCx mixed tyTab Tryz.f7.ntmps w).B (fnCx mixed tyTab Tryz.f7.ntmps w).w0 va A:=hA
 have hle:=hR.sl.le
 refine W.sreg (WO.boxA rfl rfl (fun b1 hb1=>(WO.p rfl rfl (WO.nil (W.seq (W.sreg (WO.fieldL rfl rfl rfl (WO.load rfl rfl (Cell.own Pick.head rfl) rfl ?_))))))))
 refine' WO.len (n:=_) rfl rfl ?hs rfl ?_
 case hs=>(first | exact hR.sl)
 refine WO.p rfl rfl (WO.nil ?_)
 refine W.cond_bl rfl (fun c1=>?_) (fun c1=>?_)
 ·refine W.sreg (WO.p rfl rfl (WO.nil (W.ret ?_)))
  refine fin.ret (Res.one rfl (RV.tmp rfl)) ⟨_,rfl,fun h9=>?_⟩
  (exfalso;cases h9)
 ·refine W.skip (W.seq (W.sreg (WO.p rfl rfl (WO.nil (W.block ?_)))))
  refine W.loop (fun (i:Nat)=>i≤R.length)
   (fun (i:Nat)=>[(3,.int .i64 (i:Int)),(1,.pointer (some ⟨b1,0,none⟩))])
   (fun (i:Nat)=>[pt b1 (.cells #[vp,va,o] 25 (0,0))])
   (fun (i:Nat)=>R.length-i) 0
   (by omega) ⟨rfl,rfl,trivial⟩ (by repeat (first | exact Sub.nil | refine Sub.cons (by repeat exact .head) ?_)) ?_
  rintro i hi0
  refine W.seq (W.sreg (WO.p rfl rfl (WO.fieldL rfl rfl rfl (WO.load rfl rfl (Cell.own Pick.head rfl) rfl ?_))))
  refine' WO.len (n:=_) rfl rfl ?hs rfl ?_
  case hs=>(first | exact hR.sl)
  refine WO.p rfl rfl (WO.nil ?_)
  refine W.cond_bl rfl (fun c2=>?_) (fun c2=>?_)
  ·refine W.skip (W.seq (W.block (W.sreg (WO.fieldL rfl rfl rfl (WO.load rfl rfl (Cell.own Pick.head rfl) rfl (WO.p rfl rfl ?_))))))
   refine' WO.indexAddr (n:=_) (i:=_) rfl rfl rfl ?hs ?h1 rfl ?_
   case hs=>(first | exact hR.sl)
   case h1=>(omega)
   refine' WO.load (v:=_) rfl rfl ?hc rfl ?_
   case hc=>((refine hR.cellV ?_;omega))
   refine' WO.len (n:=_) rfl rfl ?hs rfl ?_
   case hs=>(first | (refine (hR.row i ?_).sl;omega))
   refine WO.p rfl rfl (WO.nil ?_)
   refine W.cond_bl rfl (fun c3=>?_) (fun c3=>?_)
   ·refine W.sreg (WO.p rfl rfl (WO.nil (W.ret ?_)))
    refine fin.ret (Res.one rfl (RV.tmp rfl)) ⟨_,rfl,fun h9=>?_⟩
    (exfalso;cases h9)
   ·refine W.skip (W.region (WO.p rfl rfl (WO.ar rfl rfl rfl (by unfold in64;omega) rfl (WO.p rfl rfl (WO.nil ?_)))))
    refine' ⟨i+1,?hp,?hmu,⟨rfl,rfl,trivial⟩,?hS⟩
    case hS=>repeat (first | exact Sub.nil | refine Sub.cons (by repeat exact .head) ?_)
    case hp=>omega
    case hmu=>omega
  ·refine W.exit (blk_same (W.sreg (WO.loadA rfl rfl (Cells.own Pick.head) rfl rfl (WO.callE rfl Tryz.call31 (fun L w hi=>ref_CheckChart w vp va o rv P A R (hP.later hi) (hA.later hi) (hR.later hi)) rfl ?_))))
   rintro _ ⟨e,rfl,he⟩
   refine WO.p rfl rfl (WO.p rfl rfl (WO.nil (W.ret ?_)))
   refine fin.ret (Res.one rfl (RV.tmp rfl)) ⟨_,rfl,fun h9=>?_⟩
   exact he (bl_t.1 h9)
end Go.Proofs.YtfchgmiiicidcaaGreat
namespace Go.TX
open Go Go.TH
noncomputable section
variable {ρ:Ren} {N:Nat} {env:Tr SV} {a:Act} {P:Program} {D:Nat→Prop} {st st':St} {w:World}

/-! ### Parts of values -/
def ptS (P:Program) (T:TypeId) (l:List SV) (o:Nat):Option SV:=match isAggB P T with
  | some true=>match szv P T with
    | some n=>subK l o n fun vs=>some (.agg vs)
    | none=>none
  | some false=>nth l o
  | none=>none
theorem ptS_ok {T:Nat} {l:List SV} {us:List Value} {o:Nat} {v:SV} (hl:RelL ρ l us) (h:ptS P T l o=some v):∃ u,(part T us.toArray o).run P w=.ok u w∧Rel ρ v u:=by
  unfold ptS at h
  split at h
  · rename_i hagg
    split at h
    · rename_i n hn
      obtain ⟨h1,h2⟩:=subK_some h
      simp only [Option.some.injEq] at h2
      subst h2
      refine ⟨.agg ((us.drop o).take n).toArray,?_,by rw [Rel];exact ⟨_,(hl.drop o).take n,rfl⟩⟩
      simp only [part,Sem.run_bind,run_isAgg hagg,Result.andThen_ok,if_true,TH.run_sizeOf hn]
      simp [List.extract_eq_take_drop]
    · cases h
  · rename_i hagg
    rw [nth_eq] at h
    obtain ⟨u,hu,hr⟩:=hl.at h
    refine ⟨u,?_,hr⟩
    simp only [part,Sem.run_bind,run_isAgg hagg,Result.andThen_ok]
    simp [hu]
  · cases h
def fdS (P:Program) (T f:Nat) (x:SV):Option SV:=match x with
  | .agg l=>match P.underlying T with
    | some (.struct fs)=>match fs[f]? with
      | some fd=>ptS P fd.type l fd.offset
      | none=>none
    | _=>none
  | _=>none
theorem fdS_ok {T f:Nat} {x v:SV} {u:Value} (hx:Rel ρ x u) (h:fdS P T f x=some v):∃ z,(Instr.field T u f).run P w=.ok z w∧Rel ρ v z:=by
  cases x <;> simp only [fdS] at h <;> try (cases h;done)
  rename_i l
  rw [Rel] at hx
  obtain ⟨us,hl,rfl⟩:=hx
  split at h
  · rename_i fs hu
    split at h
    · rename_i fd hf
      obtain ⟨z,h1,h2⟩:=ptS_ok (w:=w) hl h
      refine ⟨z,?_,h2⟩
      simp [Instr.field,run_underlying hu,hf,asAgg,h1]
    · cases h
  · cases h
def ixS (P:Program) (T:Nat) (x i:SV):Option SV:=match x with
  | .agg l=>match i with
    | .raw (.int _ (.ofNat i))=>match arT P T with
      | some (len,e,sz)=>bif Nat.blt i len then ptS P e l (i*sz) else none
      | none=>none
    | _=>none
  | .raw u=>match i with
    | .raw z=>match pv P (Instr.index T u z) with
      | some (.int k n)=>some (.raw (.int k n))
      | _=>none
    | _=>none
  | _=>none
theorem ixS_ok {T:Nat} {x i v:SV} {u z:Value} (hx:Rel ρ x u) (hi:Rel ρ i z) (h:ixS P T x i=some v):∃ q,(Instr.index T u z).run P w=.ok q w∧Rel ρ v q:=by
  unfold ixS at h
  split at h
  · rename_i l
    rw [Rel] at hx
    obtain ⟨us,hl,rfl⟩:=hx
    split at h
    · rename_i k i'
      rw [Rel] at hi
      subst hi
      split at h
      · rename_i len e sz har
        have hA:=arT_ok har
        cases h1:Nat.blt i' len with
        | false=>rw [h1] at h;cases h
        | true =>
          rw [h1,cond_true] at h
          have h1:=Nat.blt_eq.mp h1
          obtain ⟨q,h2,h3⟩:=ptS_ok (w:=w) hl h
          refine ⟨q,?_,h3⟩
          have g1:(i':Int)<(len:Int):=by omega
          simp [Instr.index,asIntOf,run_underlying hA.u,g1,h1,TH.run_sizeOf hA.size,h2]
      · cases h
    · cases h
  · rename_i u0
    rw [Rel] at hx
    subst hx
    split at h
    · rename_i z0
      rw [Rel] at hi
      subst hi
      split at h
      · rename_i k n hp
        simp only [Option.some.injEq] at h
        exact ⟨_,pv_run hp w,by rw [← h,Rel]⟩
      · cases h
    · cases h
  · cases h
def exS (x:SV) (i:Nat):Option SV:=match x with
  | .tup l=>nth l i
  | _=>none
theorem exS_ok {x v:SV} {i:Nat} {u:Value} (hx:Rel ρ x u) (h:exS x i=some v):∃ z,(Instr.extract u i).run P w=.ok z w∧Rel ρ v z:=by
  cases x <;> simp only [exS] at h <;> try (cases h;done)
  rename_i l
  rw [Rel] at hx
  obtain ⟨us,hl,rfl⟩:=hx
  rw [nth_eq] at h
  obtain ⟨z,hz,hr⟩:=hl.at h
  exact ⟨z,by simp [Instr.extract,hz],hr⟩

/-! ### Lengths -/
def lnS (P:Program) (T:Nat) (x:SV) (st:St):Option (SV × St):=match P.underlying T with
  | some (.slice _)=>match x with
    | .sl _ _ n _=>some (.raw (.int .i64 (.ofNat n)),st)
    | .sl0=>some (.raw (.int .i64 0),st)
    | .raw (.slice _ n _)=>some (.raw (.int .i64 (.ofNat n)),st)
    | _=>none
  | some (.map _ _)=>match x with
    | .raw (.map none)=>some (.raw (.int .i64 0),st)
    | .map b=>match st with
      | ⟨h,nx,bs,R,W⟩=>match h.get b with
        | some (.map es _)=>insK bs b R fun R'=>natK (llen es) fun n=>some (.raw (.int .i64 (.ofNat n)),⟨h,nx,bs,R',W⟩)
        | _=>none
    | _=>none
  | _=>none
theorem MRel.len {es:List SEnt}:∀ {ms:List MapEntry},MRel ρ es ms→ms.length=es.length:=by
  induction es with
  | nil=>intro ms h;rw [MRel] at h;rw [h];rfl
  | cons e es ih=>intro ms h;rw [MRel] at h;obtain ⟨m,r,rfl,_,_,_,h5⟩:=h;simp [ih h5]
theorem lnS_ok {T ty:Nat} {x v:SV} {u:Value} (hx:Rel ρ x u) (h:lnS P T x st=some (v,st')) (hs:Sim ρ D st w) (hD:∀ x,x∈st'.R∨st.base≤x→D x):Did P ρ D st st' w v (Builtin.len_ #[T] ty #[u]):=by
  unfold lnS at h
  split at h
  · rename_i e hu
    split at h <;> try (cases h;done)
    · simp only [Option.some.injEq,Prod.mk.injEq] at h
      obtain ⟨e1,e2⟩:=h
      subst e2
      rw [Rel] at hx
      obtain ⟨_,_,_,_,_,rfl⟩:=hx
      exact Did.pure hs (by simp [Builtin.len_,run_underlying hu,goInt];rfl) (by rw [← e1,Rel];first | done | rfl)
    · simp only [Option.some.injEq,Prod.mk.injEq] at h
      obtain ⟨e1,e2⟩:=h
      subst e2
      rw [Rel] at hx
      obtain ⟨_,_,rfl⟩:=hx
      exact Did.pure hs (by simp [Builtin.len_,run_underlying hu,goInt];rfl) (by rw [← e1,Rel];first | done | rfl)
    · simp only [Option.some.injEq,Prod.mk.injEq] at h
      obtain ⟨e1,e2⟩:=h
      subst e2
      rw [Rel] at hx
      subst hx
      exact Did.pure hs (by simp [Builtin.len_,run_underlying hu,goInt];rfl) (by rw [← e1,Rel];first | done | rfl)
  · rename_i kt et hu
    split at h <;> try (cases h;done)
    · simp only [Option.some.injEq,Prod.mk.injEq] at h
      obtain ⟨e1,e2⟩:=h
      subst e2
      rw [Rel] at hx
      subst hx
      exact Did.pure hs (by simp [Builtin.len_,run_underlying hu,goInt];rfl) (by rw [← e1,Rel];first | done | rfl)
    · rename_i b
      cases st with
      | mk hh nx bs R W =>
        simp only at h
        split at h
        · rename_i es c hg
          rw [insK_eq,natK_eq] at h
          simp only [Option.some.injEq,Prod.mk.injEq] at h
          obtain ⟨e1,e2⟩:=h
          rw [Rel] at hx
          obtain ⟨B,s,hb,rfl⟩:=hx
          have hd:D b:=hD b (by rw [← e2];exact ins_has _ _ _)
          obtain ⟨b',s',ob,q1,q2,ms,rfl,q4⟩:=hs.live b _ hd hg
          rw [hb] at q1;cases q1
          refine ⟨.int .i64 (ms.length:Int),w,ρ,?_,?_,by rw [← e2];exact Step.touch hs (ins_sub _ _ _) fun _ h=>h⟩
          · simp [Builtin.len_,run_underlying hu,goInt,getObj,Sem.run,q2]
          · rw [← e1,Rel,q4.len,llen_eq];rfl
        · cases h
  · cases h

/-! ### Numbers -/
def kEq:IntKind→IntKind→Bool
  | .i8,.i8=>true | .i16,.i16=>true | .i32,.i32=>true | .i64,.i64=>true
  | .u8,.u8=>true | .u16,.u16=>true | .u32,.u32=>true | .u64,.u64=>true
  | _,_=>false
theorem kEq_eq {k k':IntKind} (h:kEq k k'=true):k=k':=by cases k <;> cases k' <;> first | rfl | cases h
def kmax:IntKind→Nat
  | .i8=>127 | .i16=>32767 | .i32=>2147483647 | .i64=>9223372036854775807
  | .u8=>255 | .u16=>65535 | .u32=>4294967295 | .u64=>18446744073709551615
def ksg:IntKind→Bool
  | .i8=>true | .i16=>true | .i32=>true | .i64=>true
  | _=>false
def wrapF (k:IntKind) (n:Int):Int:=match n with
  | .ofNat m=>bif Nat.ble m (kmax k) then .ofNat m else k.wrap n
  | .negSucc m=>bif ksg k&&Nat.ble m (kmax k) then .negSucc m else k.wrap n
theorem fits_of {k:IntKind} {m:Nat} (h:m≤kmax k):Fits k m:=by
  cases k <;> simp only [kmax] at h <;> simp [Fits,room,IntKind.bits,IntKind.signed] <;> omega
theorem wrap_pos {k:IntKind} {m:Nat} (h:m≤kmax k):k.wrap (m:Int)=m:=wrap_nat (fits_of h)
theorem kbits (k:IntKind) (hk:ksg k=true):k.signed=true∧(2 ^ k.bits:Int)=2*2 ^ (k.bits-1)∧((kmax k:Nat):Int)+1=2 ^ (k.bits-1):=by
  cases k <;> first | (cases hk;done) | exact ⟨rfl,rfl,rfl⟩
theorem wrap_neg {k:IntKind} {m:Nat} (hk:ksg k=true) (h:m≤kmax k):k.wrap (Int.negSucc m)=Int.negSucc m:=by
  obtain ⟨h1,h2,h3⟩:=kbits k hk
  unfold IntKind.wrap
  rw [h2]
  generalize (2 ^ (k.bits-1):Int)=H at *
  have e:Int.negSucc m%(2*H)=Int.negSucc m+2*H:=by
    rw [← Int.add_emod_right]
    exact Int.emod_eq_of_lt (by rw [Int.negSucc_eq];omega) (by rw [Int.negSucc_eq];omega)
  simp only [e,h1,Bool.true_and]
  rw [if_pos (by rw [decide_eq_true_eq,Int.negSucc_eq];omega)]
  omega
theorem wrapF_eq (k:IntKind) (n:Int):wrapF k n=k.wrap n:=by
  cases n with
  | ofNat m =>
    simp only [wrapF]
    cases h:Nat.ble m (kmax k) with
    | false=>rfl
    | true=>exact (wrap_pos (Nat.ble_eq.mp h)).symm
  | negSucc m =>
    simp only [wrapF]
    cases h:ksg k&&Nat.ble m (kmax k) with
    | false=>rfl
    | true =>
      rw [Bool.and_eq_true] at h
      exact (wrap_neg h.1 (Nat.ble_eq.mp h.2)).symm
def ilt:Int→Int→Bool
  | .ofNat m,.ofNat n=>Nat.blt m n
  | .ofNat _,.negSucc _=>false
  | .negSucc _,.ofNat _=>true
  | .negSucc m,.negSucc n=>Nat.blt n m
theorem ilt_eq (x y:Int):ilt x y=decide (x<y):=by
  rw [Bool.eq_iff_iff,decide_eq_true_eq]
  cases x <;> cases y <;> simp only [ilt,Nat.blt_eq,Bool.false_eq_true,true_iff,false_iff,Int.ofNat_eq_natCast,Int.negSucc_eq] <;> omega
def ieq:Int→Int→Bool
  | .ofNat m,.ofNat n=>Nat.beq m n
  | .negSucc m,.negSucc n=>Nat.beq m n
  | _,_=>false
theorem ieq_eq (x y:Int):ieq x y=decide (x=y):=by
  rw [Bool.eq_iff_iff,decide_eq_true_eq]
  cases x <;> cases y <;> simp [ieq]
  omega
def intV (k:IntKind) (n:Int):Option SV:=intK n fun n'=>some (.raw (.int k n'))
theorem intV_eq (k:IntKind) (n:Int):intV k n=some (.raw (.int k n)):=by simp only [intV,intK_eq]
def boolV (b:Bool):Option SV:=match b with
  | true=>some (.raw (.bool true))
  | false=>some (.raw (.bool false))
theorem boolV_eq (b:Bool):boolV b=some (.raw (.bool b)):=by cases b <;> rfl
def isZ:Int→Bool
  | .ofNat 0=>true
  | _=>false
theorem isZ_eq {n:Int} (h:isZ n=false):n≠0:=by
  rintro rfl;cases h
/-- two numbers -/
def ibS (op:BinOp) (k:IntKind) (x:Int) (k':IntKind) (y:Int):Option SV:=match op with
  | .add=>bif kEq k k' then intV k (wrapF k (Int.add x y)) else none
  | .sub=>bif kEq k k' then intV k (wrapF k (Int.sub x y)) else none
  | .mul=>bif kEq k k' then intV k (wrapF k (Int.mul x y)) else none
  | .quo=>bif kEq k k' then (bif isZ y then none else intV k (wrapF k (Int.tdiv x y))) else none
  | .rem=>bif kEq k k' then (bif isZ y then none else intV k (Int.tmod x y)) else none
  | .lss=>bif kEq k k' then boolV (ilt x y) else none
  | .gtr=>bif kEq k k' then boolV (ilt y x) else none
  | .leq=>bif kEq k k' then boolV (!ilt y x) else none
  | .geq=>bif kEq k k' then boolV (!ilt x y) else none
  | .eql=>bif kEq k k' then boolV (ieq x y) else none
  | .neq=>bif kEq k k' then boolV (!ieq x y) else none
  | .and=>bif kEq k k' then (match x with
    | .ofNat m=>match y with
      | .ofNat n=>bif Nat.ble m (kmax k)&&Nat.ble n (kmax k) then intV k (.ofNat (Nat.land m n)) else none
      | _=>none
    | _=>none) else none
  | .or=>bif kEq k k' then (match x with
    | .ofNat m=>match y with
      | .ofNat n=>bif Nat.ble m (kmax k)&&Nat.ble n (kmax k) then intV k (.ofNat (Nat.lor m n)) else none
      | _=>none
    | _=>none) else none
  | .xor=>bif kEq k k' then (match x with
    | .ofNat m=>match y with
      | .ofNat n=>bif Nat.ble m (kmax k)&&Nat.ble n (kmax k) then intV k (.ofNat (Nat.xor m n)) else none
      | _=>none
    | _=>none) else none
  | .andNot=>bif kEq k k' then (match x with
    | .ofNat m=>match y with
      | .ofNat n=>bif Nat.ble m (kmax k)&&Nat.ble n (kmax k) then intV k (.ofNat (Nat.xor m (Nat.land m n))) else none
      | _=>none
    | _=>none) else none
  | .shl=>match x with
    | .ofNat m=>match y with
      | .ofNat s=>bif Nat.ble s k.bits then intV k (wrapF k (.ofNat (Nat.shiftLeft m s))) else none
      | _=>none
    | _=>none
  | .shr=>match x with
    | .ofNat m=>match y with
      | .ofNat s=>bif Nat.ble s k.bits then intV k (.ofNat (Nat.shiftRight m s)) else none
      | _=>none
    | _=>none
end
end Go.TX
namespace Go.TH
open Go
section
variable {P:Program} {C:Cx P} {E:Env} {H:List HP}
variable {ops:Array Oper} {K:KP} {rest:List Oper} {d:Nat} {ty:TypeId} {pos:String} {af:Array Edge} {x y:Operand} {T T':TypeId} {k:IntKind} {a b:Nat}
theorem bv_andNot {n:Nat} (x y:BitVec n):x&&&~~~y=x^^^(x&&&y):=by
  apply BitVec.eq_of_getLsbD_eq
  intro i hi
  simp [hi]
  cases x[i] <;> cases y[i] <;> rfl
end
end Go.TH
namespace Go.TX
open Go Go.TH
noncomputable section
variable {ρ:Ren} {N:Nat} {env:Tr SV} {a:Act} {P:Program} {D:Nat→Prop} {st st':St} {w:World}

/-- a test and the operator -/
def opT (op:BinOp) (T:TypeId) (xo yo:Operand) (u z:Value):Sem Value:=do eqGuard op T xo yo u z;binOp op T u z
theorem ble2 {m n k:Nat} (h:(Nat.ble m k&&Nat.ble n k)=true):m≤k∧n≤k:=by
  rw [Bool.and_eq_true] at h
  exact ⟨Nat.ble_eq.mp h.1,Nat.ble_eq.mp h.2⟩
def arF (op:BinOp) (x y:Int):Option Int:=match op with | .add=>some (x+y) | .sub=>some (x-y) | .mul=>some (x*y) | _=>none
def cmF (op:BinOp) (x y:Int):Option Bool:=match op with | .lss=>some (ilt x y) | .gtr=>some (ilt y x) | .leq=>some (!ilt y x) | .geq=>some (!ilt x y) | .eql=>some (ieq x y) | .neq=>some (!ieq x y) | _=>none
def dvF (op:BinOp) (k:IntKind) (x y:Int):Option Int:=match op with | .quo=>some (k.wrap (x.tdiv y)) | .rem=>some (x.tmod y) | _=>none
def btF (op:BinOp) (m n:Nat):Option Nat:=match op with | .and=>some (m&&&n) | .or=>some (m|||n) | .xor=>some (m^^^n) | .andNot=>some (m^^^(m&&&n)) | _=>none
def shF (op:BinOp) (k:IntKind) (m s:Nat):Option Int:=match op with | .shl=>some (k.wrap ((m<<<s:Nat):Int)) | .shr=>some ((m>>>s:Nat):Int) | _=>none
theorem op_arith {op:BinOp} {k:IntKind} {x y n:Int} (h:arF op x y=some n) (T:TypeId) (xo yo:Operand):(opT op T xo yo (.int k x) (.int k y)).run P w=.ok (.int k (k.wrap n)) w:=by
  cases op <;> simp only [arF,Option.some.injEq,reduceCtorEq] at h <;> subst h <;> simp [opT,eqGuard,binOp,Op.intArith]
theorem op_cmp {op:BinOp} {k:IntKind} {x y:Int} {b:Bool} (h:cmF op x y=some b) (T:TypeId) (xo yo:Operand) :
    (opT op T xo yo (.int k x) (.int k y)).run P w=.ok (.bool b) w:=by
  cases op <;> simp only [cmF,Option.some.injEq,reduceCtorEq] at h <;> subst h <;> simp [opT,eqGuard,binOp,Op.intCmp,ilt_eq,ieq_eq]
  · by_cases q:x=y <;> simp [q]
  · by_cases q:x=y <;> simp [q]
  · rw [Bool.eq_iff_iff];simp
  · rw [Bool.eq_iff_iff];simp
theorem op_div {op:BinOp} {k:IntKind} {x y n:Int} (hy:y≠0) (h:dvF op k x y=some n) (T:TypeId) (xo yo:Operand):(opT op T xo yo (.int k x) (.int k y)).run P w=.ok (.int k n) w:=by
  cases op <;> simp only [dvF,Option.some.injEq,reduceCtorEq] at h <;> subst h <;> simp [opT,eqGuard,binOp,Op.intDiv,hy]
theorem op_bits {op:BinOp} {k:IntKind} {m n r:Nat} (hm:m≤kmax k) (hn:n≤kmax k) (h:btF op m n=some r) (T:TypeId) (xo yo:Operand) :
    (opT op T xo yo (.int k (m:Int)) (.int k (n:Int))).run P w=.ok (.int k (r:Int)) w:=by
  have ha:=fits_of hm
  have hb:=fits_of hn
  cases op <;> simp only [btF,Option.some.injEq,reduceCtorEq] at h <;> subst h
  · simp [opT,eqGuard,binOp,Op.intBits,mod_fits ha,mod_fits hb]
    exact_mod_cast wrap_nat (k:=k) (a:=m&&&n) ha.and
  · simp [opT,eqGuard,binOp,Op.intBits,mod_fits ha,mod_fits hb]
    exact_mod_cast wrap_nat (k:=k) (a:=m|||n) (ha.or hb)
  · simp [opT,eqGuard,binOp,Op.intBits,mod_fits ha,mod_fits hb]
    exact_mod_cast wrap_nat (k:=k) (a:=m^^^n) (ha.xor hb)
  · simp [opT,eqGuard,binOp,Op.intBits,bv_andNot,mod_fits ha,mod_fits hb]
    exact_mod_cast wrap_nat (k:=k) (a:=m^^^(m&&&n)) (ha.xor ha.and)
theorem op_shift {op:BinOp} {k k':IntKind} {m s:Nat} {r:Int} (hs:s≤k.bits) (h:shF op k m s=some r) (T:TypeId) (xo yo:Operand) :
    (opT op T xo yo (.int k (m:Int)) (.int k' (s:Int))).run P w=.ok (.int k r) w:=by
  have h0:¬ ((s:Int)<0):=by omega
  cases op <;> simp only [shF,Option.some.injEq,reduceCtorEq] at h <;> subst h
  · simp [opT,eqGuard,binOp,Op.shift,h0,Nat.min_eq_left hs,Nat.shiftLeft_eq]
  · simp [opT,eqGuard,binOp,Op.shift,h0,Nat.min_eq_left hs,Nat.shiftRight_eq_div_pow]
    rw [Int.fdiv_eq_ediv_of_nonneg _ (by exact_mod_cast Nat.zero_le (2 ^ s))]
theorem kEq_of {α:Type} {k k':IntKind} {x:Option α} {v:α} (h:(bif kEq k k' then x else none)=some v):k=k'∧x=some v:=by
  cases hk:kEq k k' with
  | false=>rw [hk] at h;cases h
  | true=>rw [hk] at h;exact ⟨kEq_eq hk,h⟩
theorem bif_of {α:Type} {b:Bool} {x:Option α} {v:α} (h:(bif b then x else none)=some v):b=true∧x=some v:=by
  cases b with
  | false=>cases h
  | true=>exact ⟨rfl,h⟩
theorem bif_no {α:Type} {b:Bool} {x:Option α} {v:α} (h:(bif b then none else x)=some v):b=false∧x=some v:=by
  cases b with
  | true=>cases h
  | false=>exact ⟨rfl,h⟩
theorem two_of {α:Type} {x y:Int} {f:Nat→Nat→Option α} {v:α} (h:(match x with | .ofNat m=>(match y with | .ofNat n=>f m n | _=>none) | _=>none)=some v):∃ m n:Nat,x=(m:Int)∧y=(n:Int)∧f m n=some v:=by
  cases x <;> cases y <;> simp only [reduceCtorEq] at h
  exact ⟨_,_,rfl,rfl,h⟩
theorem ibS_ok {op:BinOp} {k k':IntKind} {x y:Int} {v:SV} (h:ibS op k x k' y=some v) (T:TypeId) (xo yo:Operand):∃ u,(opT op T xo yo (.int k x) (.int k' y)).run P w=.ok u w∧v=.raw u:=by
  have arith:∀ {n:Int},k=k'∧intV k (wrapF k n)=some v→arF op x y=some n→∃ u,(opT op T xo yo (.int k x) (.int k' y)).run P w=.ok u w∧v=.raw u:=by
    rintro n ⟨rfl,g⟩ hn
    rw [intV_eq,wrapF_eq,Option.some.injEq] at g
    exact ⟨_,op_arith hn T xo yo,g.symm⟩
  have cmp:∀ {b:Bool},k=k'∧boolV b=some v→cmF op x y=some b→∃ u,(opT op T xo yo (.int k x) (.int k' y)).run P w=.ok u w∧v=.raw u:=by
    rintro b ⟨rfl,g⟩ hb
    rw [boolV_eq,Option.some.injEq] at g
    exact ⟨_,op_cmp hb T xo yo,g.symm⟩
  have bits:∀ {f:Nat→Nat→Nat},(k=k'∧∃ m n:Nat,x=(m:Int)∧y=(n:Int)∧(bif Nat.ble m (kmax k)&&Nat.ble n (kmax k) then intV k (.ofNat (f m n)) else none)=some v)→(∀ m n,btF op m n=some (f m n)) →
      ∃ u,(opT op T xo yo (.int k x) (.int k' y)).run P w=.ok u w∧v=.raw u:=by
    rintro f ⟨rfl,m,n,rfl,rfl,g⟩ hf
    obtain ⟨hb,g⟩:=bif_of g
    obtain ⟨hm,hn⟩:=ble2 hb
    rw [intV_eq,Option.some.injEq] at g
    exact ⟨_,op_bits hm hn (hf m n) T xo yo,g.symm⟩
  cases op <;> simp only [ibS] at h
  · exact arith (kEq_of h) rfl
  · exact arith (kEq_of h) rfl
  · exact arith (kEq_of h) rfl
  · obtain ⟨rfl,g⟩:=kEq_of h
    obtain ⟨hz,g⟩:=bif_no g
    rw [intV_eq,wrapF_eq,Option.some.injEq] at g
    exact ⟨_,op_div (isZ_eq hz) rfl T xo yo,g.symm⟩
  · obtain ⟨rfl,g⟩:=kEq_of h
    obtain ⟨hz,g⟩:=bif_no g
    rw [intV_eq,Option.some.injEq] at g
    exact ⟨_,op_div (isZ_eq hz) rfl T xo yo,g.symm⟩
  · exact bits ⟨(kEq_of h).1,two_of (kEq_of h).2⟩ fun _ _=>rfl
  · exact bits ⟨(kEq_of h).1,two_of (kEq_of h).2⟩ fun _ _=>rfl
  · exact bits ⟨(kEq_of h).1,two_of (kEq_of h).2⟩ fun _ _=>rfl
  · obtain ⟨m,s,rfl,rfl,g⟩:=two_of h
    obtain ⟨hb,g⟩:=bif_of g
    rw [intV_eq,wrapF_eq,Option.some.injEq] at g
    exact ⟨_,op_shift (Nat.ble_eq.mp hb) rfl T xo yo,g.symm⟩
  · obtain ⟨m,s,rfl,rfl,g⟩:=two_of h
    obtain ⟨hb,g⟩:=bif_of g
    rw [intV_eq,Option.some.injEq] at g
    exact ⟨_,op_shift (Nat.ble_eq.mp hb) rfl T xo yo,g.symm⟩
  · exact bits ⟨(kEq_of h).1,two_of (kEq_of h).2⟩ fun _ _=>rfl
  all_goals exact cmp (kEq_of h) rfl
end
end Go.TX
namespace Go.TX
open Go Go.TH
noncomputable section
variable {ρ:Ren} {N:Nat} {env:Tr SV} {a:Act} {P:Program} {D:Nat→Prop} {st st':St} {w:World}

/-! ### Values without addresses -/
def raws:List SV→Option (List Value)
  | []=>some []
  | .raw v::r=>match raws r with
    | some l=>some (v::l)
    | none=>none
  | _::_=>none
def toV:SV→Option Value
  | .raw v=>some v
  | .agg l=>match raws l with
    | some vs=>some (.agg vs.toArray)
    | none=>none
  | _=>none
theorem raws_rel:∀ {l:List SV} {vs us:List Value},raws l=some vs→RelL ρ l us→us=vs
  | [],vs,us,h,hr=>by
    simp only [raws,Option.some.injEq] at h
    rw [RelL] at hr
    rw [hr,h]
  | s::l,vs,us,h,hr=>by
    rw [RelL] at hr
    obtain ⟨v,r,rfl,h1,h2⟩:=hr
    cases s <;> simp only [raws] at h <;> try (cases h;done)
    rw [Rel] at h1
    subst h1
    split at h
    · rename_i l' hl
      simp only [Option.some.injEq] at h
      subst h
      rw [raws_rel hl h2]
    · cases h
theorem toV_rel {s:SV} {v u:Value} (h:toV s=some v) (hr:Rel ρ s u):u=v:=by
  cases s <;> simp only [toV] at h <;> try (cases h;done)
  · rw [Rel] at hr
    simp only [Option.some.injEq] at h
    rw [hr,h]
  · rw [Rel] at hr
    obtain ⟨us,h1,rfl⟩:=hr
    split at h
    · rename_i vs hv
      simp only [Option.some.injEq] at h
      subst h
      rw [raws_rel hv h1]
    · cases h
/-- a value, reckoned -/
def valV (v:Value):Option SV:=match v with
  | .int k n=>intV k n
  | .bool b=>boolV b
  | .agg cs=>some (.agg (cs.toList.map .raw))
  | v=>some (.raw v)
theorem valV_rel {v:Value} {s:SV} (h:valV v=some s):Rel ρ s v:=by
  cases v <;> simp only [valV,intV_eq,boolV_eq,Option.some.injEq] at h <;> subst h <;> rw [Rel]
  exact ⟨_,RelL.raws _,by simp⟩

/-! ### Operators -/
def isNil:SV→Bool
  | .raw (.pointer none)=>true
  | .raw (.slice none 0 0)=>true
  | .raw (.map none)=>true
  | .raw .nilFunc=>true
  | _=>false
def eqNil (P:Program) (T:TypeId) (x:SV):Option Bool:=match x with
  | .ptr _ _=>match P.underlying T with
    | some (.pointer _)=>some false
    | _=>none
  | .sl _ _ _ _=>match P.underlying T with
    | some (.slice _)=>some false
    | _=>none
  | .map _=>match P.underlying T with
    | some (.map _ _)=>some false
    | _=>none
  | .fn _ _ _=>match P.underlying T with
    | some (.func _ _ _)=>some false
    | _=>none
  | _=>none
def nilT (P:Program) (T:TypeId) (x:SV):Bool:=match x with
  | .raw (.pointer none)=>match P.underlying T with
    | some (.pointer _)=>true
    | _=>false
  | .raw (.slice none 0 0)=>match P.underlying T with
    | some (.slice _)=>true
    | _=>false
  | .raw (.map none)=>match P.underlying T with
    | some (.map _ _)=>true
    | _=>false
  | .raw .nilFunc=>match P.underlying T with
    | some (.func _ _ _)=>true
    | _=>false
  | _=>false
theorem eqNil_ok {T:TypeId} {x y:SV} {u z:Value} {b:Bool} (hx:Rel ρ x u) (hy:Rel ρ y z) (h:eqNil P T x=some b) (hn:nilT P T y=true) :
    (Op.equal T u z).run P w=.ok b w∧(Op.equal T z u).run P w=.ok b w:=by
  cases x <;> simp only [eqNil] at h <;> try (cases h;done)
  all_goals
    split at h <;> try (cases h;done)
    rename_i hu
    simp only [Option.some.injEq] at h
    subst h
    unfold nilT at hn
    split at hn <;> try (cases hn;done)
    all_goals
      split at hn <;> try (cases hn;done)
      rename_i hu'
      rw [hu] at hu'
      first
        | (cases hu';done)
        | (simp only [Rel] at hx hy
           subst hy
           first
             | (obtain ⟨_,_,_,rfl⟩:=hx
                constructor <;> (unfold Op.equal;rw [show Op.maxDepth=9999+1 from rfl,Op.equalIn];simp [run_underlying hu]))
             | (obtain ⟨_,_,_,_,_,rfl⟩:=hx
                constructor <;> (unfold Op.equal;rw [show Op.maxDepth=9999+1 from rfl,Op.equalIn];simp [run_underlying hu]))
             | (obtain ⟨_,_,_,_,rfl⟩:=hx
                constructor <;> (unfold Op.equal;rw [show Op.maxDepth=9999+1 from rfl,Op.equalIn];simp [run_underlying hu])))
def boS (P:Program) (op:BinOp) (T:TypeId) (xo yo:Operand) (x y:SV):Option SV:=match x with
  | .raw (.int k m)=>match y with
    | .raw (.int k' n)=>ibS op k m k' n
    | _=>none
  | x=>match toV x with
    | some u=>match toV y with
      | some z=>match pv P (opT op T xo yo u z) with
        | some v=>valV v
        | none=>none
      | none=>bif isNil x&&nilT P T x then (match eqNil P T y with
        | some b=>match op with
          | .eql=>boolV b
          | .neq=>boolV (!b)
          | _=>none
        | none=>none) else none
    | none=>bif nilT P T y then (match eqNil P T x with
      | some b=>match op with
        | .eql=>boolV b
        | .neq=>boolV (!b)
        | _=>none
      | none=>none) else none
theorem opT_eq {op:BinOp} {T:TypeId} {xo yo:Operand} {u z:Value} {b:Bool} {v:SV} (hq:(Op.equal T u z).run P w=.ok b w)  (hg:∀ op,(eqGuard op T xo yo u z).run P w=.ok () w) (hop:∀ op,op=.eql∨op=.neq→binOp op T u z=(if op=.eql then (do pure (.bool (← Op.equal T u z))) else (do pure (.bool (!(← Op.equal T u z)))))) (h:(match op with | .eql=>boolV b | .neq=>boolV (!b) | _=>none)=some v):∃ r,(opT op T xo yo u z).run P w=.ok r w∧Rel ρ v r:=by
  cases op <;> simp only [reduceCtorEq] at h
  · rw [boolV_eq,Option.some.injEq] at h
    refine ⟨.bool b,?_,by rw [← h,Rel]⟩
    simp only [opT,Sem.run_bind,hg,Result.andThen_ok,hop .eql (.inl rfl),if_true]
    simp [hq]
  · rw [boolV_eq,Option.some.injEq] at h
    refine ⟨.bool !b,?_,by rw [← h,Rel]⟩
    simp only [opT,Sem.run_bind,hg,Result.andThen_ok,hop .neq (.inr rfl)]
    simp [hq]
theorem guard_nil {op:BinOp} {T:TypeId} {xo yo:Operand} {x y:SV} {u z:Value} {b:Bool} (hx:Rel ρ x u) (hy:Rel ρ y z) (h:eqNil P T x=some b) (hn:nilT P T y=true) :
    (eqGuard op T xo yo u z).run P w=.ok () w∧(eqGuard op T yo xo z u).run P w=.ok () w∧(∀ op,op=.eql∨op=.neq→binOp op T u z=(if op=.eql then (do pure (.bool (← Op.equal T u z))) else (do pure (.bool (!(← Op.equal T u z)))))) ∧
      (∀ op,op=.eql∨op=.neq→binOp op T z u=(if op=.eql then (do pure (.bool (← Op.equal T z u))) else (do pure (.bool (!(← Op.equal T z u)))))):=by
  cases x <;> simp only [eqNil] at h <;> try (cases h;done)
  all_goals
    split at h <;> try (cases h;done)
    unfold nilT at hn
    split at hn <;> try (cases hn;done)
    all_goals
      simp only [Rel] at hx hy
      subst hy
      first
        | (obtain ⟨_,_,_,rfl⟩:=hx
           refine ⟨by cases op <;> simp [eqGuard],by cases op <;> simp [eqGuard],?_,?_⟩ <;> (rintro op (rfl | rfl) <;> rfl))
        | (obtain ⟨_,_,_,_,_,rfl⟩:=hx
           refine ⟨by cases op <;> simp [eqGuard],by cases op <;> simp [eqGuard],?_,?_⟩ <;> (rintro op (rfl | rfl) <;> rfl))
        | (obtain ⟨_,_,_,_,rfl⟩:=hx
           refine ⟨by cases op <;> simp [eqGuard],by cases op <;> simp [eqGuard],?_,?_⟩ <;> (rintro op (rfl | rfl) <;> rfl))
theorem boS_ok {op:BinOp} {T:TypeId} {xo yo:Operand} {x y v:SV} {u z:Value} (hx:Rel ρ x u) (hy:Rel ρ y z) (h:boS P op T xo yo x y=some v):∃ r,(opT op T xo yo u z).run P w=.ok r w∧Rel ρ v r:=by
  unfold boS at h
  split at h
  · rename_i k m
    split at h
    · rename_i k' n
      rw [Rel] at hx hy
      subst hx;subst hy
      obtain ⟨r,h1,h2⟩:=ibS_ok (P:=P) (w:=w) h T xo yo
      exact ⟨r,h1,by rw [h2,Rel]⟩
    · cases h
  · split at h
    · rename_i u' hu
      have eu:=toV_rel hu hx
      split at h
      · rename_i z' hz
        have ez:=toV_rel hz hy
        subst eu;subst ez
        split at h
        · rename_i r hp
          exact ⟨r,pv_run hp w,valV_rel h⟩
        · cases h
      · obtain ⟨hb,h⟩:=bif_of h
        rw [Bool.and_eq_true] at hb
        split at h
        · rename_i b hq
          have h1:=eqNil_ok (w:=w) hy hx hq hb.2
          have h2:=fun op=>guard_nil (w:=w) (op:=op) (xo:=yo) (yo:=xo) hy hx hq hb.2
          exact opT_eq h1.2 (fun op=>(h2 op).2.1) (h2 .eql).2.2.2 h
        · cases h
    · obtain ⟨hb,h⟩:=bif_of h
      split at h
      · rename_i b hq
        have h1:=eqNil_ok (w:=w) hx hy hq hb
        have h2:=fun op=>guard_nil (w:=w) (op:=op) (xo:=xo) (yo:=yo) hx hy hq hb
        exact opT_eq h1.1 (fun op=>(h2 op).1) (h2 .eql).2.2.1 h
      · cases h
end
end Go.TX
