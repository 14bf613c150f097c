/-
  What is proved here: sides that contradict each other, and the greatest bound of what they say (no program in sight). Conditions: none; each theorem states its own.
-/
import Derived.Test.YtfchgmiiicidcaaGreatM5
import Derived.Test.YtfchgmiiicidcaaGreatM2
import Derived.Test.YtfchgmiiicidcaaGreatM4
import Derived.Test.YtfchgmiiicidcaaGreatM3
set_option linter.unusedVariables false
set_option linter.unusedSimpArgs false
namespace Go.Proofs.YtfchgmiiicidcaaGreat.Sp
open Go Go.TH
def fitS (s:Sd) (t:Tru):Prop:=s.c*t.d≤s.a*t.a+s.b*t.b
theorem fitL_iff {l:List Rn} {t:Tru}:fitL l t↔∀ s∈sds l,fitS s t:=by
 constructor
 ·intro h s hs
  obtain ⟨r,hr,hm⟩:=List.mem_flatMap.1 hs
  have h1:=h r hr
  unfold fitR at h1
  have:s=loS r∨s=hiS r:=by simpa using hm
  rcases this with rfl | rfl
  ·exact h1.1
  ·show -r.hi*t.d ≤ -r.p*t.a + -r.q*t.b
   rw [Int.neg_mul,Int.neg_mul,Int.neg_mul];omega
 ·intro h r hr
  have h1:fitS (loS r) t:=h _ (List.mem_flatMap.2 ⟨r,hr,by simp⟩)
  have h2:fitS (hiS r) t:=h _ (List.mem_flatMap.2 ⟨r,hr,by simp⟩)
  have h3 : -r.hi*t.d ≤ -r.p*t.a + -r.q*t.b:=h2
  rw [Int.neg_mul,Int.neg_mul,Int.neg_mul] at h3
  exact ⟨h1,by omega⟩
theorem fitS.by_ {s:Sd} {t:Tru} {y:Int} (h:fitS s t) (hy:0≤y):fitS (byS s y) t:=by
 unfold fitS at h
 have h1:=Int.mul_le_mul_of_nonneg_right h hy
 show s.c*y*t.d≤s.a*y*t.a+s.b*y*t.b
 have e1:s.c*y*t.d=s.c*t.d*y:=by grind
 have e2:s.a*y*t.a+s.b*y*t.b=(s.a*t.a+s.b*t.b)*y:=by grind
 omega
theorem fitS.add {s o:Sd} {t:Tru} (h:fitS s t) (g:fitS o t):fitS (addS s o) t:=by
 unfold fitS at h g
 show (s.c+o.c)*t.d≤(s.a+o.a)*t.a+(s.b+o.b)*t.b
 rw [Int.add_mul,Int.add_mul,Int.add_mul];omega
theorem tkS_fit {S:List Sd} {t:Tru} (h:∀ s∈S,fitS s t) {g ys:List Int} (hg:∀ x∈g,0≤x∧x<S.length) (hy:∀ y∈ys,0≤y) (hl:ys.length=g.length):∀ {i:Nat},i≤g.length→fitS (tkS S g ys i) t
 | 0,_=>by unfold fitS;simp [tkS,sd0]
 | i+1,hi=>by
  have hx:=hg _ (getD_mem (show i<g.length by omega) 0)
  exact (tkS_fit h hg hy hl (i:=i) (by omega)).add ((h _ (getD_mem (show (g.getD i 0).toNat<S.length by omega) sd0)).by_ (hy _ (getD_mem (by omega) 0)))
theorem ab_nn' (n:Int):0≤ab n:=by unfold ab;omega
theorem siz_nn (s:Sd):0≤siz s:=by unfold siz;have:=ab_nn' s.a;have:=ab_nn' s.b;omega
theorem zrY_nn {S:List Sd} {g ys:List Int} (h:zrY S g=some ys):∀ y∈ys,0≤y:=by
 unfold zrY at h
 split at h
 ·unfold zr2 at h
  split at h
  ·cases h
   intro y hy
   have:=siz_nn (atS S g 0);have:=siz_nn (atS S g 1)
   simp only [List.mem_cons,List.not_mem_nil,or_false] at hy
   rcases hy with rfl | rfl <;> omega
  ·cases h
 ·split at h
  ·unfold zr3 at h
   dsimp only at h
   split at h
   ·split at h
    ·cases h;intro y hy;simp only [List.mem_cons,List.not_mem_nil,or_false] at hy;rcases hy with rfl | rfl | rfl <;> omega
    ·cases h
   ·split at h
    ·cases h;intro y hy;simp only [List.mem_cons,List.not_mem_nil,or_false] at hy;rcases hy with rfl | rfl | rfl <;> omega
    ·cases h
  ·cases h
theorem Dbt.no {S:List Sd} (h:Dbt S) {t:Tru} (ht:0<t.d):¬ ∀ s∈S,fitS s t:=fun hf=>by
 obtain ⟨hg,hs⟩:=h.hit
 obtain ⟨ys,e,ez⟩:=dbt_def hs
 have hgr:=(grp_ok (m:=3) (by omega) hg).1
 have hfit:=tkS_fit hf hgr.rng (zrY_nn ez) (zrY_len ez) (i:=(hitG S).length) (Nat.le_refl _)
 obtain ⟨_,⟨h1,h2⟩,h3⟩:=dbt_some.1 hs
 rw [ez] at h1 h2 h3
 have h1':(tkS S (hitG S) ys (hitG S).length).a=0:=h1
 have h2':(tkS S (hitG S) ys (hitG S).length).b=0:=h2
 have h3':0<(tkS S (hitG S) ys (hitG S).length).c:=h3
 unfold fitS at hfit
 rw [h1',h2',Int.zero_mul,Int.zero_mul] at hfit
 have:=Int.mul_pos h3' ht
 omega
theorem grp_two {m n i j:Nat} (h1:i<j) (h2:j<n):[(i:Int),(j:Int)]∈grp m n :=
 mem_seg.2 ⟨i,by omega,by omega,by unfold F1;exact List.mem_cons_of_mem _ (mem_seg.2 ⟨j,by omega,h2,by unfold F2;exact List.mem_cons_self⟩)⟩
theorem ex_at {S:List Sd} {s:Sd} (h:s∈S):∃ i:Nat,i<S.length∧S.getD i sd0=s:=by
 obtain ⟨i,hi,e⟩:=List.getElem_of_mem h
 exact ⟨i,hi,by simp [hi,e]⟩
abbrev wS (p q:Int):Sd:=⟨p,q,0⟩
section
variable {S:List Sd} {p q:Int}
theorem cand_pair {a b:Sd} (ha:a∈S) (hb:b∈S) (hd:0<crs a b) (hx:0≤crs (wS p q) b) (hy:0≤crs a (wS p q)):∃ y∈mstA S p q,y.1.c=crs (wS p q) b*a.c+crs a (wS p q)*b.c∧y.2=crs a b:=by
 obtain ⟨i,hi,rfl⟩:=ex_at ha
 obtain ⟨j,hj,rfl⟩:=ex_at hb
 have hij:i≠j:=fun e=>by subst e;unfold crs at hd;have:=Int.mul_comm (S.getD i sd0).a (S.getD i sd0).b;omega
 rcases Nat.lt_or_gt_of_ne hij with h | h
 ·refine ⟨(tkS S [(i:Int),(j:Int)] [crs (wS p q) (S.getD j sd0),crs (S.getD i sd0) (wS p q)] 2,crs (S.getD i sd0) (S.getD j sd0)),List.mem_flatMap.2 ⟨_,grp_two h hj,?_⟩,?_⟩
  ·have e:mstG S p q [(i:Int),(j:Int)]=some ([crs (wS p q) (S.getD j sd0),crs (S.getD i sd0) (wS p q)],crs (S.getD i sd0) (S.getD j sd0)):=by
    unfold mstG
    rw [if_neg (by simp)]
    show mst2 (S.getD i sd0) (S.getD j sd0) p q=_
    unfold mst2
    rw [if_neg (by omega),if_pos ⟨hd,hx,hy⟩]
   unfold mstL;rw [e];simp
  ·refine ⟨?_,rfl⟩
   show 0+(S.getD i sd0).c*_+(S.getD j sd0).c*_=_
   rw [Int.zero_add,Int.mul_comm,Int.mul_comm (S.getD j sd0).c];rfl
 ·have n1:crs (S.getD j sd0) (S.getD i sd0) = -crs (S.getD i sd0) (S.getD j sd0):=by unfold crs;grind
  have n2:crs (wS p q) (S.getD i sd0) = -crs (S.getD i sd0) (wS p q):=by unfold crs;grind
  have n3:crs (S.getD j sd0) (wS p q) = -crs (wS p q) (S.getD j sd0):=by unfold crs;grind
  refine ⟨(tkS S [(j:Int),(i:Int)] [crs (S.getD i sd0) (wS p q),crs (wS p q) (S.getD j sd0)] 2,crs (S.getD i sd0) (S.getD j sd0)),List.mem_flatMap.2 ⟨_,grp_two h hi,?_⟩,?_⟩
  ·have e:mstG S p q [(j:Int),(i:Int)]=some ([crs (S.getD i sd0) (wS p q),crs (wS p q) (S.getD j sd0)],crs (S.getD i sd0) (S.getD j sd0)):=by
    unfold mstG
    rw [if_neg (by simp)]
    show mst2 (S.getD j sd0) (S.getD i sd0) p q=_
    unfold mst2
    have n2':crs ⟨p,q,0⟩ (S.getD i sd0) = -crs (S.getD i sd0) (wS p q):=n2
    have n3':crs (S.getD j sd0) ⟨p,q,0⟩ = -crs (wS p q) (S.getD j sd0):=n3
    rw [n1,n2',n3',if_pos (by omega),if_pos (by omega),Int.neg_neg,Int.neg_neg,Int.neg_neg]
   unfold mstL;rw [e];simp
  ·refine ⟨?_,rfl⟩
   show 0+(S.getD j sd0).c*_+(S.getD i sd0).c*_=_
   rw [Int.zero_add,Int.add_comm,Int.mul_comm,Int.mul_comm (S.getD j sd0).c];rfl
theorem mst_inv {y:Sd × Int} (h:y∈mstA S p q):(∃ s∈S,fit2 s (wS p q) (siz (wS p q)) (-(siz s))∧y.1.c=s.c*siz (wS p q)∧y.2=siz s∧y.1.a=p*y.2∧y.1.b=q*y.2) ∨
 (∃ a∈S,∃ b∈S,0<crs a b∧0≤crs (wS p q) b∧0≤crs a (wS p q)∧y.1.c=crs (wS p q) b*a.c+crs a (wS p q)*b.c∧y.2=crs a b∧y.1.a=p*y.2∧y.1.b=q*y.2):=by
 obtain ⟨g,hg,hy⟩:=List.mem_flatMap.1 h
 obtain ⟨hgr,h2⟩:=grp_ok (m:=2) (by omega) hg
 have hgn:=hgr.len
 have hat:∀ i,i<g.length→atS S g i∈S:=fun i hi=>getD_mem (show (g.getD i 0).toNat<S.length by have:=hgr.rng _ (getD_mem hi 0);omega) sd0
 unfold mstL at hy
 cases hm:mstG S p q g with
 | none=>rw [hm] at hy;simp at hy
 | some x =>
  rw [hm] at hy
  obtain rfl:y=(tkS S g x.1 g.length,x.2):=by simpa using hy
  unfold mstG at hm
  split at hm
  ·rename_i h1
   unfold mst1 at hm
   split at hm
   ·rename_i hf
    cases hm
    refine .inl ⟨_,hat 0 (by omega),hf,?_,rfl,?_,?_⟩
    ·rw [h1];show 0+(atS S g 0).c*_=_;rw [Int.zero_add];rfl
    ·rw [h1];show 0+(atS S g 0).a*siz (wS p q)=p*siz (atS S g 0)
     have k:(atS S g 0).a*siz (wS p q)+p * -(siz (atS S g 0))=0:=hf.2.1
     rw [Int.mul_neg] at k;omega
    ·rw [h1];show 0+(atS S g 0).b*siz (wS p q)=q*siz (atS S g 0)
     have k:(atS S g 0).b*siz (wS p q)+q * -(siz (atS S g 0))=0:=hf.2.2
     rw [Int.mul_neg] at k;omega
   ·cases hm
  ·rename_i h1
   have h2:g.length=2:=by omega
   have a0:=hat 0 (by omega)
   have a1:=hat 1 (by omega)
   have hc:∀ x y:Int,tkS S g [x,y] g.length=addS (addS sd0 (byS (atS S g 0) x)) (byS (atS S g 1) y):=fun x y=>by rw [h2];rfl
   unfold mst2 at hm
   split at hm
   ·split at hm
    ·rename_i c1 c2
     cases hm
     have n1:crs (atS S g 1) (atS S g 0) = -crs (atS S g 0) (atS S g 1):=by unfold crs;grind
     have n2:crs (wS p q) (atS S g 0) = -crs (atS S g 0) (wS p q):=by unfold crs;grind
     have n3:crs (atS S g 1) (wS p q) = -crs (wS p q) (atS S g 1):=by unfold crs;grind
     refine .inr ⟨_,a1,_,a0,by omega,by rw [n2];exact c2.2.2,by rw [n3];exact c2.2.1,?_,n1.symm,?_,?_⟩
     ·rw [n2,n3,hc]
      show 0+(atS S g 0).c * -(crs (wS p q) (atS S g 1))+(atS S g 1).c * -(crs (atS S g 0) (wS p q))=_
      grind
     ·rw [hc]
      show 0+(atS S g 0).a * -(crs (wS p q) (atS S g 1))+(atS S g 1).a * -(crs (atS S g 0) (wS p q))=p * -(crs (atS S g 0) (atS S g 1))
      unfold crs;grind
     ·rw [hc]
      show 0+(atS S g 0).b * -(crs (wS p q) (atS S g 1))+(atS S g 1).b * -(crs (atS S g 0) (wS p q))=q * -(crs (atS S g 0) (atS S g 1))
      unfold crs;grind
    ·cases hm
   ·split at hm
    ·rename_i c1 c2
     cases hm
     refine .inr ⟨_,a0,_,a1,c2.1,c2.2.1,c2.2.2,?_,rfl,?_,?_⟩
     ·rw [hc]
      show 0+(atS S g 0).c*(crs (wS p q) (atS S g 1))+(atS S g 1).c*(crs (atS S g 0) (wS p q))=_
      grind
     ·rw [hc]
      show 0+(atS S g 0).a*(crs (wS p q) (atS S g 1))+(atS S g 1).a*(crs (atS S g 0) (wS p q))=p*(crs (atS S g 0) (atS S g 1))
      unfold crs;grind
     ·rw [hc]
      show 0+(atS S g 0).b*(crs (wS p q) (atS S g 1))+(atS S g 1).b*(crs (atS S g 0) (wS p q))=q*(crs (atS S g 0) (atS S g 1))
      unfold crs;grind
    ·cases hm
theorem mst_weak {y:Sd × Int} (h:y∈mstA S p q) {t:Tru} (hf:∀ s∈S,fitS s t):y.1.c*t.d≤(p*t.a+q*t.b)*y.2:=by
 have key:fitS ⟨p*y.2,q*y.2,y.1.c⟩ t:=by
  rcases mst_inv h with ⟨s,hs,_,h1,h2,h3,h4⟩ | ⟨a,ha,b,hb,_,h1,h2,h3,h4,h5,h6⟩
  ·have:=(hf s hs).by_ (siz_nn (wS p q))
   unfold byS at this
   have e:s.a*siz (wS p q)=p*siz s∧s.b*siz (wS p q)=q*siz s:=by
    rename_i k
    have k1:s.a*siz (wS p q)+p * -(siz s)=0:=k.2.1
    have k2:s.b*siz (wS p q)+q * -(siz s)=0:=k.2.2
    rw [Int.mul_neg] at k1 k2
    constructor <;> omega
   rw [e.1,e.2,← h1,← h2] at this
   exact this
  ·have:=((hf a ha).by_ h1).add ((hf b hb).by_ h2)
   unfold byS addS at this
   dsimp only at this
   have e1:a.a*crs (wS p q) b+b.a*crs a (wS p q)=p*y.2:=by rw [h4];unfold crs;grind
   have e2:a.b*crs (wS p q) b+b.b*crs a (wS p q)=q*y.2:=by rw [h4];unfold crs;grind
   have e3:a.c*crs (wS p q) b+b.c*crs a (wS p q)=y.1.c:=by rw [h3];grind
   rw [e1,e2,e3] at this
   exact this
 unfold fitS at key
 dsimp only at key
 have e:(p*t.a+q*t.b)*y.2=p*y.2*t.a+q*y.2*t.b:=by grind
 omega
end
section
variable {S:List Sd}
theorem crs_anti (a b:Sd):crs b a = -crs a b:=by unfold crs;grind
end
end Go.Proofs.YtfchgmiiicidcaaGreat.Sp
namespace Go.Proofs.YtfchgmiiicidcaaGreat.Sp
open Go Go.TH
instance (s:Sd) (t:Tru):Decidable (fitS s t):=by unfold fitS;infer_instance
theorem ab_mul {x d:Int} (hd:0≤d):ab (x*d)=ab x*d:=by
  unfold ab
  rcases Int.le_total 0 x with h | h
  · have:=Int.mul_nonneg h hd
    rw [show max x (-x)=x by omega];omega
  · have:=Int.mul_nonneg (show 0 ≤ -x by omega) hd
    rw [Int.neg_mul] at this
    rw [show max x (-x) = -x by omega,Int.neg_mul];omega
/-- where the lines of two sides meet -/
def cnr (a b:Sd):Tru:=⟨a.c*b.b-b.c*a.b,a.a*b.c-b.a*a.c,crs a b⟩
section
variable {S:List Sd} {p q:Int}
def sq (b:Sd):Int:=b.a*b.a+b.b*b.b
/-- the point of a side's line that is nearest to 0 and 0 -/
def foot (b:Sd):Tru:=⟨b.a*b.c,b.b*b.c,sq b⟩
end
end Go.Proofs.YtfchgmiiicidcaaGreat.Sp
namespace Go.Proofs.YtfchgmiiicidcaaGreat.Sp
open Go Go.TH
attribute [local irreducible] W WO pt
set_option maxRecDepth 10000
set_option maxHeartbeats 2000000
abbrev sAt (S:List Sd) (i:Nat):Sd:=S.getD i sd0
def cJ (S:List Sd) (i j:Nat):List Tru:=if crs (sAt S i) (sAt S j)=0 then [] else [if crs (sAt S i) (sAt S j)<0 then cnr (sAt S j) (sAt S i) else cnr (sAt S i) (sAt S j)]
def cI (S:List Sd) (i:Nat):List Tru:=foot (sAt S i)::seg 0 i (cJ S i)
def crnS (S:List Sd):List Tru:=seg 0 S.length (cI S)
def pI (S:List Sd) (i:Nat):Nat:=(seg 0 i (cI S)).length
def pJ (S:List Sd) (i j:Nat):Nat:=pI S i+((seg 0 j (cJ S i)).length+1)
section
variable {S:List Sd} {i j:Nat}
theorem crn_foot (h:i<S.length):(crnS S)[pI S i]?=some (foot (sAt S i)):=seg_get (lo:=0) (i:=i) (t:=0) (g:=cI S) (by omega) rfl h
theorem crn_at (h:i<S.length) (hj:j<i) {t:Tru} (hc:cJ S i j=[t]):(crnS S)[pJ S i j]?=some t:=by
 refine seg_get (lo:=0) (i:=i) (g:=cI S) (by omega) ?_ h
 unfold cI
 rw [List.getElem?_cons_succ]
 have:=seg_get (lo:=0) (i:=j) (t:=0) (g:=cJ S i) (x:=t) (by omega) (by rw [hc];rfl) (hi:=i) hj
 exact this
theorem pJ_0:pJ S i 0=pI S i+1:=by unfold pJ;rw [seg_none];rfl
theorem pJ_succ:pJ S i (j+1)=pJ S i j+(cJ S i j).length:=by unfold pJ;rw [seg_succ (by omega),List.length_append];omega
theorem pI_succ:pI S (i+1)=pJ S i i:=by unfold pJ pI;rw [seg_succ (by omega),List.length_append];rfl
theorem crnS_len:(crnS S).length=pI S S.length:=rfl
theorem pI_0:pI S 0=0:=by unfold pI;rw [seg_none];rfl
theorem cJ_z (h:crs (sAt S i) (sAt S j)=0):cJ S i j=[]:=if_pos h
theorem cJ_n (h:crs (sAt S i) (sAt S j)<0):cJ S i j=[cnr (sAt S j) (sAt S i)]:=by unfold cJ;rw [if_neg (by omega),if_pos h]
theorem cJ_p (h:0<crs (sAt S i) (sAt S j)):cJ S i j=[cnr (sAt S i) (sAt S j)]:=by unfold cJ;rw [if_neg (by omega),if_neg (by omega)]
end
theorem sds_get {l:List Rn}:∀ {i:Nat},i<2*l.length→sAt (sds l) i=if i%2=0 then loS (l.getD (i/2) rn0) else hiS (l.getD (i/2) rn0):=by
 induction l with
 | nil=>intro i h;simp at h
 | cons r l ih =>
  intro i h
  match i with
  | 0=>rfl
  | 1=>rfl
  | i+2 =>
   have:=ih (i:=i) (by simp at h;omega)
   show sAt (sds l) i=_
   rw [this,show (i+2)%2=i%2 by omega,show (i+2)/2=i/2+1 by omega]
   rfl
theorem sds_sq {l:List Rn} {i:Nat} (h:i<2*l.length):(l.getD (i/2) rn0).p*(l.getD (i/2) rn0).p+(l.getD (i/2) rn0).q*(l.getD (i/2) rn0).q=sq (sAt (sds l) i):=by
 rw [sds_get h]
 split
 ·rfl
 ·show _ = -(l.getD (i/2) rn0).p * -(l.getD (i/2) rn0).p + -(l.getD (i/2) rn0).q * -(l.getD (i/2) rn0).q
  rw [Int.neg_mul_neg,Int.neg_mul_neg]
def gT (x:Tru) (v:Value):HP:=fun _=>v=truV x
theorem gT_in {x:Tru} {a b d:Int} (ha:a=x.a) (hb:b=x.b) (hd:d=x.d) {H:List HP}:∀ h,sat H h→sat (gT x (.agg #[.int .i64 a,.int .i64 b,.int .i64 d])::H) h:=fun h' hs=>⟨fun _=>none,h',split_none h',by subst ha hb hd;rfl,hs⟩
theorem c_corners (w:World) (p:Addr):Ct Tryz.prog 174 [.pointer (some p)].toArray w fun v w'=>∃ Hq,(∃ b1,v=.func (.func 270) #[] #[.pointer (some ⟨b1,0,none⟩)] ∧
 Hq=[pt b1 (.cells #[.pointer (some p)] 186 (0,0))])∧Inv w [] Hq w':=by
 refine Ct.of mixed tyTab Tryz.func174 rfl rfl (W.sreg (WO.box1 rfl (by rfl) rfl (fun b1 hb1=>(WO.p rfl rfl (WO.nil (W.sreg (WO.p rfl rfl (WO.p rfl rfl (WO.nil (W.ret ?_))))))))))
 exact fin.ret (Res.one rfl (RV.tmp rfl)) ⟨b1,rfl,rfl⟩
theorem sub0v (lb n i:Nat):Value.slice (if n=0 then some ⟨lb,0,none⟩ else ofs (some ⟨lb,0,none⟩) (0*3)) (i-0) (n-0)=.slice (some ⟨lb,0,none⟩) i n:=by
 split <;> simp [ofs,Addr.add]
theorem OwE.cellsSub {C:Cx Tryz.prog} {H:List HP} {e lb n i j:Nat} {S:List Sd} (s:Sub H [OwE encSd e 3 (.slice (some ⟨lb,0,none⟩) n n) S]) (hj:j<S.length):Cells C H (elt (.slice (some ⟨lb,0,none⟩) i n) j 3) [.int .i64 (sAt S j).a,.int .i64 (sAt S j).b,.int .i64 (sAt S j).c]:=by
 cases s with
 | cons p _ =>
  have:=OwE.cells (C:=C) encSd_ok p hj sd0
  rw [elt_eq] at this ⊢
  exact this
theorem RdF.cellsPr {C:Cx Tryz.prog} {H:List HP} {o:Value} {l:List Rn} (h:RdF encPr 10 C.B C.w0 o l) {z:Int} {i:Nat} (hz:z=((i/2:Nat):Int)) (h1:i<2*l.length):Cells C H (elt o z.toNat 10) (encPr (l.getD (i/2) rn0)):=by
 subst hz
 exact RdF.cells h (by omega) rn0
theorem c_corners1 (B:Nat) (wr:World) (p:Addr) (rv sv:Value) (rl:List Rn) (hT:Tbl B wr p rv sv rl) (hok:OkRs rl) (h0:0<rl.length) (hl12:rl.length≤12) (last:Nat) (l:Nat) (Hc:Nat→List HP) (hy:∀ k x v,(crnS (sds rl))[k]?=some x→k≤last→YieldB Tryz.prog B wr l #[v] (bl (k<last)) (gT x v::Hc k) (Hc (k+1))) (cb:Nat) (w:World) (M':List Nat) (hB:B≤w.heap.size) (hk:∀ k,k<B→w.heap[k]?=wr.heap[k]?) (hM:∀ b∈M',B≤b)
 (hi:Inv w M' ([pt cb (.cells #[.pointer (some p)] 186 (0,0))]++Hc 0) w) :
 Ct Tryz.prog 270 ([.func (.yield l) #[] #[],.pointer (some ⟨cb,0,none⟩)]:List Value).toArray w fun _ w'=>Inv w M' ([pt cb (.cells #[.pointer (some p)] 186 (0,0))]++Hc (min (crnS (sds rl)).length (last+1))) w':=by
 have hT2:=hT.agree hk
 have hsl:=sds_len rl
 have hS:=sds_ok hok
 refine Iter.of mixed tyTab hB hM Tryz.func270 rfl rfl hi ?_
 replace hT2:Tbl (itCx mixed tyTab Tryz.f270.ntmps w M' B hB hM).B (itCx mixed tyTab Tryz.f270.ntmps w M' B hB hM).w0 p rv sv rl:=hT2
 refine W.seq (W.sreg (WO.load rfl rfl (Cell.own Pick.head rfl) rfl (WO.p rfl rfl (WO.field0 rfl rfl rfl ?_))))
 refine' WO.load (v:=_) rfl rfl ?hc rfl ?_
 case hc=>((refine RdC.cell0 hT2.c ?_;rfl))
 refine WO.len rfl rfl hT2.r.sl rfl (WO.eqlF rfl rfl (by omega) rfl (WO.p rfl rfl (WO.no rfl rfl (WO.no rfl rfl (WO.no rfl rfl (WO.no rfl rfl (WO.p rfl rfl (WO.nil (W.cond_f rfl (W.skip (W.sreg (WO.load rfl rfl (Cell.own Pick.head rfl) rfl (WO.p rfl rfl (WO.field rfl rfl rfl ?_))))))))))))))
 refine' WO.load (v:=_) rfl rfl ?hc rfl ?_
 case hc=>((refine RdC.cellAt hT2.c (j:=1) ?_;rfl))
 refine WO.len rfl rfl hT2.s.sl rfl (WO.makeEN (z:=sd0) encSd_ok rfl rfl rfl rfl rfl (by omega) (by omega) rfl (fun lb=>(WO.p rfl rfl (WO.nil (W.sreg (WO.p rfl rfl (WO.load rfl rfl (Cell.own (Pick.tail (Pick.head)) rfl) rfl (WO.p rfl rfl (WO.field rfl rfl rfl ?_)))))))))
 refine' WO.load (v:=_) rfl rfl ?hc rfl ?_
 case hc=>((refine RdC.cellAt hT2.c (j:=1) ?_;rfl))
 refine WO.copyEN (m:=(sds rl).length) (xs:=List.replicate (sds rl).length sd0) (ys:=sds rl) encSd_ok rfl rfl rfl (by repeat exact .head) hT2.s.sl (by simp) (by simp;omega) (by simp) (RdF.flat encSd_ok hT2.s) rfl (WO.nil (W.sreg (WO.p rfl rfl (WO.len rfl rfl (isSl_lit (n:=(sds rl).length) (by omega) (fun _=>⟨_,_,rfl⟩)) rfl (WO.p rfl rfl (WO.nil (W.block ?_)))))))
 rw [show Hc 0=Hc (pI (sds rl) 0) by rw [pI_0]]
 refine W.loop (fun (i:Nat)=>i≤(sds rl).length∧pI (sds rl) i≤last)
  (fun (i:Nat)=>[(39,.int .i64 (i:Int)),(38,.int .i64 ((sds rl).length:Int)),(37,.slice (some ⟨lb,0,none⟩) (sds rl).length (sds rl).length),(3,.slice (some ⟨lb,0,none⟩) (sds rl).length (sds rl).length),(0,.func (.yield l) #[] #[]),(1,.pointer (some ⟨cb,0,none⟩))])
  (fun (i:Nat)=>[pt cb (.cells #[.pointer (some p)] 186 (0,0)),OwE encSd 101 3 (.slice (some ⟨lb,0,none⟩) (sds rl).length (sds rl).length) (sds rl),sat (Hc (pI (sds rl) i))])
  (fun (i:Nat)=>(sds rl).length-i) 0
  (by exact ⟨by omega,by rw [pI_0];omega⟩) ⟨rfl,rfl,rfl,rfl,rfl,rfl,trivial⟩ (by repeat (first | exact Sub.nil | refine Sub.cons (by repeat first | exact .head | apply Pick.tail) ?_)) ?_
 rintro i ⟨hi0,hil⟩
 refine W.sreg (WO.p rfl rfl (WO.nil (W.seq ?_)))
 refine W.cond_bl rfl (fun c1=>?_) (fun c1=>?_)
 ·refine W.skip (W.seq (W.block ?_))
  have si:OkS 20 100000 (sAt (sds rl) i):=hS _ (getD_mem (show i<(sds rl).length by omega) sd0)
  have ri:=hok _ (getD_mem (show i/2<rl.length by omega) rn0)
  have hsq:=sds_sq (l:=rl) (i:=i) (by omega)
  have hq2:((i:Nat):Int).tdiv 2=((i/2:Nat):Int):=rfl
  have m1:=mul_bd (A:=20) (B:=20) ri.1 ri.1
  have m2:=mul_bd (A:=20) (B:=20) ri.2.1 ri.2.1
  have m3:=mul_bd si.a si.c
  have m4:=mul_bd si.b si.c
  refine W.sreg (WO.p rfl rfl (WO.indexAddr rfl rfl rfl (isSl_lit (n:=(sds rl).length) (by omega) (fun _=>⟨_,_,rfl⟩)) (by omega) rfl ?_))
  refine' WO.loadA (vs:=_) rfl rfl ?hc ?hl rfl ?_
  case hc=>(first | (refine OwE.cellsSub (S:=sds rl) (lb:=lb) (e:=101) (i:=(sds rl).length) (j:=i) (n:=(sds rl).length) ?_ ?_;exact Sub.cons (by repeat first | exact .head | apply Pick.tail) Sub.nil;omega))
  case hl=>rfl
  refine WO.alloc rfl rfl rfl (fun b1 hb1=>(WO.p rfl rfl (WO.storeA rfl rfl rfl rfl Pick.head rfl rfl (WO.nil (W.sreg (WO.load rfl rfl (Cell.own (Pick.tail (Pick.head)) rfl) rfl (WO.p rfl rfl (WO.field0 rfl rfl rfl ?_))))))))
  refine' WO.load (v:=_) rfl rfl ?hc rfl ?_
  case hc=>((refine RdC.cell0 hT2.c ?_;rfl))
  refine WO.p rfl rfl (WO.quo rfl rfl (by omega) (by unfold in64;omega) rfl ?_)
  refine' WO.indexAddrZ (n:=_) rfl rfl rfl ?hs ?h00 ?h1 rfl ?_
  case hs=>exact hT2.r.sl
  case h00=>omega
  case h1=>(omega)
  refine WO.loadA rfl rfl (RdF.cellsPr (i:=i) hT2.r (by omega) (by omega)) rfl rfl (WO.alloc rfl rfl rfl (fun b2 hb2=>(WO.storeA rfl rfl rfl rfl Pick.head rfl rfl (WO.nil (W.sreg (WO.field0 rfl rfl rfl (WO.field0 rfl rfl rfl (WO.load rfl rfl (Cell.own Pick.head rfl) rfl (WO.field0 rfl rfl rfl (WO.field0 rfl rfl rfl (WO.load rfl rfl (Cell.own Pick.head rfl) rfl (WO.ar rfl rfl rfl (by unfold in64;omega) rfl (WO.field0 rfl rfl rfl (WO.fieldL rfl rfl rfl (WO.load rfl rfl (Cell.own Pick.head rfl) rfl (WO.field0 rfl rfl rfl (WO.fieldL rfl rfl rfl ?_)))))))))))))))))
  refine WO.load rfl rfl (Cell.own Pick.head rfl) rfl (WO.ar rfl rfl rfl (by unfold in64;omega) rfl (WO.ar rfl rfl rfl (by unfold in64;omega) rfl (WO.p rfl rfl (WO.nil (W.seq (W.sreg (WO.p rfl rfl (WO.indexArrL (o':=0) rfl rfl rfl (by decide) rfl rfl (WO.load rfl rfl (Cell.own (Pick.tail (Pick.head)) rfl) rfl (WO.indexArrL (o':=2) rfl rfl rfl (by decide) rfl rfl (WO.load rfl rfl (Cell.own (Pick.tail (Pick.head)) rfl) rfl (WO.ar rfl rfl rfl (by unfold in64;omega) rfl (WO.indexArrL (o':=1) rfl rfl rfl (by decide) rfl rfl (WO.load rfl rfl (Cell.own (Pick.tail (Pick.head)) rfl) rfl (WO.indexArrL (o':=2) rfl rfl rfl (by decide) rfl rfl ?_)))))))))))))))
  refine WO.load rfl rfl (Cell.own (Pick.tail (Pick.head)) rfl) rfl (WO.ar rfl rfl rfl (by unfold in64;omega) rfl (WO.p rfl rfl (WO.build rfl rfl rfl rfl rfl (WO.chg (gT_in (x:=foot (sAt (sds rl) i)) rfl rfl hsq) (WO.yieldB (go:=bl (pI (sds rl) i<last)) rfl rfl (by repeat exact .head) (by repeat first | exact .head | apply Pick.tail) (((hy _ _ _ (crn_foot (by omega)) (by omega)).one).agree hk) rfl ?_)))))
  have hget:=(List.getElem?_eq_some_iff.1 (crn_foot (S:=sds rl) (i:=i) (by omega))).1
  refine WO.p rfl rfl (WO.nil ?_)
  refine W.cond_nbl rfl (fun c2=>?_) (fun c2=>?_)
  ·refine W.ret (fin.ret (Res.none rfl) ?_)
   rw [show min (crnS (sds rl)).length (last+1)=pI (sds rl) i+1 by omega]
   repeat (first | exact Sub.nil | refine Sub.cons (by repeat first | exact .head | apply Pick.tail) ?_)
  ·refine W.skip (W.sreg (WO.p rfl rfl (WO.p rfl rfl (WO.slSl (lo:=0) (hi:=i) (mx:=(sds rl).length) rfl rfl bnd.no (bnd.at rfl) bnd.no (by simp) (by omega) (by omega) (by omega) rfl ?_))))
   rw [sub0v]
   refine WO.len rfl rfl (isSl_lit (n:=i) (by omega) (fun _=>⟨_,_,rfl⟩)) rfl (WO.p rfl rfl (WO.nil (W.block ?_)))
   rw [show pI (sds rl) i+1=pJ (sds rl) i 0 from pJ_0.symm]
   refine W.loop (fun (j:Nat)=>j≤i∧pJ (sds rl) i j≤last)
    (fun (j:Nat)=>[(86,.int .i64 (j:Int)),(85,.int .i64 (i:Int)),(84,.slice (some ⟨lb,0,none⟩) i (sds rl).length),(39,.int .i64 (i:Int)),(38,.int .i64 ((sds rl).length:Int)),(37,.slice (some ⟨lb,0,none⟩) (sds rl).length (sds rl).length),(3,.slice (some ⟨lb,0,none⟩) (sds rl).length (sds rl).length),(5,.pointer (some ⟨b1,0,none⟩)),(0,.func (.yield l) #[] #[]),(1,.pointer (some ⟨cb,0,none⟩))])
    (fun (j:Nat)=>[pt b1 (.cells #[.int .i64 (sAt (sds rl) i).a,.int .i64 (sAt (sds rl) i).b,.int .i64 (sAt (sds rl) i).c] 101 (0,0)),pt cb (.cells #[.pointer (some p)] 186 (0,0)),OwE encSd 101 3 (.slice (some ⟨lb,0,none⟩) (sds rl).length (sds rl).length) (sds rl),sat (Hc (pJ (sds rl) i j))])
    (fun (j:Nat)=>i-j) 0
    (by exact ⟨by omega,by rw [pJ_0];omega⟩) ⟨rfl,rfl,rfl,rfl,rfl,rfl,rfl,rfl,rfl,rfl,trivial⟩ (by repeat (first | exact Sub.nil | refine Sub.cons (by repeat first | exact .head | apply Pick.tail) ?_)) ?_
   rintro j ⟨hj0,hjl⟩
   refine W.sreg (WO.p rfl rfl (WO.nil (W.seq ?_)))
   refine W.cond_bl rfl (fun c3=>?_) (fun c3=>?_)
   ·refine W.skip (W.seq (W.block (W.sreg (WO.indexAddr rfl rfl rfl (isSl_lit (n:=i) (by omega) (fun _=>⟨_,_,rfl⟩)) (by omega) rfl ?_))))
    refine' WO.loadA (vs:=_) rfl rfl ?hc ?hl rfl ?_
    case hc=>(first | (refine OwE.cellsSub (S:=sds rl) (lb:=lb) (e:=101) (i:=i) (j:=j) (n:=(sds rl).length) ?_ ?_;exact Sub.cons (by repeat first | exact .head | apply Pick.tail) Sub.nil;omega))
    case hl=>rfl
    refine WO.alloc rfl rfl rfl (fun b3 hb3=>(WO.storeA rfl rfl rfl rfl Pick.head rfl rfl (WO.nil ?_)))
    have sj:OkS 20 100000 (sAt (sds rl) j):=hS _ (getD_mem (show j<(sds rl).length by omega) sd0)
    have c1:=crs_bd (si.up (A':=20) (B':=1000000) (by omega) (by omega)) (sj.up (A':=20) (B':=1000000) (by omega) (by omega))
    have n1:=mul_bd si.c sj.b
    have n2:=mul_bd sj.c si.b
    have n3:=mul_bd si.a sj.c
    have n4:=mul_bd sj.a si.c
    refine W.sreg (WO.loadA rfl rfl (Cells.own (Pick.tail (Pick.head))) rfl rfl (WO.loadA rfl rfl (Cells.own Pick.head) rfl rfl (WO.callR rfl Tryz.call194 (fun L w hi=>c_cross w (sAt (sds rl) i) (sAt (sds rl) j) (si.up (by omega) (by omega)) (sj.up (by omega) (by omega))) rfl (WO.p rfl rfl (WO.nil (W.seq ?_))))))
    refine W.drawD 23 [.r 0 [],.b 1 [],.r 2 [],.b 3 [],.r 4 [],.r 5 [],.b 6 [],.r 7 [],.b 8 [],.r 9 [],.r 10 [],.r 11 [],.b 12 [],.r 13 [],.b 14 [],.r 15 [],.r 16 [],.b 17 [],.r 18 [],.b 19 [],.r 20 [],.r 21 [],.r 22 []] [] (A0:=[]) (Sub.refl _) (by kernel_rfl) ?_ ?_
    ·repeat constructor
    refine DT.r rfl rfl rfl (WO.indexArrL (o':=2) rfl rfl rfl (by decide) rfl rfl (WO.nil ⟨rfl,rfl⟩)) (DT.b rfl rfl rfl (WO.load rfl rfl (Cell.own (Pick.tail (Pick.head)) rfl) rfl (WO.nil ⟨rfl,rfl⟩)) (DT.r rfl rfl rfl (WO.indexArrL (o':=1) rfl rfl rfl (by decide) rfl rfl (WO.nil ⟨rfl,rfl⟩)) (DT.b rfl rfl rfl (WO.load rfl rfl (Cell.own Pick.head rfl) rfl (WO.nil ⟨rfl,rfl⟩)) (DT.r rfl rfl rfl (WO.ar rfl rfl rfl (by unfold in64;omega) rfl (WO.nil ⟨rfl,rfl⟩)) (DT.r rfl rfl rfl (WO.indexArrL (o':=2) rfl rfl rfl (by decide) rfl rfl (WO.nil ⟨rfl,rfl⟩)) (DT.b rfl rfl rfl (WO.load rfl rfl (Cell.own Pick.head rfl) rfl (WO.nil ⟨rfl,rfl⟩)) ?_))))))
    refine DT.r rfl rfl rfl (WO.indexArrL (o':=1) rfl rfl rfl (by decide) rfl rfl (WO.nil ⟨rfl,rfl⟩)) (DT.b rfl rfl rfl (WO.load rfl rfl (Cell.own (Pick.tail (Pick.head)) rfl) rfl (WO.nil ⟨rfl,rfl⟩)) (DT.r rfl rfl rfl (WO.ar rfl rfl rfl (by unfold in64;omega) rfl (WO.nil ⟨rfl,rfl⟩)) (DT.r rfl rfl rfl (WO.ar rfl rfl rfl (by unfold in64;omega) rfl (WO.nil ⟨rfl,rfl⟩)) (DT.r rfl rfl rfl (WO.indexArrL (o':=0) rfl rfl rfl (by decide) rfl rfl (WO.nil ⟨rfl,rfl⟩)) (DT.b rfl rfl rfl (WO.load rfl rfl (Cell.own (Pick.tail (Pick.head)) rfl) rfl (WO.nil ⟨rfl,rfl⟩)) (DT.r rfl rfl rfl (WO.indexArrL (o':=2) rfl rfl rfl (by decide) rfl rfl (WO.nil ⟨rfl,rfl⟩)) ?_))))))
    refine DT.b rfl rfl rfl (WO.load rfl rfl (Cell.own Pick.head rfl) rfl (WO.nil ⟨rfl,rfl⟩)) (DT.r rfl rfl rfl (WO.ar rfl rfl rfl (by unfold in64;omega) rfl (WO.nil ⟨rfl,rfl⟩)) (DT.r rfl rfl rfl (WO.indexArrL (o':=0) rfl rfl rfl (by decide) rfl rfl (WO.nil ⟨rfl,rfl⟩)) (DT.b rfl rfl rfl (WO.load rfl rfl (Cell.own Pick.head rfl) rfl (WO.nil ⟨rfl,rfl⟩)) (DT.r rfl rfl rfl (WO.indexArrL (o':=2) rfl rfl rfl (by decide) rfl rfl (WO.nil ⟨rfl,rfl⟩)) (DT.b rfl rfl rfl (WO.load rfl rfl (Cell.own (Pick.tail (Pick.head)) rfl) rfl (WO.nil ⟨rfl,rfl⟩)) (DT.r rfl rfl rfl (WO.ar rfl rfl rfl (by unfold in64;omega) rfl (WO.nil ⟨rfl,rfl⟩)) ?_))))))
    refine DT.r rfl rfl rfl (WO.ar rfl rfl rfl (by unfold in64;omega) rfl (WO.nil ⟨rfl,rfl⟩)) (DT.r rfl rfl rfl (WO.p rfl rfl (WO.nil ⟨rfl,rfl⟩)) (DT.nil [_,_,_,_,_] rfl (WO.p rfl rfl (WO.nil (W.seq (W.sreg (WO.p rfl rfl (WO.p rfl rfl (WO.nil ?_)))))))))
    refine W.cond_bl rfl (fun c4=>?_) (fun c4=>?_)
    ·refine W.region (WO.p rfl rfl (WO.neg rfl (by unfold in64;omega) rfl (WO.p rfl rfl (WO.neg rfl (by unfold in64;omega) rfl (WO.p rfl rfl (WO.neg rfl (by unfold in64;omega) rfl (WO.p rfl rfl (WO.p rfl rfl (WO.p rfl rfl (WO.nil (W.sreg (WO.p rfl rfl (WO.p rfl rfl (WO.p rfl rfl ?_))))))))))))))
     refine WO.guard_bl rfl rfl (fun c5=>?_) (fun c5=>?_)
     ·refine WO.pg rfl rfl rfl (WO.pg rfl rfl rfl (WO.pg rfl rfl rfl (WO.pg rfl rfl rfl (WO.go' rfl (WO.build rfl rfl rfl rfl rfl (WO.go' rfl ?_))))))
      (have hcj:=cJ_n (S:=sds rl) (i:=i) (j:=j) (by assumption);refine WO.chg (gT_in (x:=cnr (sAt (sds rl) j) (sAt (sds rl) i)) (a := -((sAt (sds rl) i).c*(sAt (sds rl) j).b-(sAt (sds rl) j).c*(sAt (sds rl) i).b)) (b := -((sAt (sds rl) i).a*(sAt (sds rl) j).c-(sAt (sds rl) j).a*(sAt (sds rl) i).c)) (d := -crs (sAt (sds rl) i) (sAt (sds rl) j)) (by show _=(sAt (sds rl) j).c*(sAt (sds rl) i).b-(sAt (sds rl) i).c*(sAt (sds rl) j).b;omega) (by show _=(sAt (sds rl) j).a*(sAt (sds rl) i).c-(sAt (sds rl) i).a*(sAt (sds rl) j).c;omega) (by show _=crs (sAt (sds rl) j) (sAt (sds rl) i);rw [crs_anti (sAt (sds rl) i) (sAt (sds rl) j)])) ?_;refine WO.yieldB (go:=bl (pJ (sds rl) i j<last)) rfl rfl (by repeat exact .head) (by repeat first | exact .head | apply Pick.tail) (((hy _ _ _ (crn_at (by omega) (by omega) hcj) (by omega)).one).agree hk) rfl ?_)
      have hget:=(List.getElem?_eq_some_iff.1 (crn_at (S:=sds rl) (i:=i) (j:=j) (by omega) (by omega) hcj)).1
      refine WO.pg rfl rfl rfl (WO.p rfl rfl (WO.nil ?_))
      refine W.cond_nbl rfl (fun c6=>?_) (fun c6=>?_)
      ·refine W.ret (fin.ret (Res.none rfl) ?_)
       rw [show min (crnS (sds rl)).length (last+1)=pJ (sds rl) i j+1 by omega]
       repeat (first | exact Sub.nil | refine Sub.cons (by repeat first | exact .head | apply Pick.tail) ?_)
      ·refine W.skip ?_
       (rw [show pJ (sds rl) i j+1=pJ (sds rl) i (j+1) by rw [pJ_succ,hcj];rfl];have hnx2:pJ (sds rl) i (j+1)≤last:=by rw [pJ_succ,hcj];show pJ (sds rl) i j+1≤last;omega)
       refine W.region (WO.ar rfl rfl rfl (by unfold in64;omega) rfl (WO.p rfl rfl (WO.nil ?_)))
       refine' ⟨j+1,?hp,?hmu,⟨rfl,rfl,rfl,rfl,rfl,rfl,rfl,rfl,rfl,rfl,trivial⟩,?hS⟩
       case hS=>repeat (first | exact Sub.nil | refine Sub.cons (by repeat first | exact .head | apply Pick.tail) ?_)
       case hp=>exact ⟨by omega,hnx2⟩
       case hmu=>omega
     ·exfalso;omega
    ·refine W.skip (W.sreg (WO.p rfl rfl (WO.p rfl rfl (WO.p rfl rfl ?_))))
     refine WO.guard_bl rfl rfl (fun c7=>?_) (fun c7=>?_)
     ·refine WO.pg rfl rfl rfl (WO.pg rfl rfl rfl (WO.pg rfl rfl rfl (WO.pg rfl rfl rfl (WO.go' rfl (WO.build rfl rfl rfl rfl rfl (WO.go' rfl ?_))))))
      (have hcj:=cJ_p (S:=sds rl) (i:=i) (j:=j) (by assumption);refine WO.chg (gT_in (x:=cnr (sAt (sds rl) i) (sAt (sds rl) j)) rfl rfl rfl) ?_;refine WO.yieldB (go:=bl (pJ (sds rl) i j<last)) rfl rfl (by repeat exact .head) (by repeat first | exact .head | apply Pick.tail) (((hy _ _ _ (crn_at (by omega) (by omega) hcj) (by omega)).one).agree hk) rfl ?_)
      have hget:=(List.getElem?_eq_some_iff.1 (crn_at (S:=sds rl) (i:=i) (j:=j) (by omega) (by omega) hcj)).1
      refine WO.pg rfl rfl rfl (WO.p rfl rfl (WO.nil ?_))
      refine W.cond_nbl rfl (fun c8=>?_) (fun c8=>?_)
      ·refine W.ret (fin.ret (Res.none rfl) ?_)
       rw [show min (crnS (sds rl)).length (last+1)=pJ (sds rl) i j+1 by omega]
       repeat (first | exact Sub.nil | refine Sub.cons (by repeat first | exact .head | apply Pick.tail) ?_)
      ·refine W.skip ?_
       (rw [show pJ (sds rl) i j+1=pJ (sds rl) i (j+1) by rw [pJ_succ,hcj];rfl];have hnx2:pJ (sds rl) i (j+1)≤last:=by rw [pJ_succ,hcj];show pJ (sds rl) i j+1≤last;omega)
       refine W.region (WO.ar rfl rfl rfl (by unfold in64;omega) rfl (WO.p rfl rfl (WO.nil ?_)))
       refine' ⟨j+1,?hp,?hmu,⟨rfl,rfl,rfl,rfl,rfl,rfl,rfl,rfl,rfl,rfl,trivial⟩,?hS⟩
       case hS=>repeat (first | exact Sub.nil | refine Sub.cons (by repeat first | exact .head | apply Pick.tail) ?_)
       case hp=>exact ⟨by omega,hnx2⟩
       case hmu=>omega
     ·refine WO.no rfl rfl (WO.no rfl rfl (WO.no rfl rfl (WO.no rfl rfl (WO.no rfl rfl (WO.no rfl rfl (WO.no rfl rfl (WO.p rfl rfl (WO.nil (W.cond_f rfl (W.skip ?_))))))))))
      (have hz:=cJ_z (S:=sds rl) (i:=i) (j:=j) (by omega);rw [show pJ (sds rl) i j=pJ (sds rl) i (j+1) by rw [pJ_succ,hz];rfl] at hjl ⊢;have hnx2:=hjl)
      refine W.region (WO.ar rfl rfl rfl (by unfold in64;omega) rfl (WO.p rfl rfl (WO.nil ?_)))
      refine' ⟨j+1,?hp,?hmu,⟨rfl,rfl,rfl,rfl,rfl,rfl,rfl,rfl,rfl,rfl,trivial⟩,?hS⟩
      case hS=>repeat (first | exact Sub.nil | refine Sub.cons (by repeat first | exact .head | apply Pick.tail) ?_)
      case hp=>exact ⟨by omega,hnx2⟩
      case hmu=>omega
   ·refine W.exit (blk_same ?_)
    obtain rfl:i=j:=by omega
    rw [← pI_succ] at hjl ⊢
    have hnx:=hjl
    refine W.region (WO.ar rfl rfl rfl (by unfold in64;omega) rfl (WO.p rfl rfl (WO.nil ?_)))
    refine' ⟨i+1,?hp,?hmu,⟨rfl,rfl,rfl,rfl,rfl,rfl,trivial⟩,?hS⟩
    case hS=>repeat (first | exact Sub.nil | refine Sub.cons (by repeat first | exact .head | apply Pick.tail) ?_)
    case hp=>exact ⟨by omega,hnx⟩
    case hmu=>omega
 ·refine W.exit (blk_same ?_)
  obtain rfl:(sds rl).length=i:=by omega
  refine fin.normal (Res.none rfl) ?_
  rw [crnS_len,show min (pI (sds rl) (sds rl).length) (last+1)=pI (sds rl) (sds rl).length by omega]
  repeat (first | exact Sub.nil | refine Sub.cons (by repeat first | exact .head | apply Pick.tail) ?_)
end Go.Proofs.YtfchgmiiicidcaaGreat.Sp
namespace Go.Proofs.YtfchgmiiicidcaaGreat.Sp
open Go Go.TH
attribute [local irreducible] W WO pt
set_option maxRecDepth 10000
set_option maxHeartbeats 20000000
theorem mstL_1 {S:List Sd} {p q:Int} {g:List Int} (h:g.length=1) (h2:fit2 (atS S g 0) ⟨p,q,0⟩ (siz ⟨p,q,0⟩) (-(siz (atS S g 0)))):mstL S p q g=[(tkS S g [siz ⟨p,q,0⟩] g.length,siz (atS S g 0))]:=by
 have e:mstG S p q g=some ([siz ⟨p,q,0⟩],siz (atS S g 0)):=by unfold mstG;rw [if_pos h];unfold mst1;rw [if_pos h2]
 unfold mstL;rw [e]
theorem mstL_1n {S:List Sd} {p q:Int} {g:List Int} (h:g.length=1) (h2:¬ fit2 (atS S g 0) ⟨p,q,0⟩ (siz ⟨p,q,0⟩) (-(siz (atS S g 0)))):mstL S p q g=[]:=by
 have e:mstG S p q g=none:=by unfold mstG;rw [if_pos h];unfold mst1;rw [if_neg h2]
 unfold mstL;rw [e]
theorem mstL_2 {S:List Sd} {p q:Int} {g:List Int} {x y d:Int} (h:¬ g.length=1) (hc:(crs (atS S g 0) (atS S g 1)<0∧d = -(crs (atS S g 0) (atS S g 1))∧x = -(crs ⟨p,q,0⟩ (atS S g 1))∧y = -(crs (atS S g 0) ⟨p,q,0⟩))∨(¬ crs (atS S g 0) (atS S g 1)<0∧d=crs (atS S g 0) (atS S g 1)∧x=crs ⟨p,q,0⟩ (atS S g 1)∧y=crs (atS S g 0) ⟨p,q,0⟩)):mstL S p q g=if 0<d∧0≤x∧0≤y then [(tkS S g [x,y] g.length,d)] else []:=by
 have e:mstG S p q g=if 0<d∧0≤x∧0≤y then some ([x,y],d) else none:=by
  unfold mstG;rw [if_neg h];unfold mst2
  rcases hc with ⟨h1,rfl,rfl,rfl⟩ | ⟨h1,rfl,rfl,rfl⟩
  ·rw [if_pos h1]
  ·rw [if_neg h1]
 unfold mstL;rw [e]
 split
 ·rename_i c
  split at c
  ·rename_i c2;cases c;rw [if_pos c2]
  ·cases c
 ·rename_i c
  split at c
  ·cases c
  ·rename_i c2;rw [if_neg c2]
theorem c_most (w:World) (p:Addr) (rv sv:Value) (rl:List Rn) (hT:Tbl w.heap.size w p rv sv rl) (hok:OkRs rl) (hl:rl.length≤12) (u v:Int) (hu:OkN u) (hv:OkN v) :
 RetE Tryz.prog 106 [.pointer (some p),.int .i64 u,.int .i64 v].toArray w (fun r=>∃ (q:Option Nat) (s:Sd) (t:Int),r=.tuple #[mdV (.map q) s t,.bool (bl (Bnd (sds rl) u v))]∧(Bnd (sds rl) u v→MostI (sds rl) u v (s,t))):=by
 refine RetE.of mixed tyTab Tryz.func106 rfl rfl ?_
 replace hT:Tbl (fnCx mixed tyTab Tryz.f106.ntmps w).B (fnCx mixed tyTab Tryz.f106.ntmps w).w0 p rv sv rl:=hT
 have hsl:=sds_len rl
 have hS:=sds_ok hok
 have hw:=want_ok hu hv
 have zw:=siz_bd hw
 have hg2:=g2_len (S:=sds rl) (by omega)
 refine W.sreg (WO.box1 rfl (by rfl) rfl (fun b1 hb1=>(WO.alloc rfl rfl rfl (fun b2 hb2=>(WO.p rfl rfl (WO.nil (W.sreg (WO.p rfl rfl (WO.p rfl rfl (WO.build rfl rfl rfl rfl rfl (WO.alloc rfl rfl rfl (fun b3 hb3=>(WO.storeA rfl rfl rfl rfl Pick.head rfl rfl (WO.nil (W.seq (W.sreg (WO.loadA rfl rfl (Cells.own Pick.head) rfl rfl (WO.build rfl rfl rfl rfl rfl (WO.eqT rfl rfl (eq124z u v) rfl (WO.nil ?_))))))))))))))))))))
 refine W.cond_bl rfl (fun c1=>?_) (fun c1=>?_)
 ·refine W.sreg (WO.makeMap rfl (fun mb=>(WO.build rfl rfl rfl rfl rfl (WO.build rfl rfl rfl rfl rfl (WO.storeA rfl rfl rfl rfl (Pick.tail (Pick.tail (Pick.head))) rfl rfl (WO.p rfl rfl (WO.nil (W.ret ?_))))))))
  (have q:=mb;exact fin.ret (Res.two rfl (RV.cell rfl rfl rfl (Cells.own (by repeat exact .head))) (RV.tmp rfl)) ⟨some mb,sd0,1,by rw [bl_t.2 (show Bnd (sds rl) u v from .inl ⟨by omega,by omega⟩)] <;> rfl,fun _=>⟨.inl ⟨by omega,by omega,rfl⟩,fun y _ h0=>absurd ⟨by omega,by omega⟩ h0⟩⟩)
 ·refine W.skip (W.sreg (WO.alloc rfl rfl rfl (fun b4 hb4=>(WO.nil (W.seq (W.sreg (WO.load rfl rfl (Cell.own (Pick.tail (Pick.tail (Pick.tail (Pick.head)))) rfl) rfl (WO.call (Post:=fun v Hq=>∃ b1 b2,v=.func (.func 276) #[] #[.pointer (some ⟨b1,0,none⟩),.pointer (some ⟨b2,0,none⟩)]∧Hq=[pt b2 (.cells #[.int .i64 2] 3 (0,0)),pt b1 (.cells #[.pointer (some p)] 186 (0,0))]) rfl Tryz.call191 (fun L w hi=>c_groups w p 2) rfl ?_))))))))
  rintro _ _ ⟨b5,b6,rfl,rfl⟩
  refine WO.nil (W.block (W.chg (all_nil (b:=b4) (by repeat first | exact .head | apply Pick.tail)) ?_))
  refine W.rangeFuncB (Jmp.ret) [pt b6 (.cells #[.int .i64 ((2:Nat):Int)] 3 (0,0)),pt b5 (.cells #[.pointer (some p)] 186 (0,0))] (fun t=>[AllP b4 (msts (sds rl) u v t),pt b3 (.cells #[.int .i64 u,.int .i64 v,.int .i64 0] 101 (0,0)),pt b2 (.cells #[.map none,.int .i64 0,.int .i64 0,.int .i64 0,.int .i64 0] 103 (0,0)),pt b1 (.cells #[.pointer (some p)] 186 (0,0))]) (g2S (sds rl)) (fun g1 v1_=>OwE encI 3 1 v1_ g1) ((g2S (sds rl)).length) rfl rfl rfl Tryz.call276 (by repeat (first | exact Sub.nil | refine Sub.cons (by repeat first | exact .head | apply Pick.tail) ?_)) ?_ ?_ ?_ ?_
  ·intro ll Hc hy w1 M1 hB1 hk1 hM1 hi1
   exact c_groups1 _ _ p rv sv rl hT (sds rl).length rfl 2 (by omega) (by omega) _ ll Hc hy b5 b6 w1 M1 hB1 hk1 hM1 hi1
  ·intro ll w1 M1 hB1 hM1 hk1 t g1 v1_ hx hle1
   have hlt:=(List.getElem?_eq_some_iff.1 hx).1
   have hg12:=grp_ok (m:=2) (by omega) (List.mem_of_getElem? hx)
   obtain ⟨hgr,hg2⟩:=hg12
   have hgn:=hgr.len
   replace hT:=hT.agree hk1
   refine W.fact (OwE.sl (enc:=encI) (e:=3) (sz:=1) (v:=v1_) (xs:=g1) (by repeat exact .head)) (fun hgsl=>(W.region (WO.p rfl rfl (WO.nil (W.block (W.seq ?_))))))
   have h0:=hgr.rng _ (getD_mem (show 0<g1.length by omega) 0)
   have s0:OkS 20 100000 (atS (sds rl) g1 0):=hS _ (getD_mem (show (g1.getD 0 0).toNat<(sds rl).length by omega) sd0)
   have z0:=siz_bd s0
   have u0:=s0.up (A':=20) (B':=1000000) (by omega) (by omega)
   have v0:=(OkS.by_ s0 (n:=siz ⟨u,v,0⟩) (N:=40) (by omega)).up (A':=1000000000000000) (B':=1000000000000000) (by omega) (by omega)
   have v1:=(OkS.by_ hw (n := -(siz (atS (sds rl) g1 0))) (N:=40) (by omega)).up (A':=1000000000000000) (B':=1000000000000000) (by omega) (by omega)
   refine W.drawD 10 [.b 0 [],.r 1 [],.r 2 [],.b 3 [],.r 4 [],.r 5 [],.b 6 [],.r 7 [],.b 8 [],.a 9 11 (.cells #[.int .i64 0,.int .i64 0,.int .i64 0] 101 (0,0))] [] (A0:=[]) (Sub.refl _) (by kernel_rfl) ?_ ?_
   ·exact (ALok.b (ALok.r (ALok.r (ALok.b (ALok.r (ALok.r (ALok.b (ALok.r (ALok.b (ALok.cons rfl rfl rfl rfl rfl ALok.nil))))))))))
   refine DT.b rfl rfl rfl (WO.load rfl rfl (Cell.own (Pick.tail (Pick.tail (Pick.tail (Pick.tail (Pick.head))))) rfl) rfl (WO.nil ⟨rfl,rfl⟩)) (DT.r rfl rfl rfl (WO.p rfl rfl (WO.nil ⟨rfl,rfl⟩)) (DT.r rfl rfl rfl (WO.field rfl rfl rfl (WO.nil ⟨rfl,rfl⟩)) ?_))
   refine' DT.b rfl rfl rfl ?hq ?_
   case hq =>
    refine' WO.load (v:=_) rfl rfl ?hc rfl ?_
    case hc=>((refine RdC.cellAt hT.c (j:=1) ?_;rfl))
    exact WO.nil ⟨rfl,rfl⟩
   refine DT.r rfl rfl rfl (WO.p rfl rfl (WO.nil ⟨rfl,rfl⟩)) (DT.r rfl rfl rfl (WO.indexAddr (i:=0) rfl rfl rfl hgsl (by omega) rfl (WO.nil ⟨rfl,rfl⟩)) ?_)
   refine' DT.b rfl rfl rfl ?hq ?_
   case hq =>
    refine' WO.load (v:=_) rfl rfl ?hc rfl ?_
    case hc=>(first | (refine OwE.cell0 (enc:=encI) (e:=3) (sz:=1) (xs:=g1) (i:=0) encI_ok (by repeat exact .head) (by omega) 0 ?_;rfl))
    exact WO.nil ⟨rfl,rfl⟩
   refine' DT.r rfl rfl rfl ?hq ?_
   case hq =>
    refine' WO.indexAddrZ (n:=_) rfl rfl rfl ?hs ?h00 ?h1 rfl ?_
    case hs=>exact hT.s.sl
    case h00=>omega
    case h1=>(omega)
    exact WO.nil ⟨rfl,rfl⟩
   refine' DT.b rfl rfl rfl ?hq ?_
   case hq =>
    refine' WO.loadA (vs:=_) rfl rfl ?hc ?hl rfl ?_
    case hc=>((refine RdF.cellsT ?_ h0.1 h0.2 rfl;exact hT.s))
    case hl=>rfl
    exact WO.nil ⟨rfl,rfl⟩
   refine DT.a (fun b5=>(DT.nil [_,_,_,_,_,_] rfl (WO.storeA rfl rfl rfl rfl Pick.head rfl rfl (WO.nil (W.seq (W.sreg (WO.p rfl rfl (WO.len rfl rfl hgsl rfl (WO.p rfl rfl (WO.nil ?_))))))))))
   refine W.cond_bl rfl (fun c2=>?_) (fun c2=>?_)
   ·refine W.seq ?_
    refine W.drawD 3 [.b 0 [],.b 1 [],.b 2 []] [] (A0:=[]) (Sub.refl _) (by kernel_rfl) ?_ ?_
    ·repeat constructor
    refine DT.b rfl rfl rfl (WO.loadA rfl rfl (Cells.own (Pick.tail (Pick.tail (Pick.tail (Pick.head))))) rfl rfl (WO.nil ⟨rfl,rfl⟩)) (DT.b rfl rfl rfl (WO.callR rfl Tryz.call193 (fun L w hi=>c_size w ⟨u,v,0⟩ hw) rfl (WO.nil ⟨rfl,rfl⟩)) (DT.b rfl rfl rfl (WO.loadA rfl rfl (Cells.own Pick.head) rfl rfl (WO.nil ⟨rfl,rfl⟩)) (DT.nil [_,_,_,_,_,_] rfl (WO.callR rfl Tryz.call193 (fun L w hi=>c_size w (atS (sds rl) g1 0) u0) rfl (WO.p rfl rfl (WO.p rfl rfl (WO.nil (W.seq (W.seq ?_)))))))))
    refine W.drawD 16 [.b 0 [],.b 1 [],.b 2 [],.r 3 [],.r 4 [],.b 5 [],.r 6 [],.b 7 [],.b 8 [],.r 9 [],.r 10 [],.b 11 [],.r 15 [],.c 12 [],.f 13 [],.b 14 []] [] (A0:=[]) (Sub.refl _) (by kernel_rfl) ?_ ?_
    ·repeat constructor
    refine DT.b rfl rfl rfl (WO.loadA rfl rfl (Cells.own Pick.head) rfl rfl (WO.nil ⟨rfl,rfl⟩)) (DT.b rfl rfl rfl (WO.loadA rfl rfl (Cells.own (Pick.tail (Pick.tail (Pick.tail (Pick.head))))) rfl rfl (WO.nil ⟨rfl,rfl⟩)) (DT.b rfl rfl rfl (WO.callR rfl Tryz.call194 (fun L w hi=>c_cross w (atS (sds rl) g1 0) ⟨u,v,0⟩ u0 hw) rfl (WO.nil ⟨rfl,rfl⟩)) (DT.r rfl rfl rfl (WO.p rfl rfl (WO.nil ⟨rfl,rfl⟩)) ?_)))
    refine DT.rB rfl rfl rfl (WO.p rfl rfl (WO.nil ⟨rfl,rfl⟩)) (fun c3=>?_) (fun c3=>?_)
    ·refine DT.b rfl rfl rfl (WO.go' rfl (WO.loadA rfl rfl (Cells.own Pick.head) rfl rfl (WO.nil ⟨rfl,rfl⟩))) (DT.r rfl rfl rfl (WO.pg rfl rfl rfl (WO.nil ⟨rfl,rfl⟩)) (DT.b rfl rfl rfl (WO.go' rfl (WO.callR rfl Tryz.call172 (fun L w hi=>c_by w (atS (sds rl) g1 0) (siz ⟨u,v,0⟩) (s0.up (by omega) (by omega)) (by omega)) rfl (WO.nil ⟨rfl,rfl⟩))) (DT.b rfl rfl rfl (WO.go' rfl (WO.loadA rfl rfl (Cells.own (Pick.tail (Pick.tail (Pick.tail (Pick.head))))) rfl rfl (WO.nil ⟨rfl,rfl⟩))) (DT.r rfl rfl rfl (WO.pg rfl rfl rfl (WO.nil ⟨rfl,rfl⟩)) (DT.r rfl rfl rfl (WO.go' rfl (WO.neg rfl (by unfold in64;omega) rfl (WO.nil ⟨rfl,rfl⟩))) ?_)))))
     refine DT.b rfl rfl rfl (WO.go' rfl (WO.callR rfl Tryz.call172 (fun L w hi=>c_by w ⟨u,v,0⟩ (-(siz (atS (sds rl) g1 0))) (hw.up (by omega) (by omega)) (by omega)) rfl (WO.nil ⟨rfl,rfl⟩))) (DT.r rfl rfl rfl (WO.go' rfl (WO.build rfl rfl rfl rfl rfl (WO.nil ⟨rfl,rfl⟩))) (DT.c [_,_,_,_,_,_] rfl rfl rfl rfl (WO.go' rfl (WO.buildSl rfl rfl rfl rfl rfl rfl rfl rfl rfl (fun v6=>?_)))))
     refine WO.nil ⟨_,[_],rfl,rfl,(Keep.r (Keep.b (Keep.r (Keep.r (Keep.b (Keep.b (Keep.r (Keep.b (Keep.r (Keep.r (Keep.b (Keep.b (Keep.b Keep.nil))))))))))))),?_⟩
     refine DT.f [_,_,_,_,_,_,_] rfl rfl rfl rfl (WO.go' rfl (WO.callR (r:=sdV (addS (byS (atS (sds rl) g1 0) (siz ⟨u,v,0⟩)) (byS ⟨u,v,0⟩ (-(siz (atS (sds rl) g1 0)))))) rfl Tryz.call171 (fun L w hi=>by have h:=c_sum w _ [byS (atS (sds rl) g1 0) (siz ⟨u,v,0⟩),byS ⟨u,v,0⟩ (-(siz (atS (sds rl) g1 0)))] (RdF.of_ow (e:=101) encSd_ok (by repeat exact .head) hi) (by simp) (all_twoS v0 v1);rw [addS_two] at h;exact h) rfl (WO.nil ⟨rfl,rfl⟩))) (DT.b rfl rfl rfl (WO.go' rfl (WO.callR rfl Tryz.call173 (fun L w hi=>c_flat w _) rfl (WO.nil ⟨rfl,rfl⟩))) (DT.nil [_,_,_,_,_,_,_] rfl (WO.go' rfl ?_)))
     refine WO.eqT rfl rfl (eq124z (addS (byS (atS (sds rl) g1 0) (siz ⟨u,v,0⟩)) (byS ⟨u,v,0⟩ (-(siz (atS (sds rl) g1 0))))).a (addS (byS (atS (sds rl) g1 0) (siz ⟨u,v,0⟩)) (byS ⟨u,v,0⟩ (-(siz (atS (sds rl) g1 0))))).b) rfl (WO.p rfl rfl (WO.nil ?_))
     refine W.cond_bl rfl (fun c4=>?_) (fun c4=>?_)
     ·have hml:=mstL_1 (p:=u) (q:=v) (show g1.length=1 by omega) ⟨by assumption,by assumption⟩
      refine W.chgE (all_open1 (b:=b4) (cs:=msts (sds rl) u v t) (by repeat first | exact .head | apply Pick.tail)) ?_
      rintro gv -
      refine W.chgE (all_open2 (b:=b4) (v:=gv) (cs:=msts (sds rl) u v t)) ?_
      rintro gxs hgx
      have hgl:gxs.length≤1000:=by have:=msts_len (sds rl) u v t;rw [← hgx,List.length_map] at this;omega
      refine W.drawD 8 [.b 0 [],.b 1 [],.r 2 [],.r 3 [],.r 4 [],.c 5 [],.c 6 [],.c 7 []] [] (A0:=[_]) (H0:=[_,_,_,_,_,_,_]) (.cons (Pick.tail .head) (.cons .head (.cons .head (.cons .head (.cons .head (.cons .head (.cons .head (.cons .head .nil)))))))) (by kernel_rfl) ?_ ?_
      ·repeat constructor
      refine DT.b rfl rfl rfl (WO.load rfl rfl (Cell.own Pick.head rfl) rfl (WO.nil ⟨rfl,rfl⟩)) (DT.b rfl rfl rfl (WO.load rfl rfl (Cell.own (Pick.tail (Pick.tail (Pick.tail (Pick.tail (Pick.tail (Pick.tail (Pick.head))))))) rfl) rfl (WO.nil ⟨rfl,rfl⟩)) (DT.r rfl rfl rfl (WO.p rfl rfl (WO.nil ⟨rfl,rfl⟩)) (DT.r rfl rfl rfl (WO.p rfl rfl (WO.nil ⟨rfl,rfl⟩)) (DT.r rfl rfl rfl (WO.p rfl rfl (WO.nil ⟨rfl,rfl⟩)) (DT.c [_,_,_,_,_,_,_,_] rfl rfl rfl rfl (WO.buildSl rfl rfl rfl rfl rfl rfl rfl rfl rfl (fun v7=>?_)))))))
      refine WO.nil ⟨_,[_,_],rfl,rfl,(Keep.r (Keep.r (Keep.r (Keep.b (Keep.b Keep.nil))))),?_⟩
      refine DT.c [_,_,_,_,_,_,_,_,_] rfl rfl rfl rfl (WO.call (Post:=fun r Hq=>∃ mb:Nat,r=mdV (.map (some mb)) (tkS (sds rl) g1 [siz ⟨u,v,0⟩] g1.length) (siz (atS (sds rl) g1 0))∧Hq=[pt mb (.map (tkL g1 [siz ⟨u,v,0⟩] g1.length).toArray g1.length)]) rfl Tryz.call195 (fun L w hi=>c_take w p rv sv rl (hT.later hi) hok _ _ g1 _ (siz (atS (sds rl) g1 0)) (RdF.of_ow (e:=3) encI_ok (by repeat first | exact .head | apply Pick.tail) hi) (RdF.of_ow (e:=2) (xs:=[siz ⟨u,v,0⟩]) encI_ok (by repeat exact .head) hi) hgr.rng hgr.nd (by show 1=_;omega) hgr.len.2 (fun y hy=>by simp at hy;subst hy;omega)) rfl ?_)
      rintro _ _ ⟨mb,rfl,rfl⟩
      refine WO.nil ⟨_,[_,_,_],rfl,rfl,(Keep.c (Keep.r (Keep.r (Keep.r (Keep.b (Keep.b Keep.nil)))))),?_⟩
      refine DT.c [_,_,_,_,_,_,_,_,_,_] rfl rfl rfl rfl (WO.buildSl rfl rfl rfl rfl rfl rfl rfl rfl rfl (fun v8=>?_))
      refine WO.nil ⟨_,[_,_,_,_],rfl,rfl,(Keep.c (Keep.c (Keep.r (Keep.r (Keep.r (Keep.b (Keep.b Keep.nil))))))),?_⟩
      refine DT.nil [_,_,_,_,_,_,_,_,_,_,_] rfl ?_
      refine' WO.appendE (enc:=encMd) (m:=1) (xs:=gxs) (ys:=[(mb,tkS (sds rl) g1 [siz ⟨u,v,0⟩] g1.length,siz (atS (sds rl) g1 0))]) encMd_ok rfl rfl rfl rfl rfl (by repeat first | exact .head | apply Pick.tail) (isSl_lit (by omega) (fun _=>⟨_,_,rfl⟩)) (by omega) rfl (OwC.cells .head) (by omega) (by omega) rfl (fun g c=>?_)
      refine WO.store1 rfl rfl rfl (by rfl) (Pick.tail (Pick.tail (Pick.tail (Pick.tail (Pick.head))))) rfl (WO.nil (W.exit (blk_same (endR.go (bl_t.2 hlt) ?_))))
      (rw [msts_succ hx,hml];exact all_pack (by repeat (first | exact Sub.nil | refine Sub.cons (by repeat first | exact .head | apply Pick.tail) ?_)) (by rw [List.map_append,hgx];rfl))
     ·refine W.skip (W.exit (blk_same (endR.go (bl_t.2 hlt) ?_)))
      (rw [msts_succ hx,mstL_1n (by omega) (fun q=>by exact absurd q.2 (by assumption)),List.append_nil];exact fun h hs=>Sub.sat (by repeat (first | exact Sub.nil | refine Sub.cons (by repeat first | exact .head | apply Pick.tail) ?_)) hs)
    ·refine DT.b rfl rfl rfl (WO.no rfl rfl (WO.nil ⟨rfl,rfl⟩)) (DT.r rfl rfl rfl (WO.no rfl rfl (WO.nil ⟨rfl,rfl⟩)) (DT.b rfl rfl rfl (WO.no rfl rfl (WO.nil ⟨rfl,rfl⟩)) (DT.b rfl rfl rfl (WO.no rfl rfl (WO.nil ⟨rfl,rfl⟩)) (DT.r rfl rfl rfl (WO.no rfl rfl (WO.nil ⟨rfl,rfl⟩)) (DT.r rfl rfl rfl (WO.no rfl rfl (WO.nil ⟨rfl,rfl⟩)) (DT.b rfl rfl rfl (WO.no rfl rfl (WO.nil ⟨rfl,rfl⟩)) (DT.r rfl rfl rfl (WO.no rfl rfl (WO.nil ⟨rfl,rfl⟩)) (DT.c [_,_,_,_,_,_] rfl rfl rfl rfl (WO.no rfl rfl ?_)))))))))
     refine WO.nil ⟨_,[],rfl,rfl,(Keep.r (Keep.b (Keep.r (Keep.r (Keep.b (Keep.b (Keep.r (Keep.b (Keep.r (Keep.r (Keep.b (Keep.b (Keep.b Keep.nil))))))))))))),?_⟩
     refine DT.f [_,_,_,_,_,_] rfl rfl rfl rfl (WO.no rfl rfl (WO.nil ⟨rfl,rfl⟩)) (DT.b rfl rfl rfl (WO.no rfl rfl (WO.nil ⟨rfl,rfl⟩)) (DT.nil [_,_,_,_,_,_] rfl (WO.no rfl rfl (WO.p rfl rfl (WO.nil (W.cond_f rfl (W.skip (W.exit (blk_same (endR.go (bl_t.2 hlt) ?_))))))))))
     (rw [msts_succ hx,mstL_1n (by omega) (fun q=>by exact absurd q.1 (by assumption)),List.append_nil];exact fun h hs=>Sub.sat (by repeat (first | exact Sub.nil | refine Sub.cons (by repeat first | exact .head | apply Pick.tail) ?_)) hs)
   ·refine W.skip (W.seq ?_)
    have h1:=hgr.rng _ (getD_mem (show 1<g1.length by omega) 0)
    have s1:OkS 20 100000 (atS (sds rl) g1 1):=hS _ (getD_mem (show (g1.getD 1 0).toNat<(sds rl).length by omega) sd0)
    have u1:=s1.up (A':=20) (B':=1000000) (by omega) (by omega)
    have d1:=(crs_bd u0 u1).2.2
    have d2:=(crs_bd hw u1).2.2
    have d3:=(crs_bd u0 hw).2.2
    refine W.drawD 10 [.b 0 [],.r 1 [],.r 2 [],.b 3 [],.r 4 [],.r 5 [],.b 6 [],.r 7 [],.b 8 [],.a 9 14 (.cells #[.int .i64 0,.int .i64 0,.int .i64 0] 101 (0,0))] [] (A0:=[]) (Sub.refl _) (by kernel_rfl) ?_ ?_
    ·exact (ALok.b (ALok.r (ALok.r (ALok.b (ALok.r (ALok.r (ALok.b (ALok.r (ALok.b (ALok.cons rfl rfl rfl rfl rfl ALok.nil))))))))))
    refine DT.b rfl rfl rfl (WO.load rfl rfl (Cell.own (Pick.tail (Pick.tail (Pick.tail (Pick.tail (Pick.tail (Pick.head)))))) rfl) rfl (WO.nil ⟨rfl,rfl⟩)) (DT.r rfl rfl rfl (WO.p rfl rfl (WO.nil ⟨rfl,rfl⟩)) (DT.r rfl rfl rfl (WO.field rfl rfl rfl (WO.nil ⟨rfl,rfl⟩)) ?_))
    refine' DT.b rfl rfl rfl ?hq ?_
    case hq =>
     refine' WO.load (v:=_) rfl rfl ?hc rfl ?_
     case hc=>((refine RdC.cellAt hT.c (j:=1) ?_;rfl))
     exact WO.nil ⟨rfl,rfl⟩
    refine DT.r rfl rfl rfl (WO.p rfl rfl (WO.nil ⟨rfl,rfl⟩)) (DT.r rfl rfl rfl (WO.indexAddr (i:=1) rfl rfl rfl hgsl (by omega) rfl (WO.nil ⟨rfl,rfl⟩)) ?_)
    refine' DT.b rfl rfl rfl ?hq ?_
    case hq =>
     refine' WO.load (v:=_) rfl rfl ?hc rfl ?_
     case hc=>(first | (refine OwE.cell0 (enc:=encI) (e:=3) (sz:=1) (xs:=g1) (i:=1) encI_ok (by repeat first | exact .head | apply Pick.tail) (by omega) 0 ?_;rfl))
     exact WO.nil ⟨rfl,rfl⟩
    refine' DT.r rfl rfl rfl ?hq ?_
    case hq =>
     refine' WO.indexAddrZ (n:=_) rfl rfl rfl ?hs ?h00 ?h1 rfl ?_
     case hs=>exact hT.s.sl
     case h00=>omega
     case h1=>(omega)
     exact WO.nil ⟨rfl,rfl⟩
    refine' DT.b rfl rfl rfl ?hq ?_
    case hq =>
     refine' WO.loadA (vs:=_) rfl rfl ?hc ?hl rfl ?_
     case hc=>((refine RdF.cellsT ?_ h1.1 h1.2 rfl;exact hT.s))
     case hl=>rfl
     exact WO.nil ⟨rfl,rfl⟩
    refine DT.a (fun b9=>(DT.nil [_,_,_,_,_,_,_] rfl (WO.storeA rfl rfl rfl rfl Pick.head rfl rfl (WO.nil (W.sreg (WO.loadA rfl rfl (Cells.own (Pick.tail (Pick.head))) rfl rfl (WO.p rfl rfl (WO.p rfl rfl (WO.nil (W.sreg (WO.p rfl rfl (WO.loadA rfl rfl (Cells.own Pick.head) rfl rfl (WO.callCR (first:=[sdV (atS (sds rl) g1 0)]) (captured:=[]) rfl rfl Tryz.call194 (fun L w hi=>c_cross w (atS (sds rl) g1 0) (atS (sds rl) g1 1) u0 u1) rfl (WO.p rfl rfl (WO.nil (W.seq ?_))))))))))))))))
    refine W.drawD 5 [.b 0 [],.b 1 [],.b 2 [],.r 3 [],.b 4 []] [] (A0:=[]) (Sub.refl _) (by kernel_rfl) ?_ ?_
    ·repeat constructor
    refine DT.b rfl rfl rfl (WO.loadA rfl rfl (Cells.own (Pick.tail (Pick.tail (Pick.tail (Pick.tail (Pick.head)))))) rfl rfl (WO.nil ⟨rfl,rfl⟩)) (DT.b rfl rfl rfl (WO.loadA rfl rfl (Cells.own Pick.head) rfl rfl (WO.nil ⟨rfl,rfl⟩)) (DT.b rfl rfl rfl (WO.callR rfl Tryz.call194 (fun L w hi=>c_cross w ⟨u,v,0⟩ (atS (sds rl) g1 1) hw u1) rfl (WO.nil ⟨rfl,rfl⟩)) (DT.r rfl rfl rfl (WO.p rfl rfl (WO.nil ⟨rfl,rfl⟩)) (DT.b rfl rfl rfl (WO.loadA rfl rfl (Cells.own (Pick.tail (Pick.tail (Pick.tail (Pick.tail (Pick.head)))))) rfl rfl (WO.nil ⟨rfl,rfl⟩)) (DT.nil [_,_,_,_,_,_,_] rfl ?_)))))
    refine WO.callCR (first:=[sdV (atS (sds rl) g1 0)]) (captured:=[]) rfl rfl Tryz.call194 (fun L w hi=>c_cross w (atS (sds rl) g1 0) ⟨u,v,0⟩ u0 hw) rfl (WO.p rfl rfl (WO.p rfl rfl (WO.nil (W.seq (W.sreg (WO.p rfl rfl (WO.p rfl rfl (WO.nil ?_))))))))
    refine W.cond_bl rfl (fun c5=>?_) (fun c5=>?_)
    ·refine W.region (WO.p rfl rfl (WO.neg rfl (by unfold in64;omega) rfl (WO.p rfl rfl (WO.neg rfl (by unfold in64;omega) rfl (WO.p rfl rfl (WO.neg rfl (by unfold in64;omega) rfl (WO.p rfl rfl (WO.p rfl rfl (WO.p rfl rfl (WO.nil (W.sreg (WO.p rfl rfl (WO.p rfl rfl (WO.p rfl rfl ?_))))))))))))))
     refine WO.guard_bl rfl rfl (fun c6=>?_) (fun c6=>?_)
     ·refine WO.pg rfl rfl rfl (WO.pg rfl rfl rfl (WO.p rfl rfl (WO.p rfl rfl ?_)))
      refine WO.guard_bl rfl rfl (fun c7=>?_) (fun c7=>?_)
      ·refine WO.pg rfl rfl rfl (WO.pg rfl rfl rfl (WO.p rfl rfl (WO.nil ?_)))
       refine W.cond_bl rfl (fun c8=>?_) (fun c8=>?_)
       ·(have hml:=(mstL_2 (S:=sds rl) (p:=u) (q:=v) (g:=g1) (d := -(crs (atS (sds rl) g1 0) (atS (sds rl) g1 1))) (x := -(crs ⟨u,v,0⟩ (atS (sds rl) g1 1))) (y := -(crs (atS (sds rl) g1 0) ⟨u,v,0⟩)) (by omega) (.inl ⟨by assumption,rfl,rfl,rfl⟩)).trans (if_pos ⟨by assumption,by assumption,by assumption⟩);have hneg:True:=trivial)
        refine W.chgE (all_open1 (b:=b4) (cs:=msts (sds rl) u v t) (by repeat first | exact .head | apply Pick.tail)) ?_
        rintro gv -
        refine W.chgE (all_open2 (b:=b4) (v:=gv) (cs:=msts (sds rl) u v t)) ?_
        rintro gxs hgx
        have hgl:gxs.length≤1000:=by have:=msts_len (sds rl) u v t;rw [← hgx,List.length_map] at this;omega
        refine W.drawD 9 [.b 0 [],.b 1 [],.r 2 [],.r 3 [],.r 4 [],.r 5 [],.c 6 [],.c 7 [],.c 8 []] [] (A0:=[_]) (H0:=[_,_,_,_,_,_,_]) (.cons (Pick.tail .head) (.cons .head (.cons .head (.cons .head (.cons .head (.cons .head (.cons .head (.cons .head .nil)))))))) (by kernel_rfl) ?_ ?_
        ·repeat constructor
        refine DT.b rfl rfl rfl (WO.load rfl rfl (Cell.own Pick.head rfl) rfl (WO.nil ⟨rfl,rfl⟩)) (DT.b rfl rfl rfl (WO.load rfl rfl (Cell.own (Pick.tail (Pick.tail (Pick.tail (Pick.tail (Pick.tail (Pick.tail (Pick.head))))))) rfl) rfl (WO.nil ⟨rfl,rfl⟩)) (DT.r rfl rfl rfl (WO.p rfl rfl (WO.nil ⟨rfl,rfl⟩)) (DT.r rfl rfl rfl (WO.p rfl rfl (WO.nil ⟨rfl,rfl⟩)) (DT.r rfl rfl rfl (WO.p rfl rfl (WO.nil ⟨rfl,rfl⟩)) (DT.r rfl rfl rfl (WO.p rfl rfl (WO.nil ⟨rfl,rfl⟩)) (DT.c [_,_,_,_,_,_,_,_] rfl rfl rfl rfl (WO.buildSl rfl rfl rfl rfl rfl rfl rfl rfl rfl (fun v10=>?_))))))))
        refine WO.nil ⟨_,[_,_],rfl,rfl,(Keep.r (Keep.r (Keep.r (Keep.r (Keep.b (Keep.b Keep.nil)))))),?_⟩
        refine DT.c [_,_,_,_,_,_,_,_,_] rfl rfl rfl rfl ?_
        (have q:=hneg;clear q;refine WO.call (Post:=fun r Hq=>∃ mb:Nat,r=mdV (.map (some mb)) (tkS (sds rl) g1 [-(crs ⟨u,v,0⟩ (atS (sds rl) g1 1)),-(crs (atS (sds rl) g1 0) ⟨u,v,0⟩)] g1.length) (-(crs (atS (sds rl) g1 0) (atS (sds rl) g1 1)))∧Hq=[pt mb (.map (tkL g1 [-(crs ⟨u,v,0⟩ (atS (sds rl) g1 1)),-(crs (atS (sds rl) g1 0) ⟨u,v,0⟩)] g1.length).toArray g1.length)]) rfl Tryz.call195 (fun L w hi=>c_take w p rv sv rl (hT.later hi) hok _ _ g1 _ _ (RdF.of_ow (e:=3) encI_ok (by repeat first | exact .head | apply Pick.tail) hi) (RdF.of_ow (e:=2) (xs:=[-(crs ⟨u,v,0⟩ (atS (sds rl) g1 1)),-(crs (atS (sds rl) g1 0) ⟨u,v,0⟩)]) encI_ok (by repeat exact .head) hi) hgr.rng hgr.nd (by show 2=_;omega) hgr.len.2 (y2_bd (by omega) (by omega))) rfl ?_)
        rintro _ _ ⟨mb,rfl,rfl⟩
        refine WO.nil ⟨_,[_,_,_],rfl,rfl,(Keep.c (Keep.r (Keep.r (Keep.r (Keep.r (Keep.b (Keep.b Keep.nil))))))),?_⟩
        refine DT.c [_,_,_,_,_,_,_,_,_,_] rfl rfl rfl rfl (WO.buildSl rfl rfl rfl rfl rfl rfl rfl rfl rfl (fun v11=>?_))
        refine WO.nil ⟨_,[_,_,_,_],rfl,rfl,(Keep.c (Keep.c (Keep.r (Keep.r (Keep.r (Keep.r (Keep.b (Keep.b Keep.nil)))))))),?_⟩
        refine DT.nil [_,_,_,_,_,_,_,_,_,_,_] rfl ?_
        (have q:=hneg;clear q;refine' WO.appendE (enc:=encMd) (m:=1) (xs:=gxs) (ys:=[(mb,tkS (sds rl) g1 [-(crs ⟨u,v,0⟩ (atS (sds rl) g1 1)),-(crs (atS (sds rl) g1 0) ⟨u,v,0⟩)] g1.length,-(crs (atS (sds rl) g1 0) (atS (sds rl) g1 1)))]) encMd_ok rfl rfl rfl rfl rfl (by repeat first | exact .head | apply Pick.tail) (isSl_lit (by omega) (fun _=>⟨_,_,rfl⟩)) (by omega) rfl (OwC.cells .head) (by omega) (by omega) rfl (fun g c=>?_))
        refine WO.store1 rfl rfl rfl (by rfl) (Pick.tail (Pick.tail (Pick.tail (Pick.tail (Pick.head))))) rfl (WO.nil (endR.go (bl_t.2 hlt) ?_))
        (rw [msts_succ hx,hml];exact all_pack (by repeat (first | exact Sub.nil | refine Sub.cons (by repeat first | exact .head | apply Pick.tail) ?_)) (by rw [List.map_append,hgx];rfl))
       ·refine W.skip (endR.go (bl_t.2 hlt) ?_)
        (rw [msts_succ hx,mstL_2 (d := -(crs (atS (sds rl) g1 0) (atS (sds rl) g1 1))) (x := -(crs ⟨u,v,0⟩ (atS (sds rl) g1 1))) (y := -(crs (atS (sds rl) g1 0) ⟨u,v,0⟩)) (by omega) (.inl ⟨by assumption,rfl,rfl,rfl⟩),if_neg (by omega),List.append_nil];exact fun h hs=>Sub.sat (by repeat (first | exact Sub.nil | refine Sub.cons (by repeat first | exact .head | apply Pick.tail) ?_)) hs)
      ·refine WO.no rfl rfl (WO.no rfl rfl (WO.p rfl rfl (WO.nil (W.cond_f rfl (W.skip (endR.go (bl_t.2 hlt) ?_))))))
       (rw [msts_succ hx,mstL_2 (d := -(crs (atS (sds rl) g1 0) (atS (sds rl) g1 1))) (x := -(crs ⟨u,v,0⟩ (atS (sds rl) g1 1))) (y := -(crs (atS (sds rl) g1 0) ⟨u,v,0⟩)) (by omega) (.inl ⟨by assumption,rfl,rfl,rfl⟩),if_neg (by omega),List.append_nil];exact fun h hs=>Sub.sat (by repeat (first | exact Sub.nil | refine Sub.cons (by repeat first | exact .head | apply Pick.tail) ?_)) hs)
     ·exfalso;omega
    ·refine W.skip (W.sreg (WO.p rfl rfl (WO.p rfl rfl (WO.p rfl rfl ?_))))
     refine WO.guard_bl rfl rfl (fun c9=>?_) (fun c9=>?_)
     ·refine WO.pg rfl rfl rfl (WO.pg rfl rfl rfl (WO.p rfl rfl (WO.p rfl rfl ?_)))
      refine WO.guard_bl rfl rfl (fun c10=>?_) (fun c10=>?_)
      ·refine WO.pg rfl rfl rfl (WO.pg rfl rfl rfl (WO.p rfl rfl (WO.nil ?_)))
       refine W.cond_bl rfl (fun c11=>?_) (fun c11=>?_)
       ·(have hml:=(mstL_2 (S:=sds rl) (p:=u) (q:=v) (g:=g1) (d:=crs (atS (sds rl) g1 0) (atS (sds rl) g1 1)) (x:=crs ⟨u,v,0⟩ (atS (sds rl) g1 1)) (y:=crs (atS (sds rl) g1 0) ⟨u,v,0⟩) (by omega) (.inr ⟨by assumption,rfl,rfl,rfl⟩)).trans (if_pos ⟨by assumption,by assumption,by assumption⟩);have hpos:True:=trivial)
        refine W.chgE (all_open1 (b:=b4) (cs:=msts (sds rl) u v t) (by repeat first | exact .head | apply Pick.tail)) ?_
        rintro gv -
        refine W.chgE (all_open2 (b:=b4) (v:=gv) (cs:=msts (sds rl) u v t)) ?_
        rintro gxs hgx
        have hgl:gxs.length≤1000:=by have:=msts_len (sds rl) u v t;rw [← hgx,List.length_map] at this;omega
        refine W.drawD 9 [.b 0 [],.b 1 [],.r 2 [],.r 3 [],.r 4 [],.r 5 [],.c 6 [],.c 7 [],.c 8 []] [] (A0:=[_]) (H0:=[_,_,_,_,_,_,_]) (.cons (Pick.tail .head) (.cons .head (.cons .head (.cons .head (.cons .head (.cons .head (.cons .head (.cons .head .nil)))))))) (by kernel_rfl) ?_ ?_
        ·repeat constructor
        refine DT.b rfl rfl rfl (WO.load rfl rfl (Cell.own Pick.head rfl) rfl (WO.nil ⟨rfl,rfl⟩)) (DT.b rfl rfl rfl (WO.load rfl rfl (Cell.own (Pick.tail (Pick.tail (Pick.tail (Pick.tail (Pick.tail (Pick.tail (Pick.head))))))) rfl) rfl (WO.nil ⟨rfl,rfl⟩)) (DT.r rfl rfl rfl (WO.p rfl rfl (WO.nil ⟨rfl,rfl⟩)) (DT.r rfl rfl rfl (WO.p rfl rfl (WO.nil ⟨rfl,rfl⟩)) (DT.r rfl rfl rfl (WO.p rfl rfl (WO.nil ⟨rfl,rfl⟩)) (DT.r rfl rfl rfl (WO.p rfl rfl (WO.nil ⟨rfl,rfl⟩)) (DT.c [_,_,_,_,_,_,_,_] rfl rfl rfl rfl (WO.buildSl rfl rfl rfl rfl rfl rfl rfl rfl rfl (fun v12=>?_))))))))
        refine WO.nil ⟨_,[_,_],rfl,rfl,(Keep.r (Keep.r (Keep.r (Keep.r (Keep.b (Keep.b Keep.nil)))))),?_⟩
        refine DT.c [_,_,_,_,_,_,_,_,_] rfl rfl rfl rfl ?_
        (have q:=hpos;clear q;refine WO.call (Post:=fun r Hq=>∃ mb:Nat,r=mdV (.map (some mb)) (tkS (sds rl) g1 [crs ⟨u,v,0⟩ (atS (sds rl) g1 1),crs (atS (sds rl) g1 0) ⟨u,v,0⟩] g1.length) (crs (atS (sds rl) g1 0) (atS (sds rl) g1 1))∧Hq=[pt mb (.map (tkL g1 [crs ⟨u,v,0⟩ (atS (sds rl) g1 1),crs (atS (sds rl) g1 0) ⟨u,v,0⟩] g1.length).toArray g1.length)]) rfl Tryz.call195 (fun L w hi=>c_take w p rv sv rl (hT.later hi) hok _ _ g1 _ _ (RdF.of_ow (e:=3) encI_ok (by repeat first | exact .head | apply Pick.tail) hi) (RdF.of_ow (e:=2) (xs:=[crs ⟨u,v,0⟩ (atS (sds rl) g1 1),crs (atS (sds rl) g1 0) ⟨u,v,0⟩]) encI_ok (by repeat exact .head) hi) hgr.rng hgr.nd (by show 2=_;omega) hgr.len.2 (y2_bd (by omega) (by omega))) rfl ?_)
        rintro _ _ ⟨mb,rfl,rfl⟩
        refine WO.nil ⟨_,[_,_,_],rfl,rfl,(Keep.c (Keep.r (Keep.r (Keep.r (Keep.r (Keep.b (Keep.b Keep.nil))))))),?_⟩
        refine DT.c [_,_,_,_,_,_,_,_,_,_] rfl rfl rfl rfl (WO.buildSl rfl rfl rfl rfl rfl rfl rfl rfl rfl (fun v13=>?_))
        refine WO.nil ⟨_,[_,_,_,_],rfl,rfl,(Keep.c (Keep.c (Keep.r (Keep.r (Keep.r (Keep.r (Keep.b (Keep.b Keep.nil)))))))),?_⟩
        refine DT.nil [_,_,_,_,_,_,_,_,_,_,_] rfl ?_
        (have q:=hpos;clear q;refine' WO.appendE (enc:=encMd) (m:=1) (xs:=gxs) (ys:=[(mb,tkS (sds rl) g1 [crs ⟨u,v,0⟩ (atS (sds rl) g1 1),crs (atS (sds rl) g1 0) ⟨u,v,0⟩] g1.length,crs (atS (sds rl) g1 0) (atS (sds rl) g1 1))]) encMd_ok rfl rfl rfl rfl rfl (by repeat first | exact .head | apply Pick.tail) (isSl_lit (by omega) (fun _=>⟨_,_,rfl⟩)) (by omega) rfl (OwC.cells .head) (by omega) (by omega) rfl (fun g c=>?_))
        refine WO.store1 rfl rfl rfl (by rfl) (Pick.tail (Pick.tail (Pick.tail (Pick.tail (Pick.head))))) rfl (WO.nil (endR.go (bl_t.2 hlt) ?_))
        (rw [msts_succ hx,hml];exact all_pack (by repeat (first | exact Sub.nil | refine Sub.cons (by repeat first | exact .head | apply Pick.tail) ?_)) (by rw [List.map_append,hgx];rfl))
       ·refine W.skip (endR.go (bl_t.2 hlt) ?_)
        (rw [msts_succ hx,mstL_2 (d:=crs (atS (sds rl) g1 0) (atS (sds rl) g1 1)) (x:=crs ⟨u,v,0⟩ (atS (sds rl) g1 1)) (y:=crs (atS (sds rl) g1 0) ⟨u,v,0⟩) (by omega) (.inr ⟨by assumption,rfl,rfl,rfl⟩),if_neg (by omega),List.append_nil];exact fun h hs=>Sub.sat (by repeat (first | exact Sub.nil | refine Sub.cons (by repeat first | exact .head | apply Pick.tail) ?_)) hs)
      ·refine WO.no rfl rfl (WO.no rfl rfl (WO.p rfl rfl (WO.nil (W.cond_f rfl (W.skip (endR.go (bl_t.2 hlt) ?_))))))
       (rw [msts_succ hx,mstL_2 (d:=crs (atS (sds rl) g1 0) (atS (sds rl) g1 1)) (x:=crs ⟨u,v,0⟩ (atS (sds rl) g1 1)) (y:=crs (atS (sds rl) g1 0) ⟨u,v,0⟩) (by omega) (.inr ⟨by assumption,rfl,rfl,rfl⟩),if_neg (by omega),List.append_nil];exact fun h hs=>Sub.sat (by repeat (first | exact Sub.nil | refine Sub.cons (by repeat first | exact .head | apply Pick.tail) ?_)) hs)
     ·refine WO.no rfl rfl (WO.no rfl rfl (WO.p rfl rfl (WO.p rfl rfl (WO.no rfl rfl (WO.no rfl rfl (WO.p rfl rfl (WO.nil (W.cond_f rfl (W.skip (endR.go (bl_t.2 hlt) ?_))))))))))
      (rw [msts_succ hx,mstL_2 (d:=crs (atS (sds rl) g1 0) (atS (sds rl) g1 1)) (x:=crs ⟨u,v,0⟩ (atS (sds rl) g1 1)) (y:=crs (atS (sds rl) g1 0) ⟨u,v,0⟩) (by omega) (.inr ⟨by assumption,rfl,rfl,rfl⟩),if_neg (by omega),List.append_nil];exact fun h hs=>Sub.sat (by repeat (first | exact Sub.nil | refine Sub.cons (by repeat first | exact .head | apply Pick.tail) ?_)) hs)
  ·intro hAll
   rw [msts_end]
   refine W.seq (W.chgE (all_open1 (b:=b4) (cs:=mstA (sds rl) u v) (by repeat first | exact .head | apply Pick.tail)) ?_)
   rintro gv -
   refine W.chgE (all_open2 (b:=b4) (v:=gv) (cs:=mstA (sds rl) u v)) ?_
   rintro gxs hgx
   refine W.fact (OwE.formCap (enc:=encMd) (e:=103) (sz:=5) (v:=gv) (xs:=gxs) (by repeat first | exact .head | apply Pick.tail)) (fun hfc=>?_)
   obtain ⟨ga,gc,rfl,hgc⟩:=hfc
   refine W.fact (OwE.sl (enc:=encMd) (e:=103) (sz:=5) (v:=.slice ga gxs.length gc) (xs:=gxs) (by repeat first | exact .head | apply Pick.tail)) (fun hgs=>?_)
   have hgk:∀ y∈gxs,OkM y.2:=fun y hy=>mstA_ok hS (sds_nz hok) hu hv _ (hgx▸List.mem_map_of_mem hy)
   refine W.sreg (WO.load rfl rfl (Cell.own Pick.head rfl) rfl (WO.len rfl rfl hgs rfl (WO.p rfl rfl (WO.nil ?_))))
   refine W.cond_bl rfl (fun c12=>?_) (fun c12=>?_)
   ·refine W.sreg (WO.build rfl rfl rfl rfl rfl (WO.storeA rfl rfl rfl rfl (Pick.tail (Pick.tail (Pick.tail (Pick.tail (Pick.tail (Pick.head)))))) rfl rfl (WO.p rfl rfl (WO.nil (W.ret ?_)))))
    (have hz:mstA (sds rl) u v=[]:=(by rw [← hgx];exact List.map_eq_nil_iff.2 (List.eq_nil_of_length_eq_zero (by omega)));have hb:¬ Bnd (sds rl) u v:=fun q=>q.elim (fun q=>by omega) (fun q=>q hz);exact fin.ret (Res.two rfl (RV.cell rfl rfl rfl (Cells.own (by repeat exact .head))) (RV.tmp rfl)) ⟨none,sd0,0,by rw [bl_f.2 hb] <;> rfl,fun q=>absurd q hb⟩)
   ·refine W.skip (W.sreg (WO.load rfl rfl (Cell.own Pick.head rfl) rfl (WO.callE rfl Tryz.call196 (fun L w hi=>c_first w ga gc gxs (RdF.of_ow (e:=103) encMd_ok (by repeat first | exact .head | apply Pick.tail) hi) hgc (by omega) hgk) rfl ?_)))
    rintro _ ⟨y,hy,rfl⟩
    refine WO.storeA rfl rfl rfl rfl (Pick.tail (Pick.tail (Pick.tail (Pick.tail (Pick.tail (Pick.head)))))) rfl rfl (WO.p rfl rfl (WO.nil (W.ret ?_)))
    (have q:=hy;exact fin.ret (Res.two rfl (RV.cell rfl rfl rfl (Cells.own (by repeat exact .head))) (RV.tmp rfl)) ⟨some y.1,y.2.1,y.2.2,by rw [bl_t.2 (show Bnd (sds rl) u v from .inr (fun e=>by rw [e] at hgx;have hz:=congrArg List.length hgx;rw [List.length_map] at hz;exact absurd hz (by show ¬ (gxs.length=0);omega)))] <;> rfl,fun _=>firstM_most (by omega) hgx hy⟩)
  ·intro hStop
   exfalso;omega
end Go.Proofs.YtfchgmiiicidcaaGreat.Sp
namespace Go.Proofs.YtfchgmiiicidcaaGreat.Sp
open Go Go.TH
attribute [local irreducible] W WO pt
set_option maxRecDepth 10000
set_option maxHeartbeats 2000000
def leE (l:List Rn) (p q:Int):Int:=if chkA l p q≠0 then chkA l p q else if Dbt (sds l) then 20 else if Bnd (sds l) p q then 0 else 5
theorem leE_1 {l:List Rn} {p q:Int} (h:chkA l p q≠0):leE l p q=chkA l p q:=by unfold leE;rw [if_pos h]
theorem leE_20 {l:List Rn} {p q:Int} (h:¬ chkA l p q≠0) (g:Dbt (sds l)):leE l p q=20:=by unfold leE;rw [if_neg h,if_pos g]
theorem leE_5 {l:List Rn} {p q:Int} (h:¬ chkA l p q≠0) (g:¬ Dbt (sds l)) (b:¬ Bnd (sds l) p q):leE l p q=5:=by unfold leE;rw [if_neg h,if_neg g,if_neg b]
theorem leE_0 {l:List Rn} {p q:Int} (h:¬ chkA l p q≠0) (g:¬ Dbt (sds l)) (b:Bnd (sds l) p q):leE l p q=0:=by unfold leE;rw [if_neg h,if_neg g,if_pos b]
def BestR (l:List Rn) (p q:Int) (r:Value):Prop:=∃ (m:Option Nat) (s:Sd) (t:Int),r=.tuple #[mdV (.map m) s t,.int .i64 (leE l p q)]∧(leE l p q=0→MostI (sds l) p q (s,t))
theorem c_best (w:World) (v:Value) (l:List Rn) (p q:Int) (hR:RdF encRn 4 w.heap.size w v l):RetE Tryz.prog 39 [v,.int .i64 p,.int .i64 q].toArray w (BestR l p q):=by
 refine RetE.of mixed tyTab Tryz.func39 rfl rfl ?_
 replace hR:RdF encRn 4 (fnCx mixed tyTab Tryz.f39.ntmps w).B (fnCx mixed tyTab Tryz.f39.ntmps w).w0 v l:=hR
 refine W.sreg (WO.alloc rfl rfl rfl (fun b1 hb1=>(WO.p rfl rfl (WO.nil (W.seq (W.sreg (WO.p rfl rfl (WO.p rfl rfl (WO.p rfl rfl (WO.callR rfl Tryz.call103 (fun L w hi=>c_check w v l p q (hR.later hi)) rfl (WO.p rfl rfl (WO.nil (W.sreg (WO.p rfl rfl (WO.p rfl rfl (WO.nil ?_))))))))))))))))
 refine W.cond_bl rfl (fun c1=>?_) (fun c1=>?_)
 ·refine W.sreg (WO.build rfl rfl rfl rfl rfl (WO.p rfl rfl (WO.storeA rfl rfl rfl rfl Pick.head rfl rfl (WO.p rfl rfl (WO.nil (W.ret ?_))))))
  first
  | exact fin.ret (Res.two rfl (RV.cell rfl rfl rfl (Cells.own (by repeat exact .head))) (RV.tmp rfl)) ⟨none,sd0,0,by rw [leE_1 (by assumption)] <;> rfl,fun e=>by rw [leE_1 (by assumption)] at e;omega⟩
  | exact fin.ret (Res.two rfl (RV.cell rfl rfl rfl (Cells.own (by repeat first | exact .head | apply Pick.tail))) (RV.tmp rfl)) ⟨none,sd0,0,by rw [leE_20 (by assumption) (by assumption)] <;> rfl,fun e=>by rw [leE_20 (by assumption) (by assumption)] at e;omega⟩
  | exact fin.ret (Res.two rfl (RV.cell rfl rfl rfl (Cells.own (by repeat first | exact .head | apply Pick.tail))) (RV.tmp rfl)) ⟨none,sd0,0,by rw [leE_5 (by assumption) (by assumption) (by assumption)] <;> rfl,fun e=>by rw [leE_5 (by assumption) (by assumption) (by assumption)] at e;omega⟩
  | exact fin.ret (Res.two rfl (RV.cell rfl rfl rfl (Cells.own (by repeat first | exact .head | apply Pick.tail))) (RV.tmp rfl)) ⟨mq,ms,mt,by rw [leE_0 (by assumption) (by assumption) (by assumption)],fun _=>hms (by assumption)⟩
 ·refine W.skip (W.sreg (WO.p rfl rfl ?_))
  have hrs:=chkRs0.1 (chkA0.1 (show chkA l p q=0 by omega)).1
  have hpq:=(chkA0.1 (show chkA l p q=0 by omega)).2
  refine WO.call (Post:=fun u Hq=>∃ (b:Nat) (rv sv:Value),u=.pointer (some ⟨b,0,none⟩)∧Hq=[pt b (.cells #[rv,sv] 287 (0,0)),OwE encPr 262 10 rv l,OwE encSd 101 3 sv (sds l)]) rfl Tryz.call104 (fun L w hi=>c_newTable w v l (hR.later hi) hrs.2 hrs.1) rfl ?_
  rintro _ _ ⟨tb,rv,sv,rfl,rfl⟩
  refine WO.p rfl rfl (WO.nil (W.seq (W.sreg (WO.p rfl rfl (WO.call (Post:=fun u Hq=>∃ mb:Nat,u=.tuple #[mdV (.map (dbQ (sds l) mb)) (dbS (sds l)) (dbT (sds l)),.bool (bl (Dbt (sds l)))]∧Hq=[dbP (sds l) mb]) rfl Tryz.call105 (fun L w hi=>c_doubt w ⟨tb,0,none⟩ rv sv l (Tbl.own (b:=tb) (by repeat exact .head) (by repeat first | exact .head | apply Pick.tail) (by repeat first | exact .head | apply Pick.tail) hi) hrs.2 hrs.1) rfl ?_)))))
  rintro _ _ ⟨mb,rfl,rfl⟩
  refine WO.p rfl rfl (WO.p rfl rfl (WO.extract (i:=1) rfl rfl rfl (WO.alloc rfl rfl rfl (fun b2 hb2=>(WO.storeA rfl rfl rfl rfl Pick.head rfl rfl (WO.p rfl rfl (WO.nil (W.sreg (WO.p rfl rfl (WO.nil ?_))))))))))
  refine W.cond_bl rfl (fun c2=>?_) (fun c2=>?_)
  ·refine W.sreg (WO.build rfl rfl rfl rfl rfl (WO.storeA rfl rfl rfl rfl (Pick.tail (Pick.tail (Pick.tail (Pick.tail (Pick.tail (Pick.head)))))) rfl rfl (WO.p rfl rfl (WO.nil (W.ret ?_)))))
   first
   | exact fin.ret (Res.two rfl (RV.cell rfl rfl rfl (Cells.own (by repeat exact .head))) (RV.tmp rfl)) ⟨none,sd0,0,by rw [leE_1 (by assumption)] <;> rfl,fun e=>by rw [leE_1 (by assumption)] at e;omega⟩
   | exact fin.ret (Res.two rfl (RV.cell rfl rfl rfl (Cells.own (by repeat exact .head))) (RV.tmp rfl)) ⟨none,sd0,0,by rw [leE_20 (by assumption) (by assumption)] <;> rfl,fun e=>by rw [leE_20 (by assumption) (by assumption)] at e;omega⟩
   | exact fin.ret (Res.two rfl (RV.cell rfl rfl rfl (Cells.own (by repeat first | exact .head | apply Pick.tail))) (RV.tmp rfl)) ⟨none,sd0,0,by rw [leE_5 (by assumption) (by assumption) (by assumption)] <;> rfl,fun e=>by rw [leE_5 (by assumption) (by assumption) (by assumption)] at e;omega⟩
   | exact fin.ret (Res.two rfl (RV.cell rfl rfl rfl (Cells.own (by repeat first | exact .head | apply Pick.tail))) (RV.tmp rfl)) ⟨mq,ms,mt,by rw [leE_0 (by assumption) (by assumption) (by assumption)],fun _=>hms (by assumption)⟩
  ·refine W.skip (W.sreg (WO.p rfl rfl (WO.p rfl rfl (WO.p rfl rfl (WO.callE rfl Tryz.call106 (fun L w hi=>c_most w ⟨tb,0,none⟩ rv sv l (Tbl.own (b:=tb) (by repeat first | exact .head | apply Pick.tail) (by repeat first | exact .head | apply Pick.tail) (by repeat first | exact .head | apply Pick.tail) hi) hrs.2 hrs.1 p q hpq.1 hpq.2) rfl ?_)))))
   rintro _ ⟨mq,ms,mt,rfl,hms⟩
   refine WO.p rfl rfl (WO.p rfl rfl (WO.extract (i:=1) rfl rfl rfl (WO.alloc rfl rfl rfl (fun b3 hb3=>(WO.storeA rfl rfl rfl rfl Pick.head rfl rfl (WO.p rfl rfl (WO.nil (W.seq (W.sreg (WO.p rfl rfl (WO.p rfl rfl (WO.nil ?_))))))))))))
   refine W.cond_nbl rfl (fun c3=>?_) (fun c3=>?_)
   ·refine W.sreg (WO.build rfl rfl rfl rfl rfl (WO.storeA rfl rfl rfl rfl (Pick.tail (Pick.tail (Pick.tail (Pick.tail (Pick.tail (Pick.tail (Pick.head))))))) rfl rfl (WO.p rfl rfl (WO.nil (W.ret ?_)))))
    first
    | exact fin.ret (Res.two rfl (RV.cell rfl rfl rfl (Cells.own (by repeat exact .head))) (RV.tmp rfl)) ⟨none,sd0,0,by rw [leE_1 (by assumption)] <;> rfl,fun e=>by rw [leE_1 (by assumption)] at e;omega⟩
    | exact fin.ret (Res.two rfl (RV.cell rfl rfl rfl (Cells.own (by repeat exact .head))) (RV.tmp rfl)) ⟨none,sd0,0,by rw [leE_20 (by assumption) (by assumption)] <;> rfl,fun e=>by rw [leE_20 (by assumption) (by assumption)] at e;omega⟩
    | exact fin.ret (Res.two rfl (RV.cell rfl rfl rfl (Cells.own (by repeat exact .head))) (RV.tmp rfl)) ⟨none,sd0,0,by rw [leE_5 (by assumption) (by assumption) (by assumption)] <;> rfl,fun e=>by rw [leE_5 (by assumption) (by assumption) (by assumption)] at e;omega⟩
    | exact fin.ret (Res.two rfl (RV.cell rfl rfl rfl (Cells.own (by repeat first | exact .head | apply Pick.tail))) (RV.tmp rfl)) ⟨mq,ms,mt,by rw [leE_0 (by assumption) (by assumption) (by assumption)],fun _=>hms (by assumption)⟩
   ·refine W.skip (W.sreg (WO.loadA rfl rfl (Cells.own Pick.head) rfl rfl (WO.storeA rfl rfl rfl rfl (Pick.tail (Pick.tail (Pick.tail (Pick.tail (Pick.tail (Pick.tail (Pick.head))))))) rfl rfl (WO.p rfl rfl (WO.nil (W.ret ?_))))))
    first
    | exact fin.ret (Res.two rfl (RV.cell rfl rfl rfl (Cells.own (by repeat exact .head))) (RV.tmp rfl)) ⟨none,sd0,0,by rw [leE_1 (by assumption)] <;> rfl,fun e=>by rw [leE_1 (by assumption)] at e;omega⟩
    | exact fin.ret (Res.two rfl (RV.cell rfl rfl rfl (Cells.own (by repeat exact .head))) (RV.tmp rfl)) ⟨none,sd0,0,by rw [leE_20 (by assumption) (by assumption)] <;> rfl,fun e=>by rw [leE_20 (by assumption) (by assumption)] at e;omega⟩
    | exact fin.ret (Res.two rfl (RV.cell rfl rfl rfl (Cells.own (by repeat exact .head))) (RV.tmp rfl)) ⟨none,sd0,0,by rw [leE_5 (by assumption) (by assumption) (by assumption)] <;> rfl,fun e=>by rw [leE_5 (by assumption) (by assumption) (by assumption)] at e;omega⟩
    | exact fin.ret (Res.two rfl (RV.cell rfl rfl rfl (Cells.own (by repeat exact .head))) (RV.tmp rfl)) ⟨mq,ms,mt,by rw [leE_0 (by assumption) (by assumption) (by assumption)],fun _=>hms (by assumption)⟩
def LeastR (l:List Rn) (p q:Int) (r:Value):Prop:=∃ x:Int × Int,r=.tuple #[raV x,.int .i64 (leE l p q)]∧(leE l p q=0→∃ y:Sd × Int,MostI (sds l) p q y∧x=red y.1.c y.2)
theorem leE_ok {l:List Rn} {p q:Int} (h:leE l p q=0):OkRs l∧l.length≤12∧OkN p∧OkN q∧¬ Dbt (sds l)∧Bnd (sds l) p q:=by
 unfold leE at h
 split at h
 ·omega
 ·rename_i h1
  obtain ⟨h2,h3⟩:=chkA0.1 (show chkA l p q=0 by omega)
  obtain ⟨h4,h5⟩:=chkRs0.1 h2
  split at h
  ·omega
  ·split at h
   ·exact ⟨h5,h4,h3.1,h3.2,by assumption,by assumption⟩
   ·omega
theorem c_Least (w:World) (v:Value) (l:List Rn) (p q:Int) (hR:RdF encRn 4 w.heap.size w v l):RetE Tryz.prog 10 [v,.int .i64 p,.int .i64 q].toArray w (LeastR l p q):=by
 refine RetE.of mixed tyTab Tryz.func10 rfl rfl ?_
 replace hR:RdF encRn 4 (fnCx mixed tyTab Tryz.f10.ntmps w).B (fnCx mixed tyTab Tryz.f10.ntmps w).w0 v l:=hR
 refine W.sreg (WO.alloc rfl rfl rfl (fun b1 hb1=>(WO.p rfl rfl (WO.nil (W.sreg (WO.p rfl rfl (WO.p rfl rfl (WO.p rfl rfl (WO.callE rfl Tryz.call39 (fun L w hi=>c_best w v l p q (hR.later hi)) rfl ?_)))))))))
 rintro _ ⟨mq,ms,mt,rfl,hms⟩
 refine WO.p rfl rfl (WO.p rfl rfl (WO.p rfl rfl (WO.alloc rfl rfl rfl (fun b2 hb2=>(WO.storeA rfl rfl rfl rfl Pick.head rfl rfl (WO.p rfl rfl (WO.nil (W.seq (W.sreg (WO.p rfl rfl (WO.p rfl rfl (WO.nil ?_))))))))))))
 refine W.cond_bl rfl (fun c1=>?_) (fun c1=>?_)
 ·refine W.sreg (WO.build rfl rfl rfl rfl rfl (WO.p rfl rfl (WO.storeA rfl rfl rfl rfl (Pick.tail (Pick.head)) rfl rfl (WO.p rfl rfl (WO.nil (W.ret ?_))))))
  first
  | exact fin.ret (Res.two rfl (RV.cell rfl rfl rfl (Cells.own (by repeat exact .head))) (RV.tmp rfl)) ⟨(0,0),rfl,fun e=>by omega⟩
  | exact fin.ret (Res.two rfl (RV.cell rfl rfl rfl (Cells.own (by repeat first | exact .head | apply Pick.tail))) (RV.tmp rfl)) ⟨red ms.c mt,by rw [show leE l p q=0 by omega],fun _=>⟨(ms,mt),hm,rfl⟩⟩
 ·refine W.skip (W.sreg (WO.loadA rfl rfl (Cells.own Pick.head) rfl rfl ?_))
  have hle:=leE_ok (show leE l p q=0 by omega)
  have hm:=hms (by omega)
  refine WO.callR rfl Tryz.call40 (fun L w hi=>c_boundQ w mq ms mt (hm.ok hle.1 hle.2.2.1 hle.2.2.2.1)) rfl (WO.storeA rfl rfl rfl rfl (Pick.tail (Pick.head)) rfl rfl (WO.p rfl rfl (WO.nil (W.ret ?_))))
  first
  | exact fin.ret (Res.two rfl (RV.cell rfl rfl rfl (Cells.own (by repeat exact .head))) (RV.tmp rfl)) ⟨(0,0),rfl,fun e=>by omega⟩
  | exact fin.ret (Res.two rfl (RV.cell rfl rfl rfl (Cells.own (by repeat exact .head))) (RV.tmp rfl)) ⟨red ms.c mt,by rw [show leE l p q=0 by omega],fun _=>⟨(ms,mt),hm,rfl⟩⟩
end Go.Proofs.YtfchgmiiicidcaaGreat.Sp
namespace Go.Proofs.YtfchgmiiicidcaaGreat.Sp
open Go Go.TH
section
variable {S:List Sd} {p q:Int}
end
end Go.Proofs.YtfchgmiiicidcaaGreat.Sp
namespace Go.Proofs.YtfchgmiiicidcaaGreat.Sp
open Go Go.TH
theorem gcd2_int (n:Int) {d:Int} (hd:0<d):gcd2 (ab n) d=(Int.gcd n d:Int):=by
  unfold gcd2 Int.gcd
  have h1:(ab n).toNat=n.natAbs:=by unfold ab;omega
  have h2:d.toNat=d.natAbs:=by omega
  rw [h1,h2]
theorem red_cop (n:Int) {d:Int} (hd:0<d):Int.gcd (red n d).1 (red n d).2=1:=by
  have hg:=gcd2_int n hd
  have hp:0<Int.gcd n d:=by
    have:=gcd2_pos (a:=ab n) hd
    rw [hg] at this;omega
  obtain ⟨x,hx⟩:=Int.gcd_dvd_left (a:=n) (b:=d)
  obtain ⟨y,hy⟩:=Int.gcd_dvd_right (a:=n) (b:=d)
  have e:red n d=(n/(Int.gcd n d:Int),d/(Int.gcd n d:Int)):=by
    unfold red
    rw [hg,Int.tdiv_eq_ediv_of_dvd ⟨x,hx⟩,Int.tdiv_eq_ediv_of_dvd ⟨y,hy⟩]
  rw [e]
  exact Int.gcd_ediv_gcd_ediv_gcd hp
theorem cop_dvd {a b c x:Int} (hg:Int.gcd a b=1) (h:a*c=x*b):b∣c:=by
  have n1:a.natAbs*c.natAbs=x.natAbs*b.natAbs:=by rw [← Int.natAbs_mul,← Int.natAbs_mul,h]
  have k:b.natAbs∣a.natAbs*c.natAbs:=by rw [n1];exact Nat.dvd_mul_left _ _
  have hc:Nat.Coprime b.natAbs a.natAbs:=by
    have:Nat.gcd a.natAbs b.natAbs=1:=hg
    rw [Nat.gcd_comm] at this
    exact this
  exact Int.natAbs_dvd_natAbs.1 (hc.dvd_of_dvd_mul_left k)
theorem red_eqZ {n d m e:Int} (hd:0<d) (he:0<e) (h:n*e=m*d):red n d=red m e:=by
  obtain ⟨g,hg,h1,h2,h3,_⟩:=red_parts n hd
  obtain ⟨k,hk,h4,h5,h6,_⟩:=red_parts m he
  have c1:=red_cop n hd
  have c2:=red_cop m he
  generalize red n d=u at *
  generalize red m e=v at *
  have hx:u.1*v.2=v.1*u.2:=by
    have e1:(u.1*v.2)*(g*k)=(v.1*u.2)*(g*k):=by
      have:n*e=u.1*g*(v.2*k):=by rw [h1,h5]
      have:m*d=v.1*k*(u.2*g):=by rw [h4,h2]
      grind
    exact Int.eq_of_mul_eq_mul_right (Int.ne_of_gt (Int.mul_pos hg hk)) e1
  have d1:u.2∣v.2:=cop_dvd c1 hx
  have d2:v.2∣u.2:=cop_dvd c2 hx.symm
  have e2:u.2=v.2:=Int.le_antisymm (Int.le_of_dvd h6 d1) (Int.le_of_dvd h3 d2)
  rw [e2] at hx
  have e1:u.1=v.1:=Int.eq_of_mul_eq_mul_right (by omega) hx
  exact Prod.ext e1 e2
end Go.Proofs.YtfchgmiiicidcaaGreat.Sp
namespace Go.Proofs.YtfchgmiiicidcaaGreat.Sp
open Go Go.TH
attribute [local irreducible] W WO pt
set_option maxRecDepth 10000
set_option maxHeartbeats 1000000
theorem chkA_0 {l:List Rn} {p q:Int} (h:chkRs l=0) (hp:OkN p) (hq:OkN q):chkA l p q=0:=by unfold chkA;rw [if_neg (by omega),if_pos ⟨hp,hq⟩]
end Go.Proofs.YtfchgmiiicidcaaGreat.Sp
namespace Go.Proofs.YtfchgmiiicidcaaGreat
open Go Go.TH Sp
set_option maxRecDepth 10000
theorem red_one (n:Int):red n 1=(n,1):=by
  obtain ⟨g,hg,h1,h2,h3,h4,_⟩:=red_parts n (show (0:Int)<1 by omega)
  have e2:(red n 1).2=1:=by omega
  rw [e2,Int.one_mul] at h2
  rw [← h2,Int.mul_one] at h1
  exact Prod.ext h1.symm e2
/-- the error of Least: there is none, if a truth fits, and the value is bounded -/
theorem le_zero {l:List Rn} {p q:Int} (h:chkRs l=0) (hp:OkN p) (hq:OkN q) {t:Tru} (ht:0<t.d) (hf:fitL l t) (hb:Bnd (sds l) p q):leE l p q=0 :=
  leE_0 (by rw [chkA_0 h hp hq];omega) (fun hd=>hd.no ht (fitL_iff.1 hf)) hb
/-- two runs, of each unknown number one -/
def twoR (a b c d:Int):List Rn:=[⟨1,0,a,b⟩,⟨0,1,c,d⟩]
theorem twoR_fit {a b c d:Int} {t:Tru}:fitL (twoR a b c d) t↔(a*t.d≤t.a∧t.a≤b*t.d)∧c*t.d≤t.b∧t.b≤d*t.d:=by
  unfold fitL twoR fitR
  simp
theorem twoR_ok {a b c d:Int} (h1:a≤b) (h2:c≤d) (h3 : -100000≤a) (h4:b≤100000) (h5 : -100000≤c) (h6:d≤100000):chkRs (twoR a b c d)=0 :=
  chkRs0.2 ⟨by show 2≤12;omega,fun r hr=>by
    have:r=⟨1,0,a,b⟩∨r=⟨0,1,c,d⟩:=by simpa [twoR] using hr
    rcases this with rfl | rfl
    · exact ⟨by unfold OkN;dsimp only;omega,by unfold OkN;dsimp only;omega,.inl (by dsimp only;omega),h1,h3,h4⟩
    · exact ⟨by unfold OkN;dsimp only;omega,by unfold OkN;dsimp only;omega,.inr (by dsimp only;omega),h2,h5,h6⟩⟩
end Go.Proofs.YtfchgmiiicidcaaGreat
namespace Go.Proofs.YtfchgmiiicidcaaGreat
open Go Go.TH
set_option maxRecDepth 10000
theorem fI_at {l:List Int} {x:Int} {k:Nat} (hr:Ch.Ris l) (hk:k<l.length) (h1:x≤l.getD k 0) (h2:k=0∨l.getD (k-1) 0<x):Ch.fI l x=k:=by
  have hle:Ch.fI l x≤k:=by
    rcases Nat.lt_or_ge k (Ch.fI l x) with g | g
    · have:=Ch.fI_lt (l:=l) (x:=x) g;omega
    · exact g
  rcases Nat.lt_or_ge (Ch.fI l x) k with g | g
  · have h3:=Ch.fI_ge (l:=l) (x:=x) (by omega)
    have h4:l.getD (Ch.fI l x) 0≤l.getD (k-1) 0:=by
      rcases Nat.lt_or_ge (Ch.fI l x) (k-1) with q | q
      · exact Int.le_of_lt (hr.1.lt q (by omega))
      · rw [show Ch.fI l x=k-1 by omega];exact Int.le_refl _
    omega
  · omega
theorem on_at {l:List Int} {x:Int} {k:Nat} (hr:Ch.Ris l) (hk:k<l.length) (h0:l.getD 0 0≤x) (h1:x≤l.getD k 0):Ch.On l x:=by
  refine ⟨h0,?_⟩
  rcases Nat.lt_or_ge k (Ch.fI l x) with g | g
  · have:=Ch.fI_lt (l:=l) (x:=x) g;omega
  · omega
/-- how far from both neighbours: a number of a scale counts alone -/
structure Alone (l:List Int) (i:Nat):Prop where
  w:0<Ch.fr1 l (l.getD i 0)+Ch.fr0 l (l.getD i 0)
  c:(Ch.nbI l (l.getD i 0)=i∧Ch.fr0 l (l.getD i 0)=0)∨(Ch.nbI l (l.getD i 0)+1=i∧Ch.fr1 l (l.getD i 0)=0)
theorem alone {l:List Int} (hr:Ch.Ris l) (h2:2≤l.length) {i:Nat} (hi:i<l.length):Alone l i:=by
  have hf:Ch.fI l (l.getD i 0)=i:=fI_at hr hi (Int.le_refl _) (by
    rcases Nat.eq_zero_or_pos i with g | g
    · exact .inl g
    · exact .inr (hr.1.lt (by omega) hi))
  rcases Nat.eq_zero_or_pos i with g | g
  · subst g
    have hn:Ch.nbI l (l.getD 0 0)=0:=by unfold Ch.nbI;omega
    have:=hr.1.lt (show 0<1 by omega) (show 1<l.length by omega)
    have e:l.getD (0+1) 0=l.getD 1 0:=rfl
    refine ⟨?_,.inl ⟨hn,?_⟩⟩ <;> (unfold Ch.fr0;try unfold Ch.fr1) <;> rw [hn] <;> omega
  · have hn:Ch.nbI l (l.getD i 0)=i-1:=by unfold Ch.nbI;omega
    have:=hr.1.lt (show i-1<i by omega) hi
    have e:i-1+1=i:=by omega
    refine ⟨?_,.inr ⟨by omega,?_⟩⟩
    · unfold Ch.fr0 Ch.fr1;rw [hn,e];omega
    · unfold Ch.fr1;rw [hn,e];omega
/-- a number between two neighbours of a scale -/
structure Betw (l:List Int) (k:Nat) (x:Int):Prop where
  w:0<Ch.fr1 l (l.getD k 0+x)+Ch.fr0 l (l.getD k 0+x)
  c:(Ch.nbI l (l.getD k 0+x)=k∧Ch.fr1 l (l.getD k 0+x)=l.getD (k+1) 0-l.getD k 0-x∧Ch.fr0 l (l.getD k 0+x)=x)∨(Ch.nbI l (l.getD k 0+x)+1=k∧x=0∧Ch.fr1 l (l.getD k 0+x)=0)
theorem betw {l:List Int} (hr:Ch.Ris l) {k:Nat} {x:Int} (hk:k+1<l.length) (h0:0≤x) (h1:x≤l.getD (k+1) 0-l.getD k 0):Betw l k x:=by
  have hlt:=hr.1.lt (show k<k+1 by omega) hk
  rcases Int.lt_or_le 0 x with g | g
  · have hf:Ch.fI l (l.getD k 0+x)=k+1:=fI_at hr hk (by omega) (.inr (by rw [Nat.add_sub_cancel];omega))
    have hn:Ch.nbI l (l.getD k 0+x)=k:=by unfold Ch.nbI;omega
    refine ⟨?_,.inl ⟨hn,?_,?_⟩⟩
    · unfold Ch.fr0 Ch.fr1;rw [hn];omega
    · unfold Ch.fr1;rw [hn];omega
    · unfold Ch.fr0;rw [hn];omega
  · obtain rfl:x=0:=by omega
    have ha:=alone hr (by omega) (show k<l.length by omega)
    have e0:l.getD k 0+0=l.getD k 0:=by omega
    refine ⟨by rw [e0];exact ha.w,?_⟩
    rw [e0]
    rcases ha.c with ⟨c1,c2⟩ | ⟨c1,c2⟩
    · exact .inl ⟨c1,by unfold Ch.fr1;rw [c1];omega,c2⟩
    · exact .inr ⟨c1,rfl,c2⟩
/-- the weight of a place, out of m -/
def cf (i k:Nat) (m x:Int) (p:Sk):Int:=if p=(i,k) then m-x else if p=(i,k+1) then x else 0
section
variable {P A:List Int} {R:Ch.Rws}
theorem ws4 (L0 L1 L2 L3:Ch.Cn) (p:Sk):ws [L0,L1,L2,L3] p 4=(if p=plK L0 then L0.2.2 else 0)+(if p=plK L1 then L1.2.2 else 0)+(if p=plK L2 then L2.2.2 else 0)+(if p=plK L3 then L3.2.2 else 0):=by
  simp [ws]
/-- the weights of a point between two advances of a pitch -/
theorem ws_row (hc:Ch.OkC P A R) {i k:Nat} {x:Int} (hi:i<P.length) (hk:k+1<A.length) (h0:0≤x) (h1:x≤A.getD (k+1) 0-A.getD k 0) (p:Sk):ws (Ch.cnP P A (P.getD i 0) (A.getD k 0+x)) p 4*(A.getD (k+1) 0-A.getD k 0)=Ch.whS P A (P.getD i 0) (A.getD k 0+x)*cf i k (A.getD (k+1) 0-A.getD k 0) x p:=by
  have ha:=alone hc.up hc.np.1 hi
  have hb:=betw hc.ua hk h0 h1
  have hm:=hc.ua.1.lt (show k<k+1 by omega) hk
  show ws (Ch.cnL _ _ _ _ _ _) p 4*_=_
  unfold Ch.cnL Ch.whS cf
  rw [ws4]
  unfold plK
  dsimp only
  obtain ⟨pi,pk⟩:=p
  have hac:=ha.c
  clear ha
  generalize Ch.fr1 P (P.getD i 0)=u at *
  generalize Ch.fr0 P (P.getD i 0)=v at *
  generalize Ch.nbI P (P.getD i 0)=ni at *
  have hbw:=hb.w
  have hbc:=hb.c
  clear hb
  generalize Ch.fr1 A (A.getD k 0+x)=s at *
  generalize Ch.fr0 A (A.getD k 0+x)=t at *
  generalize Ch.nbI A (A.getD k 0+x)=nk at *
  generalize A.getD (k+1) 0-A.getD k 0=m at *
  simp only [Prod.mk.injEq]
  rcases hac with ⟨a1,a2⟩ | ⟨a1,a2⟩ <;> rcases hbc with ⟨b1,b2,b3⟩ | ⟨b1,b2,b3⟩
  · subst a1 a2 b1 b2 b3
    by_cases e1:pi=ni
    · by_cases e2:pk=nk
      · subst e1 e2;(simp;try grind)
      · by_cases e3:pk=nk+1
        · subst e1 e3;(simp;try grind)
        · simp [e1,e2,e3]
    · simp [e1]
  · subst a1 a2 b2 b3
    subst b1
    by_cases e1:pi=ni
    · by_cases e2:pk=nk
      · subst e1 e2;simp
      · by_cases e3:pk=nk+1
        · subst e1 e3;(simp;try grind)
        · simp [e1,e2,e3]
    · simp [e1]
  · subst a2 b1 b2 b3
    subst a1
    by_cases e1:pi=ni+1
    · by_cases e2:pk=nk
      · subst e1 e2;(simp;try grind)
      · by_cases e3:pk=nk+1
        · subst e1 e3;(simp;try grind)
        · simp [e1,e2,e3]
    · simp [e1]
  · subst a2 b2 b3
    subst a1 b1
    by_cases e1:pi=ni+1
    · by_cases e2:pk=nk
      · subst e1 e2;simp
      · by_cases e3:pk=nk+1
        · subst e1 e3;(simp;try grind)
        · simp [e1,e2,e3]
    · simp [e1]
/-- the pull between two advances of a pitch -/
theorem val_row (hc:Ch.OkC P A R) {i k:Nat} {x:Int} (T:Nat→Nat→Int) (hi:i<P.length) (hk:k+1<A.length) (h0:0≤x) (h1:x≤A.getD (k+1) 0-A.getD k 0):Ch.valQ P A (P.getD i 0) (A.getD k 0+x) T=Ch.red ((A.getD (k+1) 0-A.getD k 0-x)*T i k+x*T i (k+1)) (A.getD (k+1) 0-A.getD k 0):=by
  have ha:=alone hc.up hc.np.1 hi
  have hb:=betw hc.ua hk h0 h1
  have hm:=hc.ua.1.lt (show k<k+1 by omega) hk
  have hw:=Int.mul_pos ha.w hb.w
  unfold Ch.valQ
  refine red_same (k:=A.getD (k+1) 0-A.getD k 0) (j:=Ch.whS P A (P.getD i 0) (A.getD k 0+x)) (by omega) hw hw (by omega) ?_ (by rw [Int.mul_comm])
  unfold Ch.plS Ch.whS
  show _*Ch.aS _ (Ch.cnL _ _ _ _ _ _) 4=_
  unfold Ch.cnL
  simp only [Ch.aS,List.getD_cons_zero,List.getD_cons_succ]
  clear hw
  have hac:=ha.c
  clear ha
  generalize Ch.fr1 P (P.getD i 0)=u at *
  generalize Ch.fr0 P (P.getD i 0)=v at *
  generalize Ch.nbI P (P.getD i 0)=ni at *
  have hbc:=hb.c
  clear hb
  generalize Ch.fr1 A (A.getD k 0+x)=s at *
  generalize Ch.fr0 A (A.getD k 0+x)=t at *
  generalize Ch.nbI A (A.getD k 0+x)=nk at *
  generalize A.getD (k+1) 0-A.getD k 0=m at *
  rcases hac with ⟨a1,a2⟩ | ⟨a1,a2⟩ <;> rcases hbc with ⟨b1,b2,b3⟩ | ⟨b1,b2,b3⟩
  · subst a1 a2 b1 b2 b3;grind
  · subst a1 a2 b2 b3;subst b1;grind
  · subst a2 b1 b2 b3;subst a1;grind
  · subst a2 b2 b3;subst a1 b1;grind
/-- the end of a combination -/
def cmb (R:Ch.Rws) (i k:Nat) (high:Bool) (c:Int):Int:=c*endV R high (i,k) c + -c*endV R high (i,k+1) (-c)
theorem end_sg {high:Bool} {p:Sk} {v c j m:Int} (hj:0<j) (hm:0<m) (h:v*m=j*c):endV R high p v=endV R high p c:=by
  have hs:0<v↔0<c:=by
    constructor
    · intro g
      have h1:=Int.mul_pos g hm
      rw [h] at h1
      rcases Int.lt_or_le 0 c with q | q
      · exact q
      · have:=Int.mul_nonneg (Int.le_of_lt hj) (show 0 ≤ -c by omega);rw [Int.mul_neg] at this;omega
    · intro g
      have h1:=Int.mul_pos hj g
      rw [← h] at h1
      rcases Int.lt_or_le 0 v with q | q
      · exact q
      · have:=Int.mul_nonneg (show 0 ≤ -v by omega) (Int.le_of_lt hm);rw [Int.neg_mul] at this;omega
  unfold endV
  by_cases c0:0<c
  · have v0:=hs.2 c0
    simp [c0,v0]
  · have v0:¬ 0<v:=fun h=>c0 (hs.1 h)
    simp [c0,v0]
theorem far_row (hc:Ch.OkC P A R) {i k:Nat} {x y:Int} (high:Bool) (hi:i<P.length) (hk:k+1<A.length) (h0:0≤x) (h1:x≤A.getD (k+1) 0-A.getD k 0) (g0:0≤y) (g1:y≤A.getD (k+1) 0-A.getD k 0) :
    farQ P A R (P.getD i 0) (A.getD k 0+x) (P.getD i 0) (A.getD k 0+y) high=Ch.red (cmb R i k high (y-x)) (A.getD (k+1) 0-A.getD k 0):=by
  have ha:=alone hc.up hc.np.1 hi
  have hb:=betw hc.ua hk h0 h1
  have hb':=betw hc.ua hk g0 g1
  have hm:=hc.ua.1.lt (show k<k+1 by omega) hk
  have hw:=Int.mul_pos ha.w hb.w
  have hw':=Int.mul_pos ha.w hb'.w
  have e1:=ws_row hc hi hk h0 h1
  have e2:=ws_row hc hi hk g0 g1
  unfold farQ
  have hlk:∀ p,lkD (moK P A (P.getD i 0) (A.getD k 0+x) (P.getD i 0) (A.getD k 0+y)) p=ws (Ch.cnP P A (P.getD i 0) (A.getD k 0+x)) p 4*Ch.whS P A (P.getD i 0) (A.getD k 0+y)-ws (Ch.cnP P A (P.getD i 0) (A.getD k 0+y)) p 4*Ch.whS P A (P.getD i 0) (A.getD k 0+x):=fun p=>by
    unfold moK;rw [m2_lk,m1_lk]
  have hnd:NdK (moK P A (P.getD i 0) (A.getD k 0+x) (P.getD i 0) (A.getD k 0+y)):=m2_nd _ _ (m1_nd _ _ _) _
  have hwx:0<Ch.whS P A (P.getD i 0) (A.getD k 0+x):=hw
  have hwy:0<Ch.whS P A (P.getD i 0) (A.getD k 0+y):=hw'
  have hmp0:0<A.getD (k+1) 0-A.getD k 0:=by omega
  generalize moK P A (P.getD i 0) (A.getD k 0+x) (P.getD i 0) (A.getD k 0+y)=l at *
  generalize Ch.whS P A (P.getD i 0) (A.getD k 0+x)=a at *
  generalize Ch.whS P A (P.getD i 0) (A.getD k 0+y)=b at *
  generalize A.getD (k+1) 0-A.getD k 0=m at *
  have hmp:0<m:=hmp0
  have hl2:∀ p,lkD l p*m=a*b*(cf i k m x p-cf i k m y p):=fun p=>by
    rw [hlk p]
    have q1:=e1 p
    have q2:=e2 p
    grind
  have hab:=Int.mul_pos hwx hwy
  have hk0:lkD l (i,k)*m=a*b*(y-x):=by
    have:=hl2 (i,k)
    unfold cf at this
    rw [if_pos rfl,if_pos rfl] at this
    rw [this];congr 1;omega
  have hk1:lkD l (i,k+1)*m=a*b * -(y-x):=by
    have:=hl2 (i,k+1)
    unfold cf at this
    have ne:¬ ((i,k+1):Sk)=(i,k):=by simp
    rw [if_neg ne,if_pos rfl,if_neg ne,if_pos rfl] at this
    rw [this];congr 1;omega
  have hz:∀ p,p ∉ [((i,k):Sk),(i,k+1)]→lkD l p=0:=fun p hp=>by
    have n1:¬ p=(i,k):=fun e=>hp (by simp [e])
    have n2:¬ p=(i,k+1):=fun e=>hp (by simp [e])
    have:=hl2 p
    unfold cf at this
    rw [if_neg n1,if_neg n2,if_neg n1,if_neg n2] at this
    rcases Int.mul_eq_zero.1 (show lkD l p*m=0 by rw [this];simp) with q | q
    · exact q
    · omega
  have hs:=sm_eq (e:=endV R high) (L:=[((i,k):Sk),(i,k+1)]) (by simp) hnd hz
  simp only [sumL] at hs
  rw [end_sg (R:=R) (high:=high) (p:=(i,k)) hab hmp hk0,end_sg (R:=R) (high:=high) (p:=(i,k+1)) hab hmp hk1] at hs
  rw [hs]
  refine red_same (k:=m) (j:=a*b) hmp hab hab hmp ?_ (by rw [Int.mul_comm])
  unfold cmb
  generalize endV R high (i,k) (y-x)=f at *
  generalize endV R high (i,k+1) (-(y-x))=g at *
  grind
end
end Go.Proofs.YtfchgmiiicidcaaGreat
namespace Go.Proofs.YtfchgmiiicidcaaGreat
open Go Go.TH Sp
set_option maxRecDepth 10000
/-- the end of a range that makes least what is taken p times -/
def en (p a b:Int):Int:=if 0≤p then a else b
theorem en_in {p a b:Int} (h:a≤b):a≤en p a b∧en p a b≤b:=by unfold en;split <;> omega
/-- the pair of sides that makes it least -/
theorem twoR_c {a b c d p q:Int}:∃ y∈mstA (sds (twoR a b c d)) p q,y.1.c=p*en p a b+q*en q c d∧y.2=1:=by
  have key:∀ s t:Sd,s∈sds (twoR a b c d)→t∈sds (twoR a b c d)→crs s t=1→0≤crs (wS p q) t→0≤crs s (wS p q)→crs (wS p q) t*s.c+crs s (wS p q)*t.c=p*en p a b+q*en q c d→∃ y∈mstA (sds (twoR a b c d)) p q,y.1.c=p*en p a b+q*en q c d∧y.2=1:=fun s t hs ht h1 h2 h3 h4=>by
    obtain ⟨y,hy,e1,e2⟩:=cand_pair (p:=p) (q:=q) hs ht (by omega) h2 h3
    exact ⟨y,hy,e1.trans h4,e2.trans h1⟩
  rcases Int.lt_or_le p 0 with hp | hp <;> rcases Int.lt_or_le q 0 with hq | hq
  · refine key ⟨-1,0,-b⟩ ⟨0,-1,-d⟩ (by simp [twoR,sds,loS,hiS]) (by simp [twoR,sds,loS,hiS]) rfl ?_ ?_ ?_ <;> unfold crs wS <;> dsimp only
    · omega
    · omega
    · unfold en;rw [if_neg (by omega),if_neg (by omega)];grind
  · refine key ⟨0,1,c⟩ ⟨-1,0,-b⟩ (by simp [twoR,sds,loS,hiS]) (by simp [twoR,sds,loS,hiS]) rfl ?_ ?_ ?_ <;> unfold crs wS <;> dsimp only
    · omega
    · omega
    · unfold en;rw [if_neg (by omega),if_pos (by omega)];grind
  · refine key ⟨0,-1,-d⟩ ⟨1,0,a⟩ (by simp [twoR,sds,loS,hiS]) (by simp [twoR,sds,loS,hiS]) rfl ?_ ?_ ?_ <;> unfold crs wS <;> dsimp only
    · omega
    · omega
    · unfold en;rw [if_pos (by omega),if_neg (by omega)];grind
  · refine key ⟨1,0,a⟩ ⟨0,1,c⟩ (by simp [twoR,sds,loS,hiS]) (by simp [twoR,sds,loS,hiS]) rfl ?_ ?_ ?_ <;> unfold crs wS <;> dsimp only
    · omega
    · omega
    · unfold en;rw [if_pos (by omega),if_pos (by omega)];grind
theorem twoR_any {a b c d p q:Int} (h1:a≤b) (h2:c≤d) (h3 : -100000≤a) (h4:b≤100000) (h5 : -100000≤c) (h6:d≤100000) (hp : -20≤p∧p≤20) (hq : -20≤q∧q≤20):leE (twoR a b c d) p q=0∧∀ y,MostI (sds (twoR a b c d)) p q y→red y.1.c y.2=(p*en p a b+q*en q c d,1):=by
  have e1:=en_in (p:=p) h1
  have e2:=en_in (p:=q) h2
  have hf:fitL (twoR a b c d) ⟨en p a b,en q c d,1⟩:=twoR_fit.2 (by dsimp only;omega)
  obtain ⟨z,hz,hz1,hz2⟩:=twoR_c (a:=a) (b:=b) (c:=c) (d:=d) (p:=p) (q:=q)
  have hkp:OkN p:=by unfold OkN;omega
  have hkq:OkN q:=by unfold OkN;omega
  have hok:=twoR_ok h1 h2 h3 h4 h5 h6
  refine ⟨le_zero hok hkp hkq (t:=⟨en p a b,en q c d,1⟩) (by dsimp only;omega) hf (.inr (List.ne_nil_of_mem hz)),fun y hm=>?_⟩
  rw [← red_one (p*en p a b+q*en q c d)]
  rcases hm.mem with ⟨rfl,rfl,rfl⟩ | ⟨h0,hy2⟩
  · simp [sd0]
  · have hw:=mst_weak hy2 (t:=⟨en p a b,en q c d,1⟩) (fitL_iff.1 hf)
    dsimp only at hw
    have hg:=hm.max z hz h0
    have hy:=(hm.ok (chkRs0.1 hok).2 hkp hkq).t
    unfold gtM at hg
    rw [hz1,hz2] at hg
    refine red_eqZ hy.1 (by omega) ?_
    omega
theorem en_bd {p a b A B:Int} (hp : -A≤p∧p≤A) (h0:0≤a) (h1:a≤b) (h2:b≤B) : -(A*B)≤p*en p a b∧p*en p a b≤A*B:=by
  have e1:=en_in (p:=p) h1
  have:=mul_bd2 (a:=en p a b) (b:=p) (A:=B) (B:=A) (by omega) hp
  rw [Int.mul_comm (en p a b),Int.mul_comm B] at this
  exact this
/-- the greatest value is the least one of what is taken as often the other way -/
theorem en_neg {p a b:Int} : -p*en (-p) a b = -(p*en p b a):=by
  unfold en
  rcases Int.lt_trichotomy p 0 with h | rfl | h
  · rw [if_pos (by omega),if_neg (by omega)];grind
  · simp
  · rw [if_neg (by omega),if_pos (by omega)];grind
section
variable {R:Ch.Rws} {i k:Nat}
theorem cmb_lo (c:Int):cmb R i k false c=c*en c (Ch.loAt R i k) (Ch.hiAt R i k) + -c*en (-c) (Ch.loAt R i (k+1)) (Ch.hiAt R i (k+1)):=by
  unfold cmb endV en
  rcases Int.lt_trichotomy c 0 with h | rfl | h
  · rw [if_pos (by simp;omega),if_neg (by simp;omega),if_neg (by omega),if_pos (by omega)]
  · simp
  · rw [if_neg (by simp;omega),if_pos (by simp;omega),if_pos (by omega),if_neg (by omega)]
theorem cmb_hi (c:Int):cmb R i k true c = -(-c*en (-c) (Ch.loAt R i k) (Ch.hiAt R i k)+c*en c (Ch.loAt R i (k+1)) (Ch.hiAt R i (k+1))):=by
  unfold cmb endV en
  rcases Int.lt_trichotomy c 0 with h | rfl | h
  · rw [if_neg (by simp;omega),if_pos (by simp;omega),if_pos (by omega),if_neg (by omega)];grind
  · simp
  · rw [if_pos (by simp;omega),if_neg (by simp;omega),if_neg (by omega),if_pos (by omega)];grind
end
end Go.Proofs.YtfchgmiiicidcaaGreat
namespace Go.Proofs.YtfchgmiiicidcaaGreat
open Go Go.TH
attribute [local irreducible] W WO pt
set_option maxRecDepth 10000
set_option maxHeartbeats 2000000
theorem ref_Fraction8 (w:World) (n d:Int) (hn : -4000000000000000000≤n∧n≤4000000000000000000) (hd:0<d∧d≤4000000000000000000):Ret Tryz.prog 11 [.int .i64 n,.int .i64 d].toArray w (Ch.raV (Ch.red n d)):=by
 refine Ret.of mixed tyTab Tryz.func11 rfl rfl ?_
 have hgp:=Ch.gcd2_pos (Ch.ab_nn n) hd.1
 have h1:=Ch.tdiv_bd hgp hn
 have h2:=Ch.tdiv_bd hgp (n:=d) (M:=4000000000000000000) (by omega)
 refine W.sreg (WO.alloc rfl rfl rfl (fun b1 hb1=>(WO.nil (W.sreg (WO.p rfl rfl (WO.p rfl rfl (WO.neg rfl (by unfold in64;omega) rfl (WO.max2 rfl rfl rfl (WO.p rfl rfl (WO.p rfl rfl (WO.neg rfl (by unfold in64;omega) rfl (WO.max2 rfl rfl rfl ?_))))))))))))
 rw [show max d (-d)=d by omega]
 refine WO.p rfl rfl (WO.p rfl rfl (WO.nil (W.seq (W.block ?_))))
 refine W.loop2 (fun (x:Int) (y:Int)=>0≤x∧0≤y∧Ch.gcd2 x y=Ch.gcd2 (Ch.ab n) d)
  (fun (x:Int) (y:Int)=>[(5,.int .i64 x),(6,.int .i64 y),(0,.int .i64 n),(1,.int .i64 d),(4,.pointer (some ⟨b1,0,none⟩))])
  (fun (x:Int) (y:Int)=>[pt b1 (.cells #[.int .i64 0,.int .i64 0] 38 (0,0))])
  (fun (x:Int) (y:Int)=>y.toNat) (Ch.ab n) d
  (by exact ⟨Ch.ab_nn n,by omega,rfl⟩) ⟨rfl,rfl,rfl,rfl,rfl,trivial⟩ (by repeat (first | exact Sub.nil | refine Sub.cons (by repeat exact .head) ?_)) ?_
 rintro x y ⟨hx,hy,hg⟩
 have hgx:y=0→0<x:=by intro e;subst e;rw [Ch.gcd2_zero hx] at hg;omega
 refine W.seq (W.sreg (WO.p rfl rfl (WO.p rfl rfl (WO.nil ?_))))
 refine W.cond_bl rfl (fun c1=>?_) (fun c1=>?_)
 ·refine W.skip (W.block ?_)
  refine W.drawD 5 [.r 0 [],.r 1 [],.r 2 [5],.r 3 [5],.r 4 [5]] [5] (A0:=[]) (Sub.refl _) (by kernel_rfl) ?_ ?_
  ·repeat constructor
  refine DT.r rfl rfl rfl (WO.p rfl rfl (WO.nil ⟨rfl,rfl⟩)) (DT.r rfl rfl rfl (WO.p rfl rfl (WO.nil ⟨rfl,rfl⟩)) (DT.r rfl rfl rfl (WO.p rfl rfl (WO.nil ⟨rfl,rfl⟩)) (DT.r rfl rfl rfl (WO.rem rfl rfl (by omega) rfl (WO.nil ⟨rfl,rfl⟩)) (DT.r rfl rfl rfl (WO.p rfl rfl (WO.nil ⟨rfl,rfl⟩)) (DT.nil [_] rfl (WO.p rfl rfl (WO.nil ?_)))))))
  refine' ⟨_,_,?hp,?hmu,⟨rfl,rfl,rfl,rfl,rfl,trivial⟩,?hS⟩
  case hS=>repeat (first | exact Sub.nil | refine Sub.cons (by repeat exact .head) ?_)
  case hp=>exact ⟨hy,(Ch.tmod_lt hx (by omega)).1,by rw [Ch.gcd2_step hx (by omega)];exact hg⟩
  case hmu=>have:=Ch.tmod_lt hx (show 0<y by omega);omega
 ·refine W.exit (blk_same (W.seq ?_))
  obtain rfl:y=0:=by omega
  rw [Ch.gcd2_zero hx] at hg
  subst hg
  refine W.sreg (WO.p rfl rfl (WO.lssF rfl rfl (by omega) rfl (WO.nil (W.cond_f rfl (W.skip (W.seq ?_))))))
  refine W.drawD 6 [.r 0 [],.r 1 [],.r 2 [],.r 3 [],.r 4 [],.r 5 []] [] (A0:=[]) (Sub.refl _) (by kernel_rfl) ?_ ?_
  ·repeat constructor
  refine DT.r rfl rfl rfl (WO.p rfl rfl (WO.nil ⟨rfl,rfl⟩)) (DT.r rfl rfl rfl (WO.p rfl rfl (WO.nil ⟨rfl,rfl⟩)) (DT.r rfl rfl rfl (WO.quo rfl rfl (by omega) (by unfold in64;omega) rfl (WO.nil ⟨rfl,rfl⟩)) (DT.r rfl rfl rfl (WO.p rfl rfl (WO.nil ⟨rfl,rfl⟩)) (DT.r rfl rfl rfl (WO.p rfl rfl (WO.nil ⟨rfl,rfl⟩)) (DT.r rfl rfl rfl (WO.quo rfl rfl (by omega) (by unfold in64;omega) rfl (WO.nil ⟨rfl,rfl⟩)) (DT.nil [_] rfl (WO.build rfl rfl rfl rfl rfl (WO.storeA rfl rfl rfl rfl Pick.head rfl rfl (WO.nil (W.ret ?_))))))))))
  exact fin.ret (Res.one rfl (RV.cell rfl rfl rfl (Cells.own Pick.head))) rfl
end Go.Proofs.YtfchgmiiicidcaaGreat
namespace Go.Proofs.YtfchgmiiicidcaaGreat
open Go Go.TH
attribute [local irreducible] W WO pt
set_option maxRecDepth 10000
set_option maxHeartbeats 2000000
theorem ref_rising (w:World) (v:Value) (l:List Int) (hR:RdF encI 1 w.heap.size w v l):Ret Tryz.prog 79 [v].toArray w (.bool (bl (Ch.Ris l))):=by
 refine Ret.of mixed tyTab Tryz.func79 rfl rfl ?_
 replace hR:RdF encI 1 (fnCx mixed tyTab Tryz.f79.ntmps w).B (fnCx mixed tyTab Tryz.f79.ntmps w).w0 v l:=hR
 have hle:=hR.sl.le
 refine W.sreg (WO.p rfl rfl (WO.nil (W.seq (W.sreg (WO.p rfl rfl (WO.nil (W.block ?_)))))))
 refine W.loop (fun (i:Nat)=>i≤l.length∧Ch.Up l i∧∀ x∈l.take i,0≤x∧x≤2000)
  (fun (i:Nat)=>[(3,.int .i64 (i:Int)),(0,v)])
  (fun (i:Nat)=>[])
  (fun (i:Nat)=>l.length-i) 0
  (by exact ⟨by omega,fun i hi=>by omega,by simp⟩) ⟨rfl,rfl,trivial⟩ (by repeat (first | exact Sub.nil | refine Sub.cons (by repeat first | exact .head | apply Pick.tail) ?_)) ?_
 rintro i ⟨hi0,hu,ha⟩
 refine W.seq (W.sreg (WO.p rfl rfl (WO.p rfl rfl (WO.len rfl rfl hR.sl rfl (WO.p rfl rfl (WO.nil ?_))))))
 refine W.cond_bl rfl (fun c1=>?_) (fun c1=>?_)
 ·refine W.skip (W.seq (W.block (W.seq ?_)))
  refine W.drawD 25 [.r 0 [],.r 1 [],.r 2 [],.b 3 [],.r 4 [],.r 5 [],.r 6 [],.r 7 [],.r 8 [],.b 9 [],.r 10 [],.r 11 [],.r 12 [],.r 13 [],.r 14 [],.r 15 [],.r 16 [],.r 17 [],.r 18 [],.b 19 [],.r 20 [],.r 21 [],.r 22 [],.r 23 [],.b 24 []] [] (A0:=[]) (Sub.refl _) (by kernel_rfl) ?_ ?_
  ·repeat constructor
  refine DT.r rfl rfl rfl (WO.p rfl rfl (WO.nil ⟨rfl,rfl⟩)) (DT.r rfl rfl rfl (WO.p rfl rfl (WO.nil ⟨rfl,rfl⟩)) (DT.r rfl rfl rfl (WO.indexAddr rfl rfl rfl hR.sl (by omega) rfl (WO.nil ⟨rfl,rfl⟩)) ?_))
  refine' DT.b rfl rfl rfl ?hq ?_
  case hq =>
   refine' WO.load (v:=_) rfl rfl ?hc rfl ?_
   case hc=>(first | (refine hR.cell0 (i:=i) ?_ 0 ?_ <;> first | rfl | omega))
   exact WO.nil ⟨rfl,rfl⟩
  refine DT.r rfl rfl rfl (WO.p rfl rfl (WO.nil ⟨rfl,rfl⟩)) ?_
  refine DT.rB rfl rfl rfl (WO.p rfl rfl (WO.nil ⟨rfl,rfl⟩)) (fun c2=>?_) (fun c2=>?_)
  ·refine DT.r rfl rfl rfl (WO.no rfl rfl (WO.nil ⟨rfl,rfl⟩)) (DT.r rfl rfl rfl (WO.no rfl rfl (WO.nil ⟨rfl,rfl⟩)) (DT.r rfl rfl rfl (WO.no rfl rfl (WO.nil ⟨rfl,rfl⟩)) (DT.b rfl rfl rfl (WO.no rfl rfl (WO.nil ⟨rfl,rfl⟩)) (DT.r rfl rfl rfl (WO.no rfl rfl (WO.nil ⟨rfl,rfl⟩)) (DT.r rfl rfl rfl (WO.p rfl rfl (WO.nil ⟨rfl,rfl⟩)) (DT.r rfl rfl rfl (WO.p rfl rfl (WO.nil ⟨rfl,rfl⟩)) (DT.r rfl rfl rfl (WO.no rfl rfl (WO.nil ⟨rfl,rfl⟩)) (DT.r rfl rfl rfl (WO.no rfl rfl (WO.nil ⟨rfl,rfl⟩)) (DT.r rfl rfl rfl (WO.no rfl rfl (WO.nil ⟨rfl,rfl⟩)) (DT.r rfl rfl rfl (WO.no rfl rfl (WO.nil ⟨rfl,rfl⟩)) (DT.r rfl rfl rfl (WO.no rfl rfl (WO.nil ⟨rfl,rfl⟩)) ?_)))))))))))
   refine DT.r rfl rfl rfl (WO.no rfl rfl (WO.nil ⟨rfl,rfl⟩)) (DT.b rfl rfl rfl (WO.no rfl rfl (WO.nil ⟨rfl,rfl⟩)) (DT.r rfl rfl rfl (WO.no rfl rfl (WO.nil ⟨rfl,rfl⟩)) (DT.r rfl rfl rfl (WO.no rfl rfl (WO.nil ⟨rfl,rfl⟩)) (DT.r rfl rfl rfl (WO.no rfl rfl (WO.nil ⟨rfl,rfl⟩)) (DT.r rfl rfl rfl (WO.no rfl rfl (WO.nil ⟨rfl,rfl⟩)) (DT.b rfl rfl rfl (WO.no rfl rfl (WO.nil ⟨rfl,rfl⟩)) (DT.nil [] rfl (WO.no rfl rfl (WO.no rfl rfl (WO.p rfl rfl (WO.nil (W.cond_t rfl (W.sreg (WO.p rfl rfl (WO.nil (W.ret (fin.ret (Res.one rfl (RV.tmp rfl)) (congrArg Value.bool ?_))))))))))))))))))
   (refine (bl_f.2 (fun h=>?_)).symm;have h2:=h.2 _ (getD_mem (show i<l.length by omega) 0);omega)
  ·refine DT.r rfl rfl rfl (WO.pg rfl rfl rfl (WO.nil ⟨rfl,rfl⟩)) (DT.r rfl rfl rfl (WO.pg rfl rfl rfl (WO.nil ⟨rfl,rfl⟩)) (DT.r rfl rfl rfl (WO.go' rfl (WO.indexAddr rfl rfl rfl hR.sl (by omega) rfl (WO.nil ⟨rfl,rfl⟩))) ?_))
   refine' DT.b rfl rfl rfl ?hq ?_
   case hq =>
    refine WO.go' rfl ?_
    refine' WO.load (v:=_) rfl rfl ?hc rfl ?_
    case hc=>(first | (refine hR.cell0 (i:=i) ?_ 0 ?_ <;> first | rfl | omega))
    exact WO.nil ⟨rfl,rfl⟩
   refine DT.r rfl rfl rfl (WO.pg rfl rfl rfl (WO.nil ⟨rfl,rfl⟩)) (DT.r rfl rfl rfl (WO.p rfl rfl (WO.nil ⟨rfl,rfl⟩)) ?_)
   refine DT.rB rfl rfl rfl (WO.p rfl rfl (WO.nil ⟨rfl,rfl⟩)) (fun c3=>?_) (fun c3=>?_)
   ·refine DT.r rfl rfl rfl (WO.no rfl rfl (WO.nil ⟨rfl,rfl⟩)) (DT.r rfl rfl rfl (WO.no rfl rfl (WO.nil ⟨rfl,rfl⟩)) (DT.r rfl rfl rfl (WO.no rfl rfl (WO.nil ⟨rfl,rfl⟩)) (DT.r rfl rfl rfl (WO.no rfl rfl (WO.nil ⟨rfl,rfl⟩)) (DT.r rfl rfl rfl (WO.no rfl rfl (WO.nil ⟨rfl,rfl⟩)) (DT.r rfl rfl rfl (WO.no rfl rfl (WO.nil ⟨rfl,rfl⟩)) (DT.b rfl rfl rfl (WO.no rfl rfl (WO.nil ⟨rfl,rfl⟩)) (DT.r rfl rfl rfl (WO.no rfl rfl (WO.nil ⟨rfl,rfl⟩)) (DT.r rfl rfl rfl (WO.no rfl rfl (WO.nil ⟨rfl,rfl⟩)) (DT.r rfl rfl rfl (WO.no rfl rfl (WO.nil ⟨rfl,rfl⟩)) (DT.r rfl rfl rfl (WO.no rfl rfl (WO.nil ⟨rfl,rfl⟩)) (DT.b rfl rfl rfl (WO.no rfl rfl (WO.nil ⟨rfl,rfl⟩)) (DT.nil [] rfl ?_))))))))))))
    refine WO.no rfl rfl (WO.no rfl rfl (WO.p rfl rfl (WO.nil (W.cond_t rfl (W.sreg (WO.p rfl rfl (WO.nil (W.ret (fin.ret (Res.one rfl (RV.tmp rfl)) (congrArg Value.bool ?_))))))))))
    (refine (bl_f.2 (fun h=>?_)).symm;have h2:=h.2 _ (getD_mem (show i<l.length by omega) 0);omega)
   ·refine DT.r rfl rfl rfl (WO.pg rfl rfl rfl (WO.nil ⟨rfl,rfl⟩)) (DT.r rfl rfl rfl (WO.pg rfl rfl rfl (WO.nil ⟨rfl,rfl⟩)) ?_)
    refine DT.rB rfl rfl rfl (WO.pg rfl rfl rfl (WO.nil ⟨rfl,rfl⟩)) (fun c4=>?_) (fun c4=>?_)
    ·refine DT.r rfl rfl rfl (WO.pg rfl rfl rfl (WO.nil ⟨rfl,rfl⟩)) (DT.r rfl rfl rfl (WO.pg rfl rfl rfl (WO.nil ⟨rfl,rfl⟩)) (DT.r rfl rfl rfl (WO.go' rfl (WO.indexAddr rfl rfl rfl hR.sl (by omega) rfl (WO.nil ⟨rfl,rfl⟩))) ?_))
     refine' DT.b rfl rfl rfl ?hq ?_
     case hq =>
      refine WO.go' rfl ?_
      refine' WO.load (v:=_) rfl rfl ?hc rfl ?_
      case hc=>(first | (refine hR.cell0 (i:=i) ?_ 0 ?_ <;> first | rfl | omega))
      exact WO.nil ⟨rfl,rfl⟩
     refine DT.r rfl rfl rfl (WO.pg rfl rfl rfl (WO.nil ⟨rfl,rfl⟩)) (DT.r rfl rfl rfl (WO.pg rfl rfl rfl (WO.nil ⟨rfl,rfl⟩)) (DT.r rfl rfl rfl (WO.go' rfl (WO.ar rfl rfl rfl (by unfold in64;omega) rfl (WO.nil ⟨rfl,rfl⟩))) ?_))
     refine' DT.r rfl rfl rfl ?hq ?_
     case hq =>
      refine WO.go' rfl ?_
      refine' WO.indexAddrZ (n:=_) rfl rfl rfl ?hs ?h00 ?h1 rfl ?_
      case hs=>exact hR.sl
      case h00=>omega
      case h1=>(omega)
      exact WO.nil ⟨rfl,rfl⟩
     refine' DT.b rfl rfl rfl ?hq ?_
     case hq =>
      refine WO.go' rfl ?_
      refine' WO.load (v:=_) rfl rfl ?hc rfl ?_
      case hc=>(first | (refine hR.cell0 (i:=((i:Int)-1).toNat) ?_ 0 ?_ <;> first | rfl | omega))
      exact WO.nil ⟨rfl,rfl⟩
     refine DT.nil [] rfl (WO.pg rfl rfl rfl (WO.pg rfl rfl rfl (WO.p rfl rfl (WO.nil ?_))))
     refine W.cond_bl rfl (fun c5=>?_) (fun c5=>?_)
     ·refine W.sreg (WO.p rfl rfl (WO.nil (W.ret (fin.ret (Res.one rfl (RV.tmp rfl)) (congrArg Value.bool ?_)))))
      (refine (bl_f.2 (fun h=>?_)).symm;have h1:=h.1 i (by omega) (by omega);rw [show i-1=((i:Int)-1).toNat by omega] at h1;omega)
     ·refine W.skip (W.region (WO.p rfl rfl (WO.ar rfl rfl rfl (by unfold in64;omega) rfl (WO.p rfl rfl (WO.nil ?_)))))
      refine' ⟨i+1,?hp,?hmu,⟨rfl,rfl,trivial⟩,?hS⟩
      case hS=>repeat (first | exact Sub.nil | refine Sub.cons (by repeat first | exact .head | apply Pick.tail) ?_)
      case hp=>exact ⟨by omega,hu.next fun h0=>(by rw [show i-1=((i:Int)-1).toNat by omega];omega),all_succ (by omega) 0 ha (by omega)⟩
      case hmu=>omega
    ·refine DT.r rfl rfl rfl (WO.no rfl rfl (WO.nil ⟨rfl,rfl⟩)) (DT.r rfl rfl rfl (WO.no rfl rfl (WO.nil ⟨rfl,rfl⟩)) (DT.r rfl rfl rfl (WO.no rfl rfl (WO.nil ⟨rfl,rfl⟩)) (DT.b rfl rfl rfl (WO.no rfl rfl (WO.nil ⟨rfl,rfl⟩)) (DT.r rfl rfl rfl (WO.no rfl rfl (WO.nil ⟨rfl,rfl⟩)) (DT.r rfl rfl rfl (WO.no rfl rfl (WO.nil ⟨rfl,rfl⟩)) (DT.r rfl rfl rfl (WO.no rfl rfl (WO.nil ⟨rfl,rfl⟩)) (DT.r rfl rfl rfl (WO.no rfl rfl (WO.nil ⟨rfl,rfl⟩)) (DT.b rfl rfl rfl (WO.no rfl rfl (WO.nil ⟨rfl,rfl⟩)) (DT.nil [] rfl (WO.no rfl rfl (WO.pg rfl rfl rfl (WO.p rfl rfl (WO.nil (W.cond_f rfl (W.skip (W.region ?_))))))))))))))))
     refine WO.p rfl rfl (WO.ar rfl rfl rfl (by unfold in64;omega) rfl (WO.p rfl rfl (WO.nil ?_)))
     refine' ⟨i+1,?hp,?hmu,⟨rfl,rfl,trivial⟩,?hS⟩
     case hS=>repeat (first | exact Sub.nil | refine Sub.cons (by repeat first | exact .head | apply Pick.tail) ?_)
     case hp=>exact ⟨by omega,hu.next fun h0=>(by rw [show i-1=((i:Int)-1).toNat by omega];omega),all_succ (by omega) 0 ha (by omega)⟩
     case hmu=>omega
 ·refine W.exit (blk_same (W.sreg (WO.p rfl rfl (WO.nil (W.ret (fin.ret (Res.one rfl (RV.tmp rfl)) (congrArg Value.bool ?_)))))))
  (have hl:i=l.length:=(by omega);subst hl;rw [List.take_length] at ha;exact (bl_t.2 ⟨hu,ha⟩).symm)
end Go.Proofs.YtfchgmiiicidcaaGreat
namespace Go.Proofs.YtfchgmiiicidcaaGreat
open Go Go.TH
attribute [local irreducible] W WO pt
set_option maxRecDepth 10000
set_option maxHeartbeats 2000000
end Go.Proofs.YtfchgmiiicidcaaGreat
namespace Go.Proofs.YtfchgmiiicidcaaGreat
open Go Go.TH
attribute [local irreducible] W WO pt
set_option maxRecDepth 10000
set_option maxHeartbeats 4000000
def rgX (x:Int × Int):Prop:=0≤x.1∧x.1≤x.2∧x.2≤100000
def flR (r:List (Int × Int)) (n:Nat):Prop:=∀ k,k<n→0<k→(r.getD k (0,0)).1≤(r.getD (k-1) (0,0)).1∧(r.getD k (0,0)).2≤(r.getD (k-1) (0,0)).2
theorem flR.next {r:List (Int × Int)} {n:Nat} (h:flR r n) (g:(r.getD n (0,0)).1≤(r.getD ((n:Int)-1).toNat (0,0)).1∧(r.getD n (0,0)).2≤(r.getD ((n:Int)-1).toNat (0,0)).2):flR r (n+1):=fun k hk h0=>by
 rcases Nat.lt_or_ge k n with q | q
 ·exact h k q h0
 ·obtain rfl:k=n:=by omega
  rw [show k-1=((k:Int)-1).toNat by omega];exact g
theorem ref_CheckChart (w:World) (vp va o:Value) (rv:List Value) (P A:List Int) (R:Ch.Rws) (hP:RdF encI 1 w.heap.size w vp P) (hA:RdF encI 1 w.heap.size w va A) (hR:RdR encP 2 w.heap.size w o rv R):RetE Tryz.prog 31 [.agg #[vp,va,o]].toArray w (fun r=>∃ e:Int,r=.int .i64 e∧(e=0→Ch.OkC P A R)):=by
 refine RetE.of mixed tyTab Tryz.func31 rfl rfl ?_
 replace hR:RdR encP 2 (fnCx mixed tyTab Tryz.f31.ntmps w).B (fnCx mixed tyTab Tryz.f31.ntmps w).w0 o rv R:=hR
 replace hP:RdF encI 1 (fnCx mixed tyTab Tryz.f31.ntmps w).B (fnCx mixed tyTab Tryz.f31.ntmps w).w0 vp P:=hP
 replace hA:RdF encI 1 (fnCx mixed tyTab Tryz.f31.ntmps w).B (fnCx mixed tyTab Tryz.f31.ntmps w).w0 va A:=hA
 have hle:=hR.sl.le
 have hrl:∀ j,j<R.length→(R.getD j []).length≤9223372036854775807:=fun j hj=>(hR.row j hj).sl.le
 refine W.sreg (WO.boxA rfl rfl (fun b1 hb1=>(WO.p rfl rfl (WO.nil (W.seq (W.sreg (WO.field0 rfl rfl rfl (WO.load rfl rfl (Cell.own Pick.head rfl) rfl ?_))))))))
 refine' WO.len (n:=_) rfl rfl ?hs rfl ?_
 case hs=>(first | exact hP.sl)
 refine WO.p rfl rfl (WO.p rfl rfl ?_)
 refine WO.guard_bl rfl rfl (fun c1=>?_) (fun c1=>?_)
 ·refine WO.no rfl rfl (WO.no rfl rfl (WO.no rfl rfl (WO.no rfl rfl (WO.p rfl rfl (WO.p rfl rfl (WO.no rfl rfl (WO.no rfl rfl (WO.no rfl rfl (WO.no rfl rfl (WO.p rfl rfl (WO.p rfl rfl (WO.no rfl rfl (WO.no rfl rfl (WO.no rfl rfl (WO.no rfl rfl (WO.p rfl rfl (WO.nil (W.cond_t rfl (W.sreg (WO.p rfl rfl (WO.nil (W.ret ?_))))))))))))))))))))))
  refine fin.ret (Res.one rfl (RV.tmp rfl)) ⟨_,rfl,fun he=>?_⟩
  (exfalso;omega)
 ·refine WO.go' rfl (WO.field0 rfl rfl rfl (WO.go' rfl (WO.load rfl rfl (Cell.own Pick.head rfl) rfl (WO.go' rfl ?_))))
  refine' WO.len (n:=_) rfl rfl ?hs rfl ?_
  case hs=>(first | exact hP.sl)
  refine WO.pg rfl rfl rfl (WO.p rfl rfl (WO.p rfl rfl ?_))
  refine WO.guard_bl rfl rfl (fun c2=>?_) (fun c2=>?_)
  ·refine WO.no rfl rfl (WO.no rfl rfl (WO.no rfl rfl (WO.no rfl rfl (WO.p rfl rfl (WO.p rfl rfl (WO.no rfl rfl (WO.no rfl rfl (WO.no rfl rfl (WO.no rfl rfl (WO.p rfl rfl (WO.nil (W.cond_t rfl (W.sreg (WO.p rfl rfl (WO.nil (W.ret ?_))))))))))))))))
   refine fin.ret (Res.one rfl (RV.tmp rfl)) ⟨_,rfl,fun he=>?_⟩
   (exfalso;omega)
  ·refine WO.go' rfl (WO.fieldL rfl rfl rfl (WO.go' rfl (WO.load rfl rfl (Cell.own Pick.head rfl) rfl (WO.go' rfl ?_))))
   refine' WO.len (n:=_) rfl rfl ?hs rfl ?_
   case hs=>(first | exact hA.sl)
   refine WO.pg rfl rfl rfl (WO.p rfl rfl (WO.p rfl rfl ?_))
   refine WO.guard_bl rfl rfl (fun c3=>?_) (fun c3=>?_)
   ·refine WO.no rfl rfl (WO.no rfl rfl (WO.no rfl rfl (WO.no rfl rfl (WO.p rfl rfl (WO.nil (W.cond_t rfl (W.sreg (WO.p rfl rfl (WO.nil (W.ret ?_))))))))))
    refine fin.ret (Res.one rfl (RV.tmp rfl)) ⟨_,rfl,fun he=>?_⟩
    (exfalso;omega)
   ·refine WO.go' rfl (WO.fieldL rfl rfl rfl (WO.go' rfl (WO.load rfl rfl (Cell.own Pick.head rfl) rfl (WO.go' rfl ?_))))
    refine' WO.len (n:=_) rfl rfl ?hs rfl ?_
    case hs=>(first | exact hA.sl)
    refine WO.pg rfl rfl rfl (WO.p rfl rfl (WO.nil ?_))
    refine W.cond_bl rfl (fun c4=>?_) (fun c4=>?_)
    ·refine W.sreg (WO.p rfl rfl (WO.nil (W.ret ?_)))
     refine fin.ret (Res.one rfl (RV.tmp rfl)) ⟨_,rfl,fun he=>?_⟩
     (exfalso;omega)
    ·refine W.skip (W.seq (W.sreg (WO.fieldL rfl rfl rfl (WO.load rfl rfl (Cell.own Pick.head rfl) rfl ?_))))
     refine' WO.len (n:=_) rfl rfl ?hs rfl ?_
     case hs=>(first | exact hR.sl)
     refine WO.field0 rfl rfl rfl (WO.load rfl rfl (Cell.own Pick.head rfl) rfl ?_)
     refine' WO.len (n:=_) rfl rfl ?hs rfl ?_
     case hs=>(first | exact hP.sl)
     refine WO.p rfl rfl (WO.nil ?_)
     refine W.cond_bl rfl (fun c5=>?_) (fun c5=>?_)
     ·refine W.sreg (WO.p rfl rfl (WO.nil (W.ret ?_)))
      refine fin.ret (Res.one rfl (RV.tmp rfl)) ⟨_,rfl,fun he=>?_⟩
      (exfalso;omega)
     ·refine W.skip (W.seq (W.sreg (WO.p rfl rfl (WO.nil (W.block ?_)))))
      refine W.loop (fun (i:Nat)=>i≤R.length∧∀ r∈R.take i,r.length=A.length)
       (fun (i:Nat)=>[(3,.int .i64 (i:Int)),(1,.pointer (some ⟨b1,0,none⟩))])
       (fun (i:Nat)=>[pt b1 (.cells #[vp,va,o] 25 (0,0))])
       (fun (i:Nat)=>R.length-i) 0
       (by exact ⟨by omega,by simp⟩) ⟨rfl,rfl,trivial⟩ (by repeat (first | exact Sub.nil | refine Sub.cons (by repeat exact .head) ?_)) ?_
      rintro i ⟨hi0,hl0⟩
      refine W.seq (W.sreg (WO.p rfl rfl (WO.fieldL rfl rfl rfl (WO.load rfl rfl (Cell.own Pick.head rfl) rfl ?_))))
      refine' WO.len (n:=_) rfl rfl ?hs rfl ?_
      case hs=>(first | exact hR.sl)
      refine WO.p rfl rfl (WO.nil ?_)
      refine W.cond_bl rfl (fun c6=>?_) (fun c6=>?_)
      ·refine W.skip (W.seq (W.block (W.seq ?_)))
       have hq0:=hrl i (by omega)
       refine W.drawD 9 [.r 0 [],.b 1 [],.r 2 [],.r 3 [],.b 4 [],.r 5 [],.r 6 [],.b 7 [],.r 8 []] [] (A0:=[]) (Sub.refl _) (by kernel_rfl) ?_ ?_
       ·repeat constructor
       refine DT.r rfl rfl rfl (WO.fieldL rfl rfl rfl (WO.nil ⟨rfl,rfl⟩)) (DT.b rfl rfl rfl (WO.load rfl rfl (Cell.own Pick.head rfl) rfl (WO.nil ⟨rfl,rfl⟩)) (DT.r rfl rfl rfl (WO.p rfl rfl (WO.nil ⟨rfl,rfl⟩)) ?_))
       refine' DT.r rfl rfl rfl ?hq ?_
       case hq =>
        refine' WO.indexAddr (n:=_) (i:=_) rfl rfl rfl ?hs ?h1 rfl ?_
        case hs=>(first | exact hR.sl)
        case h1=>(omega)
        exact WO.nil ⟨rfl,rfl⟩
       refine' DT.b rfl rfl rfl ?hq ?_
       case hq =>
        refine' WO.load (v:=_) rfl rfl ?hc rfl ?_
        case hc=>(first | first | (refine hR.cellV ?_;omega) | (refine (hR.row i ?_).cell0 (i:=k) ?_ (0,0) ?_ <;> first | rfl | omega) | (refine (hR.row i ?_).cell0 (i:=((k:Int)-1).toNat) ?_ (0,0) ?_ <;> first | rfl | omega) | (refine (hR.row i ?_).cellAt (i:=k) (j:=1) ?_ (0,0) ?_ <;> first | rfl | omega) | (refine (hR.row i ?_).cellAt (i:=((k:Int)-1).toNat) (j:=1) ?_ (0,0) ?_ <;> first | rfl | omega))
        exact WO.nil ⟨rfl,rfl⟩
       refine' DT.r rfl rfl rfl ?hq ?_
       case hq =>
        refine' WO.len (n:=_) rfl rfl ?hs rfl ?_
        case hs=>(first | (refine (hR.row i ?_).sl;omega))
        exact WO.nil ⟨rfl,rfl⟩
       refine DT.r rfl rfl rfl (WO.fieldL rfl rfl rfl (WO.nil ⟨rfl,rfl⟩)) (DT.b rfl rfl rfl (WO.load rfl rfl (Cell.own Pick.head rfl) rfl (WO.nil ⟨rfl,rfl⟩)) ?_)
       refine' DT.r rfl rfl rfl ?hq ?_
       case hq =>
        refine' WO.len (n:=_) rfl rfl ?hs rfl ?_
        case hs=>(first | exact hA.sl)
        exact WO.nil ⟨rfl,rfl⟩
       refine DT.nil [_] rfl (WO.p rfl rfl (WO.nil ?_))
       refine W.cond_bl rfl (fun c7=>?_) (fun c7=>?_)
       ·refine W.sreg (WO.p rfl rfl (WO.nil (W.ret ?_)))
        refine fin.ret (Res.one rfl (RV.tmp rfl)) ⟨_,rfl,fun he=>?_⟩
        (exfalso;omega)
       ·refine W.skip (W.region (WO.p rfl rfl (WO.ar rfl rfl rfl (by unfold in64;omega) rfl (WO.p rfl rfl (WO.nil ?_)))))
        refine' ⟨i+1,?hp,?hmu,⟨rfl,rfl,trivial⟩,?hS⟩
        case hS=>repeat (first | exact Sub.nil | refine Sub.cons (by repeat exact .head) ?_)
        case hp=>exact ⟨by omega,all_succ (by omega) [] hl0 (by omega)⟩
        case hmu=>omega
      ·refine W.exit (blk_same (W.seq ?_))
       obtain rfl:R.length=i:=by omega
       rw [List.take_length] at hl0
       refine W.sreg (WO.field0 rfl rfl rfl (WO.load rfl rfl (Cell.own Pick.head rfl) rfl (WO.callR rfl Tryz.call79 (fun L w hi=>ref_rising w vp P (hP.later hi)) rfl (WO.p rfl rfl (WO.p rfl rfl ?_)))))
       refine WO.guard_nbl rfl rfl (fun c8=>?_) (fun c8=>?_)
       ·refine WO.no rfl rfl (WO.no rfl rfl (WO.no rfl rfl (WO.no rfl rfl (WO.p rfl rfl (WO.nil (W.cond_t rfl (W.sreg (WO.p rfl rfl (WO.nil (W.ret ?_))))))))))
        refine fin.ret (Res.one rfl (RV.tmp rfl)) ⟨_,rfl,fun he=>?_⟩
        (exfalso;omega)
       ·refine WO.go' rfl (WO.fieldL rfl rfl rfl (WO.go' rfl (WO.load rfl rfl (Cell.own Pick.head rfl) rfl (WO.go' rfl (WO.callR rfl Tryz.call79 (fun L w hi=>ref_rising w va A (hA.later hi)) rfl (WO.pg rfl rfl rfl (WO.p rfl rfl (WO.nil ?_))))))))
        refine W.cond_nbl rfl (fun c9=>?_) (fun c9=>?_)
        ·refine W.sreg (WO.p rfl rfl (WO.nil (W.ret ?_)))
         refine fin.ret (Res.one rfl (RV.tmp rfl)) ⟨_,rfl,fun he=>?_⟩
         (exfalso;omega)
        ·refine W.skip (W.seq (W.sreg (WO.p rfl rfl (WO.nil (W.block ?_)))))
         refine W.loop (fun (i:Nat)=>i≤R.length∧∀ r∈R.take i,∀ x∈r,rgX x)
          (fun (i:Nat)=>[(4,.int .i64 (i:Int)),(1,.pointer (some ⟨b1,0,none⟩))])
          (fun (i:Nat)=>[pt b1 (.cells #[vp,va,o] 25 (0,0))])
          (fun (i:Nat)=>R.length-i) 0
          (by exact ⟨by omega,by simp⟩) ⟨rfl,rfl,trivial⟩ (by repeat (first | exact Sub.nil | refine Sub.cons (by repeat exact .head) ?_)) ?_
         rintro i ⟨hi1,hg0⟩
         refine W.seq (W.sreg (WO.p rfl rfl (WO.fieldL rfl rfl rfl (WO.load rfl rfl (Cell.own Pick.head rfl) rfl ?_))))
         refine' WO.len (n:=_) rfl rfl ?hs rfl ?_
         case hs=>(first | exact hR.sl)
         refine WO.p rfl rfl (WO.nil ?_)
         refine W.cond_bl rfl (fun c10=>?_) (fun c10=>?_)
         ·refine W.skip (W.seq (W.block (W.sreg (WO.p rfl rfl (WO.nil (W.block ?_))))))
          refine W.loop (fun (k:Nat)=>k≤(R.getD i []).length∧∀ x∈(R.getD i []).take k,rgX x)
           (fun (k:Nat)=>[(5,.int .i64 (k:Int)),(4,.int .i64 (i:Int)),(1,.pointer (some ⟨b1,0,none⟩))])
           (fun (k:Nat)=>[pt b1 (.cells #[vp,va,o] 25 (0,0))])
           (fun (k:Nat)=>(R.getD i []).length-k) 0
           (by exact ⟨by omega,by simp⟩) ⟨rfl,rfl,rfl,trivial⟩ (by repeat (first | exact Sub.nil | refine Sub.cons (by repeat exact .head) ?_)) ?_
          rintro k ⟨hk0,hk1⟩
          refine W.seq ?_
          have hq0:=hrl i (by omega)
          refine W.sreg (WO.p rfl rfl (WO.fieldL rfl rfl rfl (WO.load rfl rfl (Cell.own Pick.head rfl) rfl (WO.p rfl rfl ?_))))
          refine' WO.indexAddr (n:=_) (i:=_) rfl rfl rfl ?hs ?h1 rfl ?_
          case hs=>(first | exact hR.sl)
          case h1=>(omega)
          refine' WO.load (v:=_) rfl rfl ?hc rfl ?_
          case hc=>(first | first | (refine hR.cellV ?_;omega) | (refine (hR.row i ?_).cell0 (i:=k) ?_ (0,0) ?_ <;> first | rfl | omega) | (refine (hR.row i ?_).cell0 (i:=((k:Int)-1).toNat) ?_ (0,0) ?_ <;> first | rfl | omega) | (refine (hR.row i ?_).cellAt (i:=k) (j:=1) ?_ (0,0) ?_ <;> first | rfl | omega) | (refine (hR.row i ?_).cellAt (i:=((k:Int)-1).toNat) (j:=1) ?_ (0,0) ?_ <;> first | rfl | omega))
          refine' WO.len (n:=_) rfl rfl ?hs rfl ?_
          case hs=>(first | (refine (hR.row i ?_).sl;omega))
          refine WO.p rfl rfl (WO.nil ?_)
          refine W.cond_bl rfl (fun c11=>?_) (fun c11=>?_)
          ·refine W.skip (W.seq (W.block (W.sreg (WO.fieldL rfl rfl rfl (WO.load rfl rfl (Cell.own Pick.head rfl) rfl (WO.p rfl rfl ?_))))))
           refine' WO.indexAddr (n:=_) (i:=_) rfl rfl rfl ?hs ?h1 rfl ?_
           case hs=>(first | exact hR.sl)
           case h1=>(omega)
           refine' WO.load (v:=_) rfl rfl ?hc rfl ?_
           case hc=>(first | first | (refine hR.cellV ?_;omega) | (refine (hR.row i ?_).cell0 (i:=k) ?_ (0,0) ?_ <;> first | rfl | omega) | (refine (hR.row i ?_).cell0 (i:=((k:Int)-1).toNat) ?_ (0,0) ?_ <;> first | rfl | omega) | (refine (hR.row i ?_).cellAt (i:=k) (j:=1) ?_ (0,0) ?_ <;> first | rfl | omega) | (refine (hR.row i ?_).cellAt (i:=((k:Int)-1).toNat) (j:=1) ?_ (0,0) ?_ <;> first | rfl | omega))
           refine WO.p rfl rfl ?_
           refine' WO.indexAddr (n:=_) (i:=_) rfl rfl rfl ?hs ?h1 rfl ?_
           case hs=>(first | (refine (hR.row i ?_).sl;omega))
           case h1=>(omega)
           refine' WO.loadA (vs:=_) rfl rfl ?hc ?hl rfl ?_
           case hc=>((refine (hR.row i ?_).cells ?_ (0,0) <;> omega))
           case hl=>rfl
           refine WO.alloc rfl rfl rfl (fun b2 hb2=>(WO.storeA rfl rfl rfl rfl Pick.head rfl rfl (WO.nil (W.sreg (WO.field0 rfl rfl rfl (WO.load rfl rfl (Cell.own Pick.head rfl) rfl (WO.p rfl rfl (WO.p rfl rfl ?_))))))))
           refine WO.guard_bl rfl rfl (fun c12=>?_) (fun c12=>?_)
           ·refine WO.no rfl rfl (WO.no rfl rfl (WO.no rfl rfl (WO.no rfl rfl (WO.no rfl rfl (WO.p rfl rfl (WO.p rfl rfl (WO.no rfl rfl (WO.no rfl rfl (WO.no rfl rfl (WO.p rfl rfl (WO.nil (W.cond_t rfl (W.sreg (WO.p rfl rfl (WO.nil (W.ret ?_))))))))))))))))
            refine fin.ret (Res.one rfl (RV.tmp rfl)) ⟨_,rfl,fun he=>?_⟩
            (exfalso;omega)
           ·refine WO.go' rfl (WO.field0 rfl rfl rfl (WO.go' rfl (WO.load rfl rfl (Cell.own Pick.head rfl) rfl (WO.go' rfl (WO.fieldL rfl rfl rfl (WO.go' rfl (WO.load rfl rfl (Cell.own Pick.head rfl) rfl (WO.pg rfl rfl rfl (WO.p rfl rfl (WO.p rfl rfl ?_))))))))))
            refine WO.guard_bl rfl rfl (fun c13=>?_) (fun c13=>?_)
            ·refine WO.no rfl rfl (WO.no rfl rfl (WO.no rfl rfl (WO.p rfl rfl (WO.nil (W.cond_t rfl (W.sreg (WO.p rfl rfl (WO.nil (W.ret ?_)))))))))
             refine fin.ret (Res.one rfl (RV.tmp rfl)) ⟨_,rfl,fun he=>?_⟩
             (exfalso;omega)
            ·refine WO.go' rfl (WO.fieldL rfl rfl rfl (WO.go' rfl (WO.load rfl rfl (Cell.own Pick.head rfl) rfl (WO.pg rfl rfl rfl (WO.p rfl rfl (WO.nil ?_))))))
             refine W.cond_bl rfl (fun c14=>?_) (fun c14=>?_)
             ·refine W.sreg (WO.p rfl rfl (WO.nil (W.ret ?_)))
              refine fin.ret (Res.one rfl (RV.tmp rfl)) ⟨_,rfl,fun he=>?_⟩
              (exfalso;omega)
             ·refine W.skip (W.region (WO.p rfl rfl (WO.ar rfl rfl rfl (by unfold in64;omega) rfl (WO.p rfl rfl (WO.nil ?_)))))
              refine' ⟨k+1,?hp,?hmu,⟨rfl,rfl,rfl,trivial⟩,?hS⟩
              case hS=>repeat (first | exact Sub.nil | refine Sub.cons (by repeat first | exact .head | apply Pick.tail) ?_)
              case hp=>exact ⟨by omega,all_succ (by omega) (0,0) hk1 (by unfold rgX;omega)⟩
              case hmu=>omega
          ·refine W.exit (blk_same (W.region (WO.p rfl rfl (WO.ar rfl rfl rfl (by unfold in64;omega) rfl (WO.p rfl rfl (WO.nil ?_))))))
           refine' ⟨i+1,?hp,?hmu,⟨rfl,rfl,trivial⟩,?hS⟩
           case hS=>repeat (first | exact Sub.nil | refine Sub.cons (by repeat exact .head) ?_)
           case hp=>exact ⟨by omega,all_succ (by omega) [] hg0 (all_len (by omega) hk1)⟩
           case hmu=>omega
         ·refine W.exit (blk_same (W.seq ?_))
          obtain rfl:R.length=i:=by omega
          rw [List.take_length] at hg0
          refine W.sreg (WO.p rfl rfl (WO.nil (W.block ?_)))
          refine W.loop (fun (i:Nat)=>i≤R.length∧∀ r∈R.take i,flR r r.length)
           (fun (i:Nat)=>[(7,.int .i64 (i:Int)),(1,.pointer (some ⟨b1,0,none⟩))])
           (fun (i:Nat)=>[pt b1 (.cells #[vp,va,o] 25 (0,0))])
           (fun (i:Nat)=>R.length-i) 0
           (by exact ⟨by omega,by simp⟩) ⟨rfl,rfl,trivial⟩ (by repeat (first | exact Sub.nil | refine Sub.cons (by repeat exact .head) ?_)) ?_
          rintro i ⟨hi2,hf0⟩
          refine W.seq (W.sreg (WO.p rfl rfl (WO.fieldL rfl rfl rfl (WO.load rfl rfl (Cell.own Pick.head rfl) rfl ?_))))
          refine' WO.len (n:=_) rfl rfl ?hs rfl ?_
          case hs=>(first | exact hR.sl)
          refine WO.p rfl rfl (WO.nil ?_)
          refine W.cond_bl rfl (fun c15=>?_) (fun c15=>?_)
          ·refine W.skip (W.seq (W.block (W.sreg (WO.p rfl rfl (WO.nil (W.block ?_))))))
           refine W.loop (fun (k:Nat)=>(1≤k∧k≤(R.getD i []).length+1)∧flR (R.getD i []) k)
            (fun (k:Nat)=>[(8,.int .i64 (k:Int)),(7,.int .i64 (i:Int)),(1,.pointer (some ⟨b1,0,none⟩))])
            (fun (k:Nat)=>[pt b1 (.cells #[vp,va,o] 25 (0,0))])
            (fun (k:Nat)=>(R.getD i []).length+1-k) 1
            (by exact ⟨by omega,fun m h1 h2=>by omega⟩) ⟨rfl,rfl,rfl,trivial⟩ (by repeat (first | exact Sub.nil | refine Sub.cons (by repeat exact .head) ?_)) ?_
           rintro k ⟨hk2,hk3⟩
           refine W.seq ?_
           have hq0:=hrl i (by omega)
           refine W.sreg (WO.p rfl rfl (WO.fieldL rfl rfl rfl (WO.load rfl rfl (Cell.own Pick.head rfl) rfl (WO.p rfl rfl ?_))))
           refine' WO.indexAddr (n:=_) (i:=_) rfl rfl rfl ?hs ?h1 rfl ?_
           case hs=>(first | exact hR.sl)
           case h1=>(omega)
           refine' WO.load (v:=_) rfl rfl ?hc rfl ?_
           case hc=>(first | first | (refine hR.cellV ?_;omega) | (refine (hR.row i ?_).cell0 (i:=k) ?_ (0,0) ?_ <;> first | rfl | omega) | (refine (hR.row i ?_).cell0 (i:=((k:Int)-1).toNat) ?_ (0,0) ?_ <;> first | rfl | omega) | (refine (hR.row i ?_).cellAt (i:=k) (j:=1) ?_ (0,0) ?_ <;> first | rfl | omega) | (refine (hR.row i ?_).cellAt (i:=((k:Int)-1).toNat) (j:=1) ?_ (0,0) ?_ <;> first | rfl | omega))
           refine' WO.len (n:=_) rfl rfl ?hs rfl ?_
           case hs=>(first | (refine (hR.row i ?_).sl;omega))
           refine WO.p rfl rfl (WO.nil ?_)
           refine W.cond_bl rfl (fun c16=>?_) (fun c16=>?_)
           ·refine W.skip (W.seq (W.block (W.seq ?_)))
            refine W.drawD 40 [.r 0 [],.b 1 [],.r 2 [],.r 3 [],.b 4 [],.r 5 [],.r 6 [],.r 7 [],.b 8 [],.r 9 [],.b 10 [],.r 11 [],.r 12 [],.b 13 [],.r 14 [],.r 15 [],.r 16 [],.r 17 [],.b 18 [],.r 19 [],.r 20 [],.r 21 [],.b 22 [],.r 23 [],.r 24 [],.b 25 [],.r 26 [],.r 27 [],.r 28 [],.b 29 [],.r 30 [],.b 31 [],.r 32 [],.r 33 [],.b 34 [],.r 35 [],.r 36 [],.r 37 [],.r 38 [],.b 39 []] [] (A0:=[]) (Sub.refl _) (by kernel_rfl) ?_ ?_
            ·repeat constructor
            refine DT.r rfl rfl rfl (WO.fieldL rfl rfl rfl (WO.nil ⟨rfl,rfl⟩)) (DT.b rfl rfl rfl (WO.load rfl rfl (Cell.own Pick.head rfl) rfl (WO.nil ⟨rfl,rfl⟩)) (DT.r rfl rfl rfl (WO.p rfl rfl (WO.nil ⟨rfl,rfl⟩)) ?_))
            refine' DT.r rfl rfl rfl ?hq ?_
            case hq =>
             refine' WO.indexAddr (n:=_) (i:=_) rfl rfl rfl ?hs ?h1 rfl ?_
             case hs=>(first | exact hR.sl)
             case h1=>(omega)
             exact WO.nil ⟨rfl,rfl⟩
            refine' DT.b rfl rfl rfl ?hq ?_
            case hq =>
             refine' WO.load (v:=_) rfl rfl ?hc rfl ?_
             case hc=>(first | first | (refine hR.cellV ?_;omega) | (refine (hR.row i ?_).cell0 (i:=k) ?_ (0,0) ?_ <;> first | rfl | omega) | (refine (hR.row i ?_).cell0 (i:=((k:Int)-1).toNat) ?_ (0,0) ?_ <;> first | rfl | omega) | (refine (hR.row i ?_).cellAt (i:=k) (j:=1) ?_ (0,0) ?_ <;> first | rfl | omega) | (refine (hR.row i ?_).cellAt (i:=((k:Int)-1).toNat) (j:=1) ?_ (0,0) ?_ <;> first | rfl | omega))
             exact WO.nil ⟨rfl,rfl⟩
            refine DT.r rfl rfl rfl (WO.p rfl rfl (WO.nil ⟨rfl,rfl⟩)) ?_
            refine' DT.r rfl rfl rfl ?hq ?_
            case hq =>
             refine' WO.indexAddr (n:=_) (i:=_) rfl rfl rfl ?hs ?h1 rfl ?_
             case hs=>(first | (refine (hR.row i ?_).sl;omega))
             case h1=>(omega)
             exact WO.nil ⟨rfl,rfl⟩
            refine DT.r rfl rfl rfl (WO.field0 rfl rfl rfl (WO.nil ⟨rfl,rfl⟩)) ?_
            refine' DT.b rfl rfl rfl ?hq ?_
            case hq =>
             refine' WO.load (v:=_) rfl rfl ?hc rfl ?_
             case hc=>(first | first | (refine hR.cellV ?_;omega) | (refine (hR.row i ?_).cell0 (i:=k) ?_ (0,0) ?_ <;> first | rfl | omega) | (refine (hR.row i ?_).cell0 (i:=((k:Int)-1).toNat) ?_ (0,0) ?_ <;> first | rfl | omega) | (refine (hR.row i ?_).cellAt (i:=k) (j:=1) ?_ (0,0) ?_ <;> first | rfl | omega) | (refine (hR.row i ?_).cellAt (i:=((k:Int)-1).toNat) (j:=1) ?_ (0,0) ?_ <;> first | rfl | omega))
             exact WO.nil ⟨rfl,rfl⟩
            refine DT.r rfl rfl rfl (WO.fieldL rfl rfl rfl (WO.nil ⟨rfl,rfl⟩)) (DT.b rfl rfl rfl (WO.load rfl rfl (Cell.own Pick.head rfl) rfl (WO.nil ⟨rfl,rfl⟩)) (DT.r rfl rfl rfl (WO.p rfl rfl (WO.nil ⟨rfl,rfl⟩)) ?_))
            refine' DT.r rfl rfl rfl ?hq ?_
            case hq =>
             refine' WO.indexAddr (n:=_) (i:=_) rfl rfl rfl ?hs ?h1 rfl ?_
             case hs=>(first | exact hR.sl)
             case h1=>(omega)
             exact WO.nil ⟨rfl,rfl⟩
            refine' DT.b rfl rfl rfl ?hq ?_
            case hq =>
             refine' WO.load (v:=_) rfl rfl ?hc rfl ?_
             case hc=>(first | first | (refine hR.cellV ?_;omega) | (refine (hR.row i ?_).cell0 (i:=k) ?_ (0,0) ?_ <;> first | rfl | omega) | (refine (hR.row i ?_).cell0 (i:=((k:Int)-1).toNat) ?_ (0,0) ?_ <;> first | rfl | omega) | (refine (hR.row i ?_).cellAt (i:=k) (j:=1) ?_ (0,0) ?_ <;> first | rfl | omega) | (refine (hR.row i ?_).cellAt (i:=((k:Int)-1).toNat) (j:=1) ?_ (0,0) ?_ <;> first | rfl | omega))
             exact WO.nil ⟨rfl,rfl⟩
            refine DT.r rfl rfl rfl (WO.p rfl rfl (WO.nil ⟨rfl,rfl⟩)) (DT.r rfl rfl rfl (WO.ar rfl rfl rfl (by unfold in64;omega) rfl (WO.nil ⟨rfl,rfl⟩)) ?_)
            refine' DT.r rfl rfl rfl ?hq ?_
            case hq =>
             refine' WO.indexAddrZ (n:=_) rfl rfl rfl ?hs ?h00 ?h1 rfl ?_
             case hs=>(first | (refine (hR.row i ?_).sl;omega))
             case h00=>omega
             case h1=>(omega)
             exact WO.nil ⟨rfl,rfl⟩
            refine DT.r rfl rfl rfl (WO.field0 rfl rfl rfl (WO.nil ⟨rfl,rfl⟩)) ?_
            refine' DT.b rfl rfl rfl ?hq ?_
            case hq =>
             refine' WO.load (v:=_) rfl rfl ?hc rfl ?_
             case hc=>(first | first | (refine hR.cellV ?_;omega) | (refine (hR.row i ?_).cell0 (i:=k) ?_ (0,0) ?_ <;> first | rfl | omega) | (refine (hR.row i ?_).cell0 (i:=((k:Int)-1).toNat) ?_ (0,0) ?_ <;> first | rfl | omega) | (refine (hR.row i ?_).cellAt (i:=k) (j:=1) ?_ (0,0) ?_ <;> first | rfl | omega) | (refine (hR.row i ?_).cellAt (i:=((k:Int)-1).toNat) (j:=1) ?_ (0,0) ?_ <;> first | rfl | omega))
             exact WO.nil ⟨rfl,rfl⟩
            refine DT.r rfl rfl rfl (WO.p rfl rfl (WO.nil ⟨rfl,rfl⟩)) ?_
            refine DT.rB rfl rfl rfl (WO.p rfl rfl (WO.nil ⟨rfl,rfl⟩)) (fun c17=>?_) (fun c17=>?_)
            ·refine DT.r rfl rfl rfl (WO.no rfl rfl (WO.nil ⟨rfl,rfl⟩)) (DT.b rfl rfl rfl (WO.no rfl rfl (WO.nil ⟨rfl,rfl⟩)) (DT.r rfl rfl rfl (WO.no rfl rfl (WO.nil ⟨rfl,rfl⟩)) (DT.r rfl rfl rfl (WO.no rfl rfl (WO.nil ⟨rfl,rfl⟩)) (DT.b rfl rfl rfl (WO.no rfl rfl (WO.nil ⟨rfl,rfl⟩)) (DT.r rfl rfl rfl (WO.no rfl rfl (WO.nil ⟨rfl,rfl⟩)) (DT.r rfl rfl rfl (WO.no rfl rfl (WO.nil ⟨rfl,rfl⟩)) (DT.r rfl rfl rfl (WO.no rfl rfl (WO.nil ⟨rfl,rfl⟩)) (DT.b rfl rfl rfl (WO.no rfl rfl (WO.nil ⟨rfl,rfl⟩)) (DT.r rfl rfl rfl (WO.no rfl rfl (WO.nil ⟨rfl,rfl⟩)) (DT.b rfl rfl rfl (WO.no rfl rfl (WO.nil ⟨rfl,rfl⟩)) ?_))))))))))
             refine DT.r rfl rfl rfl (WO.no rfl rfl (WO.nil ⟨rfl,rfl⟩)) (DT.r rfl rfl rfl (WO.no rfl rfl (WO.nil ⟨rfl,rfl⟩)) (DT.b rfl rfl rfl (WO.no rfl rfl (WO.nil ⟨rfl,rfl⟩)) (DT.r rfl rfl rfl (WO.no rfl rfl (WO.nil ⟨rfl,rfl⟩)) (DT.r rfl rfl rfl (WO.no rfl rfl (WO.nil ⟨rfl,rfl⟩)) (DT.r rfl rfl rfl (WO.no rfl rfl (WO.nil ⟨rfl,rfl⟩)) (DT.r rfl rfl rfl (WO.no rfl rfl (WO.nil ⟨rfl,rfl⟩)) (DT.b rfl rfl rfl (WO.no rfl rfl (WO.nil ⟨rfl,rfl⟩)) (DT.nil [_] rfl (WO.no rfl rfl (WO.p rfl rfl (WO.nil (W.cond_t rfl (W.sreg (WO.p rfl rfl (WO.nil (W.ret ?_))))))))))))))))
             refine fin.ret (Res.one rfl (RV.tmp rfl)) ⟨_,rfl,fun he=>?_⟩
             (exfalso;omega)
            ·refine DT.r rfl rfl rfl (WO.go' rfl (WO.fieldL rfl rfl rfl (WO.nil ⟨rfl,rfl⟩))) (DT.b rfl rfl rfl (WO.go' rfl (WO.load rfl rfl (Cell.own Pick.head rfl) rfl (WO.nil ⟨rfl,rfl⟩))) (DT.r rfl rfl rfl (WO.pg rfl rfl rfl (WO.nil ⟨rfl,rfl⟩)) ?_))
             refine' DT.r rfl rfl rfl ?hq ?_
             case hq =>
              refine WO.go' rfl ?_
              refine' WO.indexAddr (n:=_) (i:=_) rfl rfl rfl ?hs ?h1 rfl ?_
              case hs=>(first | exact hR.sl)
              case h1=>(omega)
              exact WO.nil ⟨rfl,rfl⟩
             refine' DT.b rfl rfl rfl ?hq ?_
             case hq =>
              refine WO.go' rfl ?_
              refine' WO.load (v:=_) rfl rfl ?hc rfl ?_
              case hc=>(first | first | (refine hR.cellV ?_;omega) | (refine (hR.row i ?_).cell0 (i:=k) ?_ (0,0) ?_ <;> first | rfl | omega) | (refine (hR.row i ?_).cell0 (i:=((k:Int)-1).toNat) ?_ (0,0) ?_ <;> first | rfl | omega) | (refine (hR.row i ?_).cellAt (i:=k) (j:=1) ?_ (0,0) ?_ <;> first | rfl | omega) | (refine (hR.row i ?_).cellAt (i:=((k:Int)-1).toNat) (j:=1) ?_ (0,0) ?_ <;> first | rfl | omega))
              exact WO.nil ⟨rfl,rfl⟩
             refine DT.r rfl rfl rfl (WO.pg rfl rfl rfl (WO.nil ⟨rfl,rfl⟩)) ?_
             refine' DT.r rfl rfl rfl ?hq ?_
             case hq =>
              refine WO.go' rfl ?_
              refine' WO.indexAddr (n:=_) (i:=_) rfl rfl rfl ?hs ?h1 rfl ?_
              case hs=>(first | (refine (hR.row i ?_).sl;omega))
              case h1=>(omega)
              exact WO.nil ⟨rfl,rfl⟩
             refine DT.r rfl rfl rfl (WO.go' rfl (WO.field rfl rfl rfl (WO.nil ⟨rfl,rfl⟩))) ?_
             refine' DT.b rfl rfl rfl ?hq ?_
             case hq =>
              refine WO.go' rfl ?_
              refine' WO.load (v:=_) rfl rfl ?hc rfl ?_
              case hc=>(first | first | (refine hR.cellV ?_;omega) | (refine (hR.row i ?_).cell0 (i:=k) ?_ (0,0) ?_ <;> first | rfl | omega) | (refine (hR.row i ?_).cell0 (i:=((k:Int)-1).toNat) ?_ (0,0) ?_ <;> first | rfl | omega) | (refine (hR.row i ?_).cellAt (i:=k) (j:=1) ?_ (0,0) ?_ <;> first | rfl | omega) | (refine (hR.row i ?_).cellAt (i:=((k:Int)-1).toNat) (j:=1) ?_ (0,0) ?_ <;> first | rfl | omega))
              exact WO.nil ⟨rfl,rfl⟩
             refine DT.r rfl rfl rfl (WO.go' rfl (WO.fieldL rfl rfl rfl (WO.nil ⟨rfl,rfl⟩))) (DT.b rfl rfl rfl (WO.go' rfl (WO.load rfl rfl (Cell.own Pick.head rfl) rfl (WO.nil ⟨rfl,rfl⟩))) (DT.r rfl rfl rfl (WO.pg rfl rfl rfl (WO.nil ⟨rfl,rfl⟩)) ?_))
             refine' DT.r rfl rfl rfl ?hq ?_
             case hq =>
              refine WO.go' rfl ?_
              refine' WO.indexAddr (n:=_) (i:=_) rfl rfl rfl ?hs ?h1 rfl ?_
              case hs=>(first | exact hR.sl)
              case h1=>(omega)
              exact WO.nil ⟨rfl,rfl⟩
             refine' DT.b rfl rfl rfl ?hq ?_
             case hq =>
              refine WO.go' rfl ?_
              refine' WO.load (v:=_) rfl rfl ?hc rfl ?_
              case hc=>(first | first | (refine hR.cellV ?_;omega) | (refine (hR.row i ?_).cell0 (i:=k) ?_ (0,0) ?_ <;> first | rfl | omega) | (refine (hR.row i ?_).cell0 (i:=((k:Int)-1).toNat) ?_ (0,0) ?_ <;> first | rfl | omega) | (refine (hR.row i ?_).cellAt (i:=k) (j:=1) ?_ (0,0) ?_ <;> first | rfl | omega) | (refine (hR.row i ?_).cellAt (i:=((k:Int)-1).toNat) (j:=1) ?_ (0,0) ?_ <;> first | rfl | omega))
              exact WO.nil ⟨rfl,rfl⟩
             refine DT.r rfl rfl rfl (WO.pg rfl rfl rfl (WO.nil ⟨rfl,rfl⟩)) (DT.r rfl rfl rfl (WO.go' rfl (WO.ar rfl rfl rfl (by unfold in64;omega) rfl (WO.nil ⟨rfl,rfl⟩))) ?_)
             refine' DT.r rfl rfl rfl ?hq ?_
             case hq =>
              refine WO.go' rfl ?_
              refine' WO.indexAddrZ (n:=_) rfl rfl rfl ?hs ?h00 ?h1 rfl ?_
              case hs=>(first | (refine (hR.row i ?_).sl;omega))
              case h00=>omega
              case h1=>(omega)
              exact WO.nil ⟨rfl,rfl⟩
             refine DT.r rfl rfl rfl (WO.go' rfl (WO.field rfl rfl rfl (WO.nil ⟨rfl,rfl⟩))) ?_
             refine' DT.b rfl rfl rfl ?hq ?_
             case hq =>
              refine WO.go' rfl ?_
              refine' WO.load (v:=_) rfl rfl ?hc rfl ?_
              case hc=>(first | first | (refine hR.cellV ?_;omega) | (refine (hR.row i ?_).cell0 (i:=k) ?_ (0,0) ?_ <;> first | rfl | omega) | (refine (hR.row i ?_).cell0 (i:=((k:Int)-1).toNat) ?_ (0,0) ?_ <;> first | rfl | omega) | (refine (hR.row i ?_).cellAt (i:=k) (j:=1) ?_ (0,0) ?_ <;> first | rfl | omega) | (refine (hR.row i ?_).cellAt (i:=((k:Int)-1).toNat) (j:=1) ?_ (0,0) ?_ <;> first | rfl | omega))
              exact WO.nil ⟨rfl,rfl⟩
             refine DT.nil [_] rfl (WO.pg rfl rfl rfl (WO.p rfl rfl (WO.nil ?_)))
             refine W.cond_bl rfl (fun c18=>?_) (fun c18=>?_)
             ·refine W.sreg (WO.p rfl rfl (WO.nil (W.ret ?_)))
              refine fin.ret (Res.one rfl (RV.tmp rfl)) ⟨_,rfl,fun he=>?_⟩
              (exfalso;omega)
             ·refine W.skip (W.region (WO.p rfl rfl (WO.ar rfl rfl rfl (by unfold in64;omega) rfl (WO.p rfl rfl (WO.nil ?_)))))
              refine' ⟨k+1,?hp,?hmu,⟨rfl,rfl,rfl,trivial⟩,?hS⟩
              case hS=>repeat (first | exact Sub.nil | refine Sub.cons (by repeat exact .head) ?_)
              case hp=>exact ⟨by omega,hk3.next (by omega)⟩
              case hmu=>omega
           ·refine W.exit (blk_same (W.region (WO.p rfl rfl (WO.ar rfl rfl rfl (by unfold in64;omega) rfl (WO.p rfl rfl (WO.nil ?_))))))
            refine' ⟨i+1,?hp,?hmu,⟨rfl,rfl,trivial⟩,?hS⟩
            case hS=>repeat (first | exact Sub.nil | refine Sub.cons (by repeat exact .head) ?_)
            case hp=>exact ⟨by omega,all_succ (by omega) [] hf0 (fun m hm h0=>hk3 m (by omega) h0)⟩
            case hmu=>omega
          ·refine W.exit (blk_same (W.sreg (WO.p rfl rfl (WO.nil (W.ret ?_)))))
           refine fin.ret (Res.one rfl (RV.tmp rfl)) ⟨_,rfl,fun he=>?_⟩
           (have hl9:R.length=i:=(by omega);subst hl9;rw [List.take_length] at hf0;exact ⟨by omega,by omega,by omega,hl0,by assumption,by assumption,hg0,hf0⟩)
end Go.Proofs.YtfchgmiiicidcaaGreat
namespace Go.Proofs.YtfchgmiiicidcaaGreat
open Go Go.TH
attribute [local irreducible] W WO pt
set_option maxRecDepth 10000
set_option maxHeartbeats 4000000
theorem c_chart08 (w:World) (vp va o:Value) (rv:List Value) (P A:List Int) (R:Ch.Rws) (hP:RdF encI 1 w.heap.size w vp P) (hA:RdF encI 1 w.heap.size w va A) (hR:RdR encP 2 w.heap.size w o rv R):RetE Tryz.prog 7 [.agg #[vp,va,o]].toArray w (fun r=>∃ b:Bool,r=.bool b∧(b=true→Ch.OkC P A R)):=by
 refine RetE.of mixed tyTab Tryz.func7 rfl rfl ?_
 replace hR:RdR encP 2 (fnCx mixed tyTab Tryz.f7.ntmps w).B (fnCx mixed tyTab Tryz.f7.ntmps w).w0 o rv R:=hR
 replace hP:RdF encI 1 (fnCx mixed tyTab Tryz.f7.ntmps w).B (fnCx mixed tyTab Tryz.f7.ntmps w).w0 vp P:=hP
 replace hA:RdF encI 1 (fnCx mixed tyTab Tryz.f7.ntmps w).B (fnCx mixed tyTab Tryz.f7.ntmps w).w0 va A:=hA
 have hle:=hR.sl.le
 refine W.sreg (WO.boxA rfl rfl (fun b1 hb1=>(WO.p rfl rfl (WO.nil (W.seq (W.sreg (WO.fieldL rfl rfl rfl (WO.load rfl rfl (Cell.own Pick.head rfl) rfl ?_))))))))
 refine' WO.len (n:=_) rfl rfl ?hs rfl ?_
 case hs=>(first | exact hR.sl)
 refine WO.p rfl rfl (WO.nil ?_)
 refine W.cond_bl rfl (fun c1=>?_) (fun c1=>?_)
 ·refine W.sreg (WO.p rfl rfl (WO.nil (W.ret ?_)))
  refine fin.ret (Res.one rfl (RV.tmp rfl)) ⟨_,rfl,fun h9=>?_⟩
  (exfalso;cases h9)
 ·refine W.skip (W.seq (W.sreg (WO.p rfl rfl (WO.nil (W.block ?_)))))
  refine W.loop (fun (i:Nat)=>i≤R.length)
   (fun (i:Nat)=>[(3,.int .i64 (i:Int)),(1,.pointer (some ⟨b1,0,none⟩))])
   (fun (i:Nat)=>[pt b1 (.cells #[vp,va,o] 25 (0,0))])
   (fun (i:Nat)=>R.length-i) 0
   (by omega) ⟨rfl,rfl,trivial⟩ (by repeat (first | exact Sub.nil | refine Sub.cons (by repeat exact .head) ?_)) ?_
  rintro i hi0
  refine W.seq (W.sreg (WO.p rfl rfl (WO.fieldL rfl rfl rfl (WO.load rfl rfl (Cell.own Pick.head rfl) rfl ?_))))
  refine' WO.len (n:=_) rfl rfl ?hs rfl ?_
  case hs=>(first | exact hR.sl)
  refine WO.p rfl rfl (WO.nil ?_)
  refine W.cond_bl rfl (fun c2=>?_) (fun c2=>?_)
  ·refine W.skip (W.seq (W.block (W.sreg (WO.fieldL rfl rfl rfl (WO.load rfl rfl (Cell.own Pick.head rfl) rfl (WO.p rfl rfl ?_))))))
   refine' WO.indexAddr (n:=_) (i:=_) rfl rfl rfl ?hs ?h1 rfl ?_
   case hs=>(first | exact hR.sl)
   case h1=>(omega)
   refine' WO.load (v:=_) rfl rfl ?hc rfl ?_
   case hc=>((refine hR.cellV ?_;omega))
   refine' WO.len (n:=_) rfl rfl ?hs rfl ?_
   case hs=>(first | (refine (hR.row i ?_).sl;omega))
   refine WO.p rfl rfl (WO.nil ?_)
   refine W.cond_bl rfl (fun c3=>?_) (fun c3=>?_)
   ·refine W.sreg (WO.p rfl rfl (WO.nil (W.ret ?_)))
    refine fin.ret (Res.one rfl (RV.tmp rfl)) ⟨_,rfl,fun h9=>?_⟩
    (exfalso;cases h9)
   ·refine W.skip (W.region (WO.p rfl rfl (WO.ar rfl rfl rfl (by unfold in64;omega) rfl (WO.p rfl rfl (WO.nil ?_)))))
    refine' ⟨i+1,?hp,?hmu,⟨rfl,rfl,trivial⟩,?hS⟩
    case hS=>repeat (first | exact Sub.nil | refine Sub.cons (by repeat exact .head) ?_)
    case hp=>omega
    case hmu=>omega
  ·refine W.exit (blk_same (W.sreg (WO.loadA rfl rfl (Cells.own Pick.head) rfl rfl (WO.callE rfl Tryz.call31 (fun L w hi=>ref_CheckChart w vp va o rv P A R (hP.later hi) (hA.later hi) (hR.later hi)) rfl ?_))))
   rintro _ ⟨e,rfl,he⟩
   refine WO.p rfl rfl (WO.p rfl rfl (WO.nil (W.ret ?_)))
   refine fin.ret (Res.one rfl (RV.tmp rfl)) ⟨_,rfl,fun h9=>?_⟩
   exact he (bl_t.1 h9)
end Go.Proofs.YtfchgmiiicidcaaGreat
namespace Go.Proofs.YtfchgmiiicidcaaGreat
open Go Go.TH
attribute [local irreducible] W WO pt
set_option maxRecDepth 10000
set_option maxHeartbeats 4000000
end Go.Proofs.YtfchgmiiicidcaaGreat
namespace Go.Proofs.YtfchgmiiicidcaaGreat
open Go Go.TH
attribute [local irreducible] W WO pt
set_option maxRecDepth 10000
set_option maxHeartbeats 4000000
end Go.Proofs.YtfchgmiiicidcaaGreat
namespace Go.TX
open Go Go.TH
noncomputable section
variable {ρ:Ren} {N:Nat} {env:Tr SV} {a:Act} {P:Program} {D:Nat→Prop} {st st':St} {w:World}

/-! ### Parts of values -/
def ptS (P:Program) (T:TypeId) (l:List SV) (o:Nat):Option SV:=match isAggB P T with
  | some true=>match szv P T with
    | some n=>subK l o n fun vs=>some (.agg vs)
    | none=>none
  | some false=>nth l o
  | none=>none
theorem ptS_ok {T:Nat} {l:List SV} {us:List Value} {o:Nat} {v:SV} (hl:RelL ρ l us) (h:ptS P T l o=some v):∃ u,(part T us.toArray o).run P w=.ok u w∧Rel ρ v u:=by
  unfold ptS at h
  split at h
  · rename_i hagg
    split at h
    · rename_i n hn
      obtain ⟨h1,h2⟩:=subK_some h
      simp only [Option.some.injEq] at h2
      subst h2
      refine ⟨.agg ((us.drop o).take n).toArray,?_,by rw [Rel];exact ⟨_,(hl.drop o).take n,rfl⟩⟩
      simp only [part,Sem.run_bind,run_isAgg hagg,Result.andThen_ok,if_true,TH.run_sizeOf hn]
      simp [List.extract_eq_take_drop]
    · cases h
  · rename_i hagg
    rw [nth_eq] at h
    obtain ⟨u,hu,hr⟩:=hl.at h
    refine ⟨u,?_,hr⟩
    simp only [part,Sem.run_bind,run_isAgg hagg,Result.andThen_ok]
    simp [hu]
  · cases h
def fdS (P:Program) (T f:Nat) (x:SV):Option SV:=match x with
  | .agg l=>match P.underlying T with
    | some (.struct fs)=>match fs[f]? with
      | some fd=>ptS P fd.type l fd.offset
      | none=>none
    | _=>none
  | _=>none
theorem fdS_ok {T f:Nat} {x v:SV} {u:Value} (hx:Rel ρ x u) (h:fdS P T f x=some v):∃ z,(Instr.field T u f).run P w=.ok z w∧Rel ρ v z:=by
  cases x <;> simp only [fdS] at h <;> try (cases h;done)
  rename_i l
  rw [Rel] at hx
  obtain ⟨us,hl,rfl⟩:=hx
  split at h
  · rename_i fs hu
    split at h
    · rename_i fd hf
      obtain ⟨z,h1,h2⟩:=ptS_ok (w:=w) hl h
      refine ⟨z,?_,h2⟩
      simp [Instr.field,run_underlying hu,hf,asAgg,h1]
    · cases h
  · cases h
def ixS (P:Program) (T:Nat) (x i:SV):Option SV:=match x with
  | .agg l=>match i with
    | .raw (.int _ (.ofNat i))=>match arT P T with
      | some (len,e,sz)=>bif Nat.blt i len then ptS P e l (i*sz) else none
      | none=>none
    | _=>none
  | .raw u=>match i with
    | .raw z=>match pv P (Instr.index T u z) with
      | some (.int k n)=>some (.raw (.int k n))
      | _=>none
    | _=>none
  | _=>none
theorem ixS_ok {T:Nat} {x i v:SV} {u z:Value} (hx:Rel ρ x u) (hi:Rel ρ i z) (h:ixS P T x i=some v):∃ q,(Instr.index T u z).run P w=.ok q w∧Rel ρ v q:=by
  unfold ixS at h
  split at h
  · rename_i l
    rw [Rel] at hx
    obtain ⟨us,hl,rfl⟩:=hx
    split at h
    · rename_i k i'
      rw [Rel] at hi
      subst hi
      split at h
      · rename_i len e sz har
        have hA:=arT_ok har
        cases h1:Nat.blt i' len with
        | false=>rw [h1] at h;cases h
        | true =>
          rw [h1,cond_true] at h
          have h1:=Nat.blt_eq.mp h1
          obtain ⟨q,h2,h3⟩:=ptS_ok (w:=w) hl h
          refine ⟨q,?_,h3⟩
          have g1:(i':Int)<(len:Int):=by omega
          simp [Instr.index,asIntOf,run_underlying hA.u,g1,h1,TH.run_sizeOf hA.size,h2]
      · cases h
    · cases h
  · rename_i u0
    rw [Rel] at hx
    subst hx
    split at h
    · rename_i z0
      rw [Rel] at hi
      subst hi
      split at h
      · rename_i k n hp
        simp only [Option.some.injEq] at h
        exact ⟨_,pv_run hp w,by rw [← h,Rel]⟩
      · cases h
    · cases h
  · cases h
def exS (x:SV) (i:Nat):Option SV:=match x with
  | .tup l=>nth l i
  | _=>none
theorem exS_ok {x v:SV} {i:Nat} {u:Value} (hx:Rel ρ x u) (h:exS x i=some v):∃ z,(Instr.extract u i).run P w=.ok z w∧Rel ρ v z:=by
  cases x <;> simp only [exS] at h <;> try (cases h;done)
  rename_i l
  rw [Rel] at hx
  obtain ⟨us,hl,rfl⟩:=hx
  rw [nth_eq] at h
  obtain ⟨z,hz,hr⟩:=hl.at h
  exact ⟨z,by simp [Instr.extract,hz],hr⟩

/-! ### Lengths -/
def lnS (P:Program) (T:Nat) (x:SV) (st:St):Option (SV × St):=match P.underlying T with
  | some (.slice _)=>match x with
    | .sl _ _ n _=>some (.raw (.int .i64 (.ofNat n)),st)
    | .sl0=>some (.raw (.int .i64 0),st)
    | .raw (.slice _ n _)=>some (.raw (.int .i64 (.ofNat n)),st)
    | _=>none
  | some (.map _ _)=>match x with
    | .raw (.map none)=>some (.raw (.int .i64 0),st)
    | .map b=>match st with
      | ⟨h,nx,bs,R,W⟩=>match h.get b with
        | some (.map es _)=>insK bs b R fun R'=>natK (llen es) fun n=>some (.raw (.int .i64 (.ofNat n)),⟨h,nx,bs,R',W⟩)
        | _=>none
    | _=>none
  | _=>none
theorem MRel.len {es:List SEnt}:∀ {ms:List MapEntry},MRel ρ es ms→ms.length=es.length:=by
  induction es with
  | nil=>intro ms h;rw [MRel] at h;rw [h];rfl
  | cons e es ih=>intro ms h;rw [MRel] at h;obtain ⟨m,r,rfl,_,_,_,h5⟩:=h;simp [ih h5]
theorem lnS_ok {T ty:Nat} {x v:SV} {u:Value} (hx:Rel ρ x u) (h:lnS P T x st=some (v,st')) (hs:Sim ρ D st w) (hD:∀ x,x∈st'.R∨st.base≤x→D x):Did P ρ D st st' w v (Builtin.len_ #[T] ty #[u]):=by
  unfold lnS at h
  split at h
  · rename_i e hu
    split at h <;> try (cases h;done)
    · simp only [Option.some.injEq,Prod.mk.injEq] at h
      obtain ⟨e1,e2⟩:=h
      subst e2
      rw [Rel] at hx
      obtain ⟨_,_,_,_,_,rfl⟩:=hx
      exact Did.pure hs (by simp [Builtin.len_,run_underlying hu,goInt];rfl) (by rw [← e1,Rel];first | done | rfl)
    · simp only [Option.some.injEq,Prod.mk.injEq] at h
      obtain ⟨e1,e2⟩:=h
      subst e2
      rw [Rel] at hx
      obtain ⟨_,_,rfl⟩:=hx
      exact Did.pure hs (by simp [Builtin.len_,run_underlying hu,goInt];rfl) (by rw [← e1,Rel];first | done | rfl)
    · simp only [Option.some.injEq,Prod.mk.injEq] at h
      obtain ⟨e1,e2⟩:=h
      subst e2
      rw [Rel] at hx
      subst hx
      exact Did.pure hs (by simp [Builtin.len_,run_underlying hu,goInt];rfl) (by rw [← e1,Rel];first | done | rfl)
  · rename_i kt et hu
    split at h <;> try (cases h;done)
    · simp only [Option.some.injEq,Prod.mk.injEq] at h
      obtain ⟨e1,e2⟩:=h
      subst e2
      rw [Rel] at hx
      subst hx
      exact Did.pure hs (by simp [Builtin.len_,run_underlying hu,goInt];rfl) (by rw [← e1,Rel];first | done | rfl)
    · rename_i b
      cases st with
      | mk hh nx bs R W =>
        simp only at h
        split at h
        · rename_i es c hg
          rw [insK_eq,natK_eq] at h
          simp only [Option.some.injEq,Prod.mk.injEq] at h
          obtain ⟨e1,e2⟩:=h
          rw [Rel] at hx
          obtain ⟨B,s,hb,rfl⟩:=hx
          have hd:D b:=hD b (by rw [← e2];exact ins_has _ _ _)
          obtain ⟨b',s',ob,q1,q2,ms,rfl,q4⟩:=hs.live b _ hd hg
          rw [hb] at q1;cases q1
          refine ⟨.int .i64 (ms.length:Int),w,ρ,?_,?_,by rw [← e2];exact Step.touch hs (ins_sub _ _ _) fun _ h=>h⟩
          · simp [Builtin.len_,run_underlying hu,goInt,getObj,Sem.run,q2]
          · rw [← e1,Rel,q4.len,llen_eq];rfl
        · cases h
  · cases h

/-! ### Numbers -/
def kEq:IntKind→IntKind→Bool
  | .i8,.i8=>true | .i16,.i16=>true | .i32,.i32=>true | .i64,.i64=>true
  | .u8,.u8=>true | .u16,.u16=>true | .u32,.u32=>true | .u64,.u64=>true
  | _,_=>false
theorem kEq_eq {k k':IntKind} (h:kEq k k'=true):k=k':=by cases k <;> cases k' <;> first | rfl | cases h
def kmax:IntKind→Nat
  | .i8=>127 | .i16=>32767 | .i32=>2147483647 | .i64=>9223372036854775807
  | .u8=>255 | .u16=>65535 | .u32=>4294967295 | .u64=>18446744073709551615
def ksg:IntKind→Bool
  | .i8=>true | .i16=>true | .i32=>true | .i64=>true
  | _=>false
def wrapF (k:IntKind) (n:Int):Int:=match n with
  | .ofNat m=>bif Nat.ble m (kmax k) then .ofNat m else k.wrap n
  | .negSucc m=>bif ksg k&&Nat.ble m (kmax k) then .negSucc m else k.wrap n
theorem fits_of {k:IntKind} {m:Nat} (h:m≤kmax k):Fits k m:=by
  cases k <;> simp only [kmax] at h <;> simp [Fits,room,IntKind.bits,IntKind.signed] <;> omega
theorem wrap_pos {k:IntKind} {m:Nat} (h:m≤kmax k):k.wrap (m:Int)=m:=wrap_nat (fits_of h)
theorem kbits (k:IntKind) (hk:ksg k=true):k.signed=true∧(2 ^ k.bits:Int)=2*2 ^ (k.bits-1)∧((kmax k:Nat):Int)+1=2 ^ (k.bits-1):=by
  cases k <;> first | (cases hk;done) | exact ⟨rfl,rfl,rfl⟩
theorem wrap_neg {k:IntKind} {m:Nat} (hk:ksg k=true) (h:m≤kmax k):k.wrap (Int.negSucc m)=Int.negSucc m:=by
  obtain ⟨h1,h2,h3⟩:=kbits k hk
  unfold IntKind.wrap
  rw [h2]
  generalize (2 ^ (k.bits-1):Int)=H at *
  have e:Int.negSucc m%(2*H)=Int.negSucc m+2*H:=by
    rw [← Int.add_emod_right]
    exact Int.emod_eq_of_lt (by rw [Int.negSucc_eq];omega) (by rw [Int.negSucc_eq];omega)
  simp only [e,h1,Bool.true_and]
  rw [if_pos (by rw [decide_eq_true_eq,Int.negSucc_eq];omega)]
  omega
theorem wrapF_eq (k:IntKind) (n:Int):wrapF k n=k.wrap n:=by
  cases n with
  | ofNat m =>
    simp only [wrapF]
    cases h:Nat.ble m (kmax k) with
    | false=>rfl
    | true=>exact (wrap_pos (Nat.ble_eq.mp h)).symm
  | negSucc m =>
    simp only [wrapF]
    cases h:ksg k&&Nat.ble m (kmax k) with
    | false=>rfl
    | true =>
      rw [Bool.and_eq_true] at h
      exact (wrap_neg h.1 (Nat.ble_eq.mp h.2)).symm
def ilt:Int→Int→Bool
  | .ofNat m,.ofNat n=>Nat.blt m n
  | .ofNat _,.negSucc _=>false
  | .negSucc _,.ofNat _=>true
  | .negSucc m,.negSucc n=>Nat.blt n m
theorem ilt_eq (x y:Int):ilt x y=decide (x<y):=by
  rw [Bool.eq_iff_iff,decide_eq_true_eq]
  cases x <;> cases y <;> simp only [ilt,Nat.blt_eq,Bool.false_eq_true,true_iff,false_iff,Int.ofNat_eq_natCast,Int.negSucc_eq] <;> omega
def ieq:Int→Int→Bool
  | .ofNat m,.ofNat n=>Nat.beq m n
  | .negSucc m,.negSucc n=>Nat.beq m n
  | _,_=>false
theorem ieq_eq (x y:Int):ieq x y=decide (x=y):=by
  rw [Bool.eq_iff_iff,decide_eq_true_eq]
  cases x <;> cases y <;> simp [ieq]
  omega
def intV (k:IntKind) (n:Int):Option SV:=intK n fun n'=>some (.raw (.int k n'))
theorem intV_eq (k:IntKind) (n:Int):intV k n=some (.raw (.int k n)):=by simp only [intV,intK_eq]
def boolV (b:Bool):Option SV:=match b with
  | true=>some (.raw (.bool true))
  | false=>some (.raw (.bool false))
theorem boolV_eq (b:Bool):boolV b=some (.raw (.bool b)):=by cases b <;> rfl
def isZ:Int→Bool
  | .ofNat 0=>true
  | _=>false
theorem isZ_eq {n:Int} (h:isZ n=false):n≠0:=by
  rintro rfl;cases h
/-- two numbers -/
def ibS (op:BinOp) (k:IntKind) (x:Int) (k':IntKind) (y:Int):Option SV:=match op with
  | .add=>bif kEq k k' then intV k (wrapF k (Int.add x y)) else none
  | .sub=>bif kEq k k' then intV k (wrapF k (Int.sub x y)) else none
  | .mul=>bif kEq k k' then intV k (wrapF k (Int.mul x y)) else none
  | .quo=>bif kEq k k' then (bif isZ y then none else intV k (wrapF k (Int.tdiv x y))) else none
  | .rem=>bif kEq k k' then (bif isZ y then none else intV k (Int.tmod x y)) else none
  | .lss=>bif kEq k k' then boolV (ilt x y) else none
  | .gtr=>bif kEq k k' then boolV (ilt y x) else none
  | .leq=>bif kEq k k' then boolV (!ilt y x) else none
  | .geq=>bif kEq k k' then boolV (!ilt x y) else none
  | .eql=>bif kEq k k' then boolV (ieq x y) else none
  | .neq=>bif kEq k k' then boolV (!ieq x y) else none
  | .and=>bif kEq k k' then (match x with
    | .ofNat m=>match y with
      | .ofNat n=>bif Nat.ble m (kmax k)&&Nat.ble n (kmax k) then intV k (.ofNat (Nat.land m n)) else none
      | _=>none
    | _=>none) else none
  | .or=>bif kEq k k' then (match x with
    | .ofNat m=>match y with
      | .ofNat n=>bif Nat.ble m (kmax k)&&Nat.ble n (kmax k) then intV k (.ofNat (Nat.lor m n)) else none
      | _=>none
    | _=>none) else none
  | .xor=>bif kEq k k' then (match x with
    | .ofNat m=>match y with
      | .ofNat n=>bif Nat.ble m (kmax k)&&Nat.ble n (kmax k) then intV k (.ofNat (Nat.xor m n)) else none
      | _=>none
    | _=>none) else none
  | .andNot=>bif kEq k k' then (match x with
    | .ofNat m=>match y with
      | .ofNat n=>bif Nat.ble m (kmax k)&&Nat.ble n (kmax k) then intV k (.ofNat (Nat.xor m (Nat.land m n))) else none
      | _=>none
    | _=>none) else none
  | .shl=>match x with
    | .ofNat m=>match y with
      | .ofNat s=>bif Nat.ble s k.bits then intV k (wrapF k (.ofNat (Nat.shiftLeft m s))) else none
      | _=>none
    | _=>none
  | .shr=>match x with
    | .ofNat m=>match y with
      | .ofNat s=>bif Nat.ble s k.bits then intV k (.ofNat (Nat.shiftRight m s)) else none
      | _=>none
    | _=>none
end
end Go.TX
namespace Go.TH
open Go
section
variable {P:Program} {C:Cx P} {E:Env} {H:List HP}
variable {ops:Array Oper} {K:KP} {rest:List Oper} {d:Nat} {ty:TypeId} {pos:String} {af:Array Edge} {x y:Operand} {T T':TypeId} {k:IntKind} {a b:Nat}
theorem bv_andNot {n:Nat} (x y:BitVec n):x&&&~~~y=x^^^(x&&&y):=by
  apply BitVec.eq_of_getLsbD_eq
  intro i hi
  simp [hi]
  cases x[i] <;> cases y[i] <;> rfl
end
end Go.TH
