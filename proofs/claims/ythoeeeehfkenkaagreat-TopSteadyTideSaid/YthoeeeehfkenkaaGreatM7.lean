/-
  What is proved here: in a steady tide the speeds that the runs allow are within the span of a trial that cancels it (no program in sight). Conditions: none; each theorem states its own.
-/
import Derived.Test.YthoeeeehfkenkaaGreatM3
import Derived.Test.YthoeeeehfkenkaaGreatM6
import Derived.Test.YthoeeeehfkenkaaGreatM4
import Derived.Test.YthoeeeehfkenkaaGreatM5
import Derived.Maps.RangeRun
set_option linter.unusedVariables false
set_option linter.unusedSimpArgs false
namespace Go.Proofs.YthoeeeehfkenkaaGreat
open Go Go.TH Sp
set_option maxRecDepth 10000
abbrev Runs:=List (Int × Int × Int)
def stR (rs:Runs) (i:Nat):Rn:=⟨1,1-2*(i:Int).tmod 2,(rs.getD i Tr.r0).2.1,(rs.getD i Tr.r0).2.2⟩
def stL (rs:Runs) (n:Nat):List Rn:=(List.range n).map (stR rs)
theorem stL_succ (rs:Runs) (n:Nat):stL rs n++[stR rs n]=stL rs (n+1):=by unfold stL;rw [List.range_succ,List.map_append];rfl
theorem stL_len (rs:Runs) (n:Nat):(stL rs n).length=n:=by unfold stL;simp
theorem stL_mem {rs:Runs} {n i:Nat} (h:i<n):stR rs i∈stL rs n:=List.mem_map.2 ⟨i,List.mem_range.2 h,rfl⟩
abbrev one:Int→Int:=fun t=>Tr.pw t 0
theorem off_one (rs:Runs) (i:Nat):Tr.offT rs one (i:Int)=1-2*(i:Int).tmod 2:=by
 unfold Tr.offT
 have h1:(i:Int).tmod 2=((i%2:Nat):Int):=(Int.ofNat_tmod i 2).symm
 have h2:Tr.pw (Tr.tm rs (i:Int).toNat) 0=1:=rfl
 rcases Nat.mod_two_eq_zero_or_one i with q | q
 ·rw [h1,q,if_neg (by decide)];show Tr.pw _ 0=_;rw [h2];decide
 ·rw [h1,q,if_pos (by decide)];show -(Tr.pw _ 0)=_;rw [h2];decide
section
variable {m:Int} {rs:Runs}
theorem st_sum (hv:Tr.VT m rs) {t:Tru} (hf:fitL (stL rs rs.length) t):∀ n,n≤rs.length →
 Tr.msum m rs (Tr.loT rs) n*t.d≤Tr.wsum m rs n*t.a+Tr.msum m rs (Tr.offT rs one) n*t.b∧Tr.wsum m rs n*t.a+Tr.msum m rs (Tr.offT rs one) n*t.b≤Tr.msum m rs (Tr.hiT rs) n*t.d
 | 0,_=>by simp [Tr.msum,Tr.wsum]
 | n+1,h=>by
  obtain ⟨h1,h2⟩:=st_sum hv hf n (by omega)
  have hr:=hf _ (stL_mem (rs:=rs) (show n<rs.length by omega))
  have hw:=(Tr.wts_in hv (i:=n) (by omega)).1
  have e0:=off_one rs n
  obtain ⟨k1,k2⟩:(Tr.loT rs (n:Int))*t.d≤t.a+Tr.offT rs one (n:Int)*t.b∧t.a+Tr.offT rs one (n:Int)*t.b≤(Tr.hiT rs (n:Int))*t.d:=by
   unfold fitR stR at hr
   dsimp only at hr
   rw [e0]
   unfold Tr.loT Tr.hiT
   rw [Int.toNat_natCast]
   rw [Int.one_mul] at hr
   exact hr
  have m1:=Int.mul_le_mul_of_nonneg_left k1 hw
  have m2:=Int.mul_le_mul_of_nonneg_left k2 hw
  unfold Tr.msum Tr.wsum
  generalize Tr.msum m rs (Tr.loT rs) n=A at *
  generalize Tr.msum m rs (Tr.hiT rs) n=B at *
  generalize Tr.msum m rs (Tr.offT rs one) n=D at *
  generalize Tr.wsum m rs n=E at *
  generalize Tr.wts m rs n=F at *
  generalize Tr.loT rs (n:Int)=G at *
  generalize Tr.hiT rs (n:Int)=I at *
  generalize Tr.offT rs one (n:Int)=J at *
  have e1:(A+F*G)*t.d=A*t.d+F*(G*t.d):=by grind
  have e2:(E+F)*t.a+(D+F*J)*t.b=E*t.a+D*t.b+F*(t.a+J*t.b):=by grind
  have e3:(B+F*I)*t.d=B*t.d+F*(I*t.d):=by grind
  omega
theorem st_zero (hv:Tr.VT m rs) (h:0≤Tr.canV m rs):Tr.msum m rs (Tr.offT rs one) rs.length=0:=by
 have hw:=(Tr.wsum_lt hv (i:=rs.length) (Nat.le_refl _)).1
 have hn:=hv.n
 unfold Tr.canV at h
 rw [if_pos hv.to] at h
 have hp:Tr.offP m rs 0=false:=by
  cases e:Tr.offP m rs 0 with
  | false=>rfl
  | true =>
   have:Tr.fst5 (Tr.offP m rs)=0:=by unfold Tr.fst5;rw [if_pos e]
   rw [this] at h;omega
 unfold Tr.offP Tr.meanQ at hp
 have h2:=of_decide_eq_false hp
 exact (Tr.red_num (by omega)).1 (Decidable.not_not.1 h2)
theorem st_law (hv:Tr.VT m rs) (h:0≤Tr.canV m rs) {t:Tru} (hf:fitL (stL rs rs.length) t):Tr.msum m rs (Tr.loT rs) rs.length*t.d≤Tr.wsum m rs rs.length*t.a∧Tr.wsum m rs rs.length*t.a≤Tr.msum m rs (Tr.hiT rs) rs.length*t.d:=by
 have h1:=st_sum hv hf rs.length (Nat.le_refl _)
 rw [st_zero hv h,Int.zero_mul,Int.add_zero] at h1
 exact h1
end
def Spd (l:List Rn) (x:Int × Int):Prop:=0<x.2∧∃ t:Tru,0<t.d∧fitL l t∧x.1*t.d=t.a*x.2
theorem red_cmp {u v n d:Int} (hd:0<d):(u*(red n d).2<(red n d).1*v↔u*d<n*v)∧((red n d).1*v<u*(red n d).2↔n*v<u*d):=by
 obtain ⟨g,hg,h1,h2,_⟩:=red_parts n hd
 generalize red n d=r at *
 have e1:u*d=u*r.2*g:=by rw [h2];grind
 have e2:n*v=r.1*v*g:=by rw [h1];grind
 rw [e1,e2]
 constructor
 ·constructor
  ·exact fun h=>Int.mul_lt_mul_of_pos_right h hg
  ·intro h
   rcases Int.lt_or_le (u*r.2) (r.1*v) with q | q
   ·exact q
   ·have:=Int.mul_le_mul_of_nonneg_right q (Int.le_of_lt hg);omega
 ·constructor
  ·exact fun h=>Int.mul_lt_mul_of_pos_right h hg
  ·intro h
   rcases Int.lt_or_le (r.1*v) (u*r.2) with q | q
   ·exact q
   ·have:=Int.mul_le_mul_of_nonneg_right q (Int.le_of_lt hg);omega
section
variable {m:Int} {rs:Runs}
theorem spd_in (hv:Tr.VT m rs) (h:0≤Tr.canV m rs) {x:Int × Int} (hx:Spd (stL rs rs.length) x):¬ x.1*(red (Tr.msum m rs (Tr.loT rs) rs.length) (Tr.wsum m rs rs.length)).2<(red (Tr.msum m rs (Tr.loT rs) rs.length) (Tr.wsum m rs rs.length)).1*x.2∧¬ (red (Tr.msum m rs (Tr.hiT rs) rs.length) (Tr.wsum m rs rs.length)).1*x.2<x.1*(red (Tr.msum m rs (Tr.hiT rs) rs.length) (Tr.wsum m rs rs.length)).2:=by
 obtain ⟨hx2,t,ht,hf,e⟩:=hx
 have hw:=(Tr.wsum_lt hv (i:=rs.length) (Nat.le_refl _)).1
 have hn:=hv.n
 obtain ⟨k1,k2⟩:=st_law hv h hf
 rw [(red_cmp (by omega)).1,(red_cmp (by omega)).2]
 generalize Tr.msum m rs (Tr.loT rs) rs.length=A at *
 generalize Tr.msum m rs (Tr.hiT rs) rs.length=B at *
 generalize Tr.wsum m rs rs.length=E at *
 constructor
 ·intro q
  have q1:=Int.mul_lt_mul_of_pos_right q ht
  have q2:=Int.mul_le_mul_of_nonneg_right k1 (Int.le_of_lt hx2)
  have e1:x.1*E*t.d=(x.1*t.d)*E:=by grind
  have e2:A*x.2*t.d=A*t.d*x.2:=by grind
  have e3:E*t.a*x.2=(t.a*x.2)*E:=by grind
  rw [e1,e,e2] at q1
  rw [e3] at q2
  omega
 ·intro q
  have q1:=Int.mul_lt_mul_of_pos_right q ht
  have q2:=Int.mul_le_mul_of_nonneg_right k2 (Int.le_of_lt hx2)
  have e1:x.1*E*t.d=(x.1*t.d)*E:=by grind
  have e2:B*x.2*t.d=B*t.d*x.2:=by grind
  have e3:E*t.a*x.2=(t.a*x.2)*E:=by grind
  rw [e1,e,e2] at q1
  rw [e3] at q2
  omega
end
section
variable {l:List Rn}
theorem spd_lo (h:leE l 1 0=0) (h0:l≠[]) {y:Sd × Int} (hm:MostI (sds l) 1 0 y):Spd l (red y.1.c y.2):=by
 obtain ⟨h1,h2,h3,h4,h5,h6⟩:=leE_ok h
 have hy:=(hm.ok h1 h3 h4).t
 obtain ⟨t,⟨htm,hts⟩,hv⟩:=att_ex h h0 hm
 obtain ⟨g,hg,e1,e2,e3,_⟩:=red_parts y.1.c hy.1
 refine ⟨e3,t,by have:=(crn_ok h1 htm).d;omega,fitL_iff.2 hts,?_⟩
 generalize red y.1.c y.2=r at *
 rw [e1,e2,Int.one_mul,Int.zero_mul,Int.add_zero] at hv
 have:(r.1*t.d-t.a*r.2)*g=0:=by grind
 have:=mul_cancel0 hg this
 omega
theorem spd_hi (h:leE l (-1) 0=0) (h0:l≠[]) {y:Sd × Int} (hm:MostI (sds l) (-1) 0 y):Spd l (-(red y.1.c y.2).1,(red y.1.c y.2).2):=by
 obtain ⟨h1,h2,h3,h4,h5,h6⟩:=leE_ok h
 have hy:=(hm.ok h1 h3 h4).t
 obtain ⟨t,⟨htm,hts⟩,hv⟩:=att_ex h h0 hm
 obtain ⟨g,hg,e1,e2,e3,_⟩:=red_parts y.1.c hy.1
 refine ⟨e3,t,by have:=(crn_ok h1 htm).d;omega,fitL_iff.2 hts,?_⟩
 generalize red y.1.c y.2=r at *
 dsimp only
 rw [e1,e2,Int.zero_mul,Int.add_zero] at hv
 have:(-r.1*t.d-t.a*r.2)*g=0:=by grind
 have:=mul_cancel0 hg this
 omega
theorem spd_x {t:Tru} (ht:0<t.d) (hf:fitL l t):Spd l (t.a,t.d):=⟨ht,t,ht,hf,rfl⟩
theorem bnd_x {S:List Sd} {a b:Sd} (ha:a∈S) (hb:b∈S) {p q:Int} (hd:0<crs a b) (hx:0≤crs (wS p q) b) (hy:0≤crs a (wS p q)):Bnd S p q:=by
 obtain ⟨y,hy,_⟩:=cand_pair (p:=p) (q:=q) ha hb hd hx hy
 exact .inr (List.ne_nil_of_mem hy)
end
theorem sds_lo {l:List Rn} {r:Rn} (h:r∈l):loS r∈sds l:=List.mem_flatMap.2 ⟨r,h,by simp⟩
theorem sds_hi {l:List Rn} {r:Rn} (h:r∈l):hiS r∈sds l:=List.mem_flatMap.2 ⟨r,h,by simp⟩
theorem st_bnd {rs:Runs} {n:Nat} (hn:2≤n):Bnd (sds (stL rs n)) 1 0∧Bnd (sds (stL rs n)) (-1) 0:=by
 have m0:=stL_mem (rs:=rs) (show 0<n by omega)
 have m1:=stL_mem (rs:=rs) (show 1<n by omega)
 have q0:(stR rs 0).p=1∧(stR rs 0).q=1:=⟨rfl,by show 1-2*((0:Nat):Int).tmod 2=1;decide⟩
 have q1:(stR rs 1).p=1∧(stR rs 1).q = -1:=⟨rfl,by show 1-2*((1:Nat):Int).tmod 2 = -1;decide⟩
 constructor
 ·refine bnd_x (a:=loS (stR rs 1)) (b:=loS (stR rs 0)) (sds_lo m1) (sds_lo m0) ?_ ?_ ?_
  ·unfold crs loS;dsimp only;rw [q0.1,q0.2,q1.1,q1.2];decide
  ·unfold crs loS wS;dsimp only;rw [q0.1,q0.2];decide
  ·unfold crs loS wS;dsimp only;rw [q1.1,q1.2];decide
 ·refine bnd_x (a:=hiS (stR rs 1)) (b:=hiS (stR rs 0)) (sds_hi m1) (sds_hi m0) ?_ ?_ ?_
  ·unfold crs hiS;dsimp only;rw [q0.1,q0.2,q1.1,q1.2];decide
  ·unfold crs hiS wS;dsimp only;rw [q0.1,q0.2];decide
  ·unfold crs hiS wS;dsimp only;rw [q1.1,q1.2];decide
theorem st_err {rs:Runs} (h:chkRs (stL rs rs.length)=0) (hn:2≤rs.length):leE (stL rs rs.length) 1 0=leE (stL rs rs.length) 0 0∧leE (stL rs rs.length) (-1) 0=leE (stL rs rs.length) 0 0∧((leE (stL rs rs.length) 0 0=0∧¬ Dbt (sds (stL rs rs.length)))∨(leE (stL rs rs.length) 0 0=20∧Dbt (sds (stL rs rs.length)))):=by
 have a0:¬ chkA (stL rs rs.length) 0 0≠0:=by rw [chkA_0 h (by unfold OkN;omega) (by unfold OkN;omega)];omega
 have a1:¬ chkA (stL rs rs.length) 1 0≠0:=by rw [chkA_0 h (by unfold OkN;omega) (by unfold OkN;omega)];omega
 have a2:¬ chkA (stL rs rs.length) (-1) 0≠0:=by rw [chkA_0 h (by unfold OkN;omega) (by unfold OkN;omega)];omega
 have hb:=st_bnd (rs:=rs) hn
 rcases Decidable.em (Dbt (sds (stL rs rs.length))) with hd | hd
 ·rw [leE_20 a0 hd,leE_20 a1 hd,leE_20 a2 hd];exact ⟨rfl,rfl,.inr ⟨rfl,hd⟩⟩
 ·rw [leE_0 a0 hd (.inl ⟨rfl,rfl⟩),leE_0 a1 hd hb.1,leE_0 a2 hd hb.2];exact ⟨rfl,rfl,.inl ⟨rfl,hd⟩⟩
section
variable {m:Int} {rs:Runs}
theorem st_bd (hv:Tr.VT m rs):∀ n,n≤rs.length→(0≤Tr.msum m rs (Tr.loT rs) n∧Tr.msum m rs (Tr.loT rs) n≤20000*Tr.wsum m rs n)∧0≤Tr.msum m rs (Tr.hiT rs) n∧Tr.msum m rs (Tr.hiT rs) n≤20000*Tr.wsum m rs n
 | 0,_=>by simp [Tr.msum,Tr.wsum]
 | n+1,h=>by
  obtain ⟨⟨h1,h2⟩,h3,h4⟩:=st_bd hv n (by omega)
  have hw:=(Tr.wts_in hv (i:=n) (by omega)).1
  have hr:=hv.run (i:=n) (by omega)
  have k1:0≤Tr.loT rs (n:Int)∧Tr.loT rs (n:Int)≤20000:=by unfold Tr.loT;rw [Int.toNat_natCast];omega
  have k2:0≤Tr.hiT rs (n:Int)∧Tr.hiT rs (n:Int)≤20000:=by unfold Tr.hiT;rw [Int.toNat_natCast];omega
  have m1:=Int.mul_nonneg hw k1.1
  have m2:=Int.mul_le_mul_of_nonneg_left k1.2 hw
  have m3:=Int.mul_nonneg hw k2.1
  have m4:=Int.mul_le_mul_of_nonneg_left k2.2 hw
  unfold Tr.msum Tr.wsum
  rw [Int.mul_add]
  omega
def Siz (x:Int × Int):Prop:=(-4000000000000000000≤x.1∧x.1≤4000000000000000000)∧0<x.2∧x.2≤2000000000000000000
theorem red_siz {n d:Int} (hn : -4000000000000000000≤n∧n≤4000000000000000000) (hd:0<d∧d≤2000000000000000000):Siz (red n d):=by
 obtain ⟨g,hg,h1,h2,h3,h4,h5⟩:=red_parts n hd.1
 unfold ab at h5
 exact ⟨by omega,by omega,by omega⟩
theorem span_siz (hv:Tr.VT m rs):Siz (red (Tr.msum m rs (Tr.loT rs) rs.length) (Tr.wsum m rs rs.length))∧Siz (red (Tr.msum m rs (Tr.hiT rs) rs.length) (Tr.wsum m rs rs.length)):=by
 have hw:=Tr.wsum_lt hv (i:=rs.length) (Nat.le_refl _)
 have hn:=hv.n
 have hb:=st_bd hv rs.length (Nat.le_refl _)
 exact ⟨red_siz (by omega) (by omega),red_siz (by omega) (by omega)⟩
end
def spd3 (x y:Int × Int) (t:Tru):List (Int × Int):=[x,(-y.1,y.2),(t.a,t.d)]
theorem spd3_ok {l:List Rn} (h1:leE l 1 0=0) (h2:leE l (-1) 0=0) (h0:l≠[]) {y z:Sd × Int} (hy:MostI (sds l) 1 0 y) (hz:MostI (sds l) (-1) 0 z) {t:Tru} (ht:OkT t) (hf:fitL l t):∀ x∈spd3 (red y.1.c y.2) (red z.1.c z.2) t,Spd l x∧Siz x:=fun x hx=>by
 obtain ⟨a1,a2,a3,a4,_,_⟩:=leE_ok h1
 obtain ⟨b1,b2,b3,b4,_,_⟩:=leE_ok h2
 have oy:=hy.ok a1 a3 a4
 have oz:=hz.ok b1 b3 b4
 have ry:=red_in oy.c oy.t
 have rz:=red_in oz.c oz.t
 have htd:=ht.d
 have hta:=ht.a
 have:x=red y.1.c y.2∨x=(-(red z.1.c z.2).1,(red z.1.c z.2).2)∨x=(t.a,t.d):=by simpa [spd3] using hx
 rcases this with rfl | rfl | rfl
 ·exact ⟨spd_lo h1 h0 hy,by omega,by omega,by omega⟩
 ·exact ⟨spd_hi h2 h0 hz,by dsimp only;omega,by dsimp only;omega,by dsimp only;omega⟩
 ·exact ⟨spd_x (by omega) hf,by dsimp only;omega,by dsimp only;omega,by dsimp only;omega⟩
end Go.Proofs.YthoeeeehfkenkaaGreat
namespace Go.Proofs.YthoeeeehfkenkaaGreat
open Go Go.TH Sp
attribute [local irreducible] W WO pt
set_option maxRecDepth 10000
set_option maxHeartbeats 1000000
theorem fl_mod {p q:Int} (hp:0≤p) (hq:0<q):p.tdiv q=p/q∧p.tmod q=p-p/q*q∧0≤p/q∧p/q≤p:=by
 have h1:p.tdiv q=p/q:=Int.tdiv_eq_ediv_of_nonneg hp
 have h2:p.tmod q=p%q:=Int.tmod_eq_emod_of_nonneg hp
 have h3:=Int.emod_add_mul_ediv p q
 have h4:=Int.ediv_nonneg hp (Int.le_of_lt hq)
 have h5:=Int.ediv_le_self q hp
 refine ⟨h1,?_,h4,h5⟩
 rw [h2,Int.mul_comm (p/q) q]
 omega
theorem top_compare03 (w:World) (a b c d:Int) (ha:0≤a∧a≤4000000000000000000) (hb:0<b∧b≤2000000000000000000) (hc:0≤c∧c≤4000000000000000000) (hd:0<d∧d≤2000000000000000000):Ret Tryz.prog 36 [.int .i64 a,.int .i64 b,.int .i64 c,.int .i64 d].toArray w (.bool (bl (a*d<c*b))):=by
 refine Ret.of mixed tyTab Tryz.func36 rfl rfl (W.sreg (WO.p rfl rfl (WO.nil (W.sreg (WO.p rfl rfl (WO.nil (W.block ?_)))))))
 refine W.loop5 (fun (p:Int) (q:Int) (r:Int) (s:Int) (g:Bool)=>0<q∧0<s∧0≤p∧0≤r∧(a*d<c*b↔lsG g p q r s)∧p≤4000000000000000000∧r≤4000000000000000000∧q≤2000000000000000000∧s≤2000000000000000000)
  (fun (p:Int) (q:Int) (r:Int) (s:Int) (g:Bool)=>[(0,.int .i64 p),(1,.int .i64 q),(2,.int .i64 r),(3,.int .i64 s),(8,.bool false),(9,.bool g)])
  (fun (p:Int) (q:Int) (r:Int) (s:Int) (g:Bool)=>[])
  (fun (p:Int) (q:Int) (r:Int) (s:Int) (g:Bool)=>q.toNat) a b c d false
  (by exact ⟨hb.1,hd.1,ha.1,hc.1,Iff.rfl,ha.2,hc.2,hb.2,hd.2⟩) ⟨rfl,rfl,rfl,rfl,rfl,rfl,trivial⟩ (by repeat (first | exact Sub.nil | refine Sub.cons (by repeat first | exact .head | apply Pick.tail) ?_)) ?_
 rintro p q r s g ⟨h1,h2,hp0,hr0,h3,h4,h5,h6,h7⟩
 refine W.block (W.seq (W.seq ?_))
 have f1:=fl_in p h1
 have f2:=fl_in r h2
 obtain ⟨e1,e2,e3,e4⟩:=fl_mod hp0 h1
 obtain ⟨g1,g2,g3,g4⟩:=fl_mod hr0 h2
 refine W.drawD 6 [.r 0 [],.r 1 [],.r 2 [],.r 3 [],.r 4 [],.r 5 []] [] (A0:=[]) (Sub.refl _) (by kernel_rfl) ?_ ?_
 ·repeat constructor
 refine DT.r rfl rfl rfl (WO.p rfl rfl (WO.nil ⟨rfl,rfl⟩)) (DT.r rfl rfl rfl (WO.p rfl rfl (WO.nil ⟨rfl,rfl⟩)) ?_)
 refine' DT.r rfl rfl rfl ?hq ?_
 case hq =>
  refine WO.quo rfl rfl (by omega) (by rw [e1];unfold in64;omega) rfl ?_
  rw [e1]
  exact WO.nil ⟨rfl,rfl⟩
 refine DT.r rfl rfl rfl (WO.p rfl rfl (WO.nil ⟨rfl,rfl⟩)) (DT.r rfl rfl rfl (WO.p rfl rfl (WO.nil ⟨rfl,rfl⟩)) ?_)
 refine' DT.r rfl rfl rfl ?hq ?_
 case hq =>
  refine WO.quo rfl rfl (by omega) (by rw [g1];unfold in64;omega) rfl ?_
  rw [g1]
  exact WO.nil ⟨rfl,rfl⟩
 refine DT.nil [] rfl (WO.p rfl rfl (WO.nil ?_))
 refine W.cond_bl rfl (fun c1=>?_) (fun c1=>?_)
 ·refine W.seq ?_
  refine W.drawD 8 [.r 0 [],.r 1 [],.r 2 [],.r 3 [],.r 4 [],.r 5 [],.r 6 [],.r 7 []] [] (A0:=[]) (Sub.refl _) (by kernel_rfl) ?_ ?_
  ·repeat constructor
  refine DT.r rfl rfl rfl (WO.p rfl rfl (WO.nil ⟨rfl,rfl⟩)) (DT.r rfl rfl rfl (WO.p rfl rfl (WO.nil ⟨rfl,rfl⟩)) ?_)
  refine' DT.r rfl rfl rfl ?hq ?_
  case hq =>
   refine WO.quo rfl rfl (by omega) (by rw [e1];unfold in64;omega) rfl ?_
   rw [e1]
   exact WO.nil ⟨rfl,rfl⟩
  refine DT.r rfl rfl rfl (WO.p rfl rfl (WO.nil ⟨rfl,rfl⟩)) (DT.r rfl rfl rfl (WO.p rfl rfl (WO.nil ⟨rfl,rfl⟩)) ?_)
  refine' DT.r rfl rfl rfl ?hq ?_
  case hq =>
   refine WO.quo rfl rfl (by omega) (by rw [g1];unfold in64;omega) rfl ?_
   rw [g1]
   exact WO.nil ⟨rfl,rfl⟩
  refine DT.r rfl rfl rfl (WO.p rfl rfl (WO.nil ⟨rfl,rfl⟩)) (DT.r rfl rfl rfl (WO.p rfl rfl (WO.nil ⟨rfl,rfl⟩)) (DT.nil [] rfl (WO.eqB (r:=!(bl (p/q<r/s)==g)) rfl rfl Tryz.underlying4 rfl rfl (WO.p rfl rfl (WO.nil (W.ret (fin.ret (Res.one rfl (RV.tmp rfl)) (congrArg Value.bool ?_))))))))
  first | exact (bl_f.2 (by omega)).symm | exact ls_1 h1 h2 (by assumption) h3 | (have k:=ls_0 (u:=p-p/q*q) (v:=r-p/q*s) h1 h2 rfl rfl (by omega) (by rw [show p/q=r/s by omega];omega) (by rw [show p/q=r/s by omega] at *;omega) h3;rw [show r/s=p/q by omega] at *;first | (rw [bl_f.2 (fun y=>(by omega:¬ _) (k.1 y).1)];done) | (cases g <;> rcases Decidable.em (p-p/q*q=0) with y | y <;> first | (rw [bl_t.2 y,bl_t.2 (k.2 ⟨by omega,by simp [y]⟩)];rfl) | (rw [bl_f.2 y,bl_f.2 (fun z=>by have:=(k.1 z).2;simp [y] at this)];rfl) | (rw [bl_t.2 y,bl_f.2 (fun z=>by have:=(k.1 z).2;simp [y] at this)];rfl) | (rw [bl_f.2 y,bl_t.2 (k.2 ⟨by omega,by simp [y]⟩)];rfl))) | rfl
 ·refine W.skip (W.seq ?_)
  refine W.drawD 7 [.r 0 [],.r 1 [],.r 2 [],.r 3 [0],.r 4 [0],.r 5 [0],.r 6 [0]] [0] (A0:=[]) (Sub.refl _) (by kernel_rfl) ?_ ?_
  ·repeat constructor
  refine DT.r rfl rfl rfl (WO.p rfl rfl (WO.nil ⟨rfl,rfl⟩)) (DT.r rfl rfl rfl (WO.p rfl rfl (WO.nil ⟨rfl,rfl⟩)) ?_)
  refine' DT.r rfl rfl rfl ?hq ?_
  case hq =>
   refine WO.rem rfl rfl (by omega) rfl ?_
   rw [e2]
   exact WO.nil ⟨rfl,rfl⟩
  refine DT.r rfl rfl rfl (WO.p rfl rfl (WO.nil ⟨rfl,rfl⟩)) (DT.r rfl rfl rfl (WO.p rfl rfl (WO.nil ⟨rfl,rfl⟩)) ?_)
  refine' DT.r rfl rfl rfl ?hq ?_
  case hq =>
   refine WO.rem rfl rfl (by omega) rfl ?_
   rw [g2]
   exact WO.nil ⟨rfl,rfl⟩
  refine DT.r rfl rfl rfl (WO.p rfl rfl (WO.nil ⟨rfl,rfl⟩)) (DT.nil [] rfl (WO.p rfl rfl (WO.nil (W.seq (W.sreg (WO.p rfl rfl (WO.p rfl rfl (WO.p rfl rfl ?_))))))))
  refine WO.guard_bl rfl rfl (fun c2=>?_) (fun c2=>?_)
  ·refine WO.no rfl rfl (WO.no rfl rfl (WO.p rfl rfl (WO.nil (W.cond_t rfl (W.sreg (WO.p rfl rfl (WO.p rfl rfl (WO.p rfl rfl (WO.p rfl rfl ?_)))))))))
   refine WO.guard_bl rfl rfl (fun c3=>?_) (fun c3=>?_)
   ·refine WO.pg rfl rfl rfl (WO.pg rfl rfl rfl (WO.pg rfl rfl rfl (WO.go' rfl (WO.eqB (r:=!(bl (p-p/q*q=0)==g)) rfl rfl Tryz.underlying4 rfl rfl (WO.p rfl rfl (WO.p rfl rfl (WO.nil (W.ret (fin.ret (Res.one rfl (RV.tmp rfl)) (congrArg Value.bool ?_))))))))))
    first | exact (bl_f.2 (by omega)).symm | exact ls_1 h1 h2 (by assumption) h3 | (have k:=ls_0 (u:=p-p/q*q) (v:=r-p/q*s) h1 h2 rfl rfl (by omega) (by rw [show p/q=r/s by omega];omega) (by rw [show p/q=r/s by omega] at *;omega) h3;rw [show r/s=p/q by omega] at *;first | (rw [bl_f.2 (fun y=>(by omega:¬ _) (k.1 y).1)];done) | (cases g <;> rcases Decidable.em (p-p/q*q=0) with y | y <;> first | (rw [bl_t.2 y,bl_t.2 (k.2 ⟨by omega,by simp [y]⟩)];rfl) | (rw [bl_f.2 y,bl_f.2 (fun z=>by have:=(k.1 z).2;simp [y] at this)];rfl) | (rw [bl_t.2 y,bl_f.2 (fun z=>by have:=(k.1 z).2;simp [y] at this)];rfl) | (rw [bl_f.2 y,bl_t.2 (k.2 ⟨by omega,by simp [y]⟩)];rfl))) | rfl
   ·refine WO.no rfl rfl (WO.no rfl rfl (WO.no rfl rfl (WO.no rfl rfl (WO.p rfl rfl (WO.p rfl rfl (WO.nil (W.ret (fin.ret (Res.one rfl (RV.tmp rfl)) (congrArg Value.bool ?_)))))))))
    first | exact (bl_f.2 (by omega)).symm | exact ls_1 h1 h2 (by assumption) h3 | (have k:=ls_0 (u:=p-p/q*q) (v:=r-p/q*s) h1 h2 rfl rfl (by omega) (by rw [show p/q=r/s by omega];omega) (by rw [show p/q=r/s by omega] at *;omega) h3;rw [show r/s=p/q by omega] at *;first | (rw [bl_f.2 (fun y=>(by omega:¬ _) (k.1 y).1)];done) | (cases g <;> rcases Decidable.em (p-p/q*q=0) with y | y <;> first | (rw [bl_t.2 y,bl_t.2 (k.2 ⟨by omega,by simp [y]⟩)];rfl) | (rw [bl_f.2 y,bl_f.2 (fun z=>by have:=(k.1 z).2;simp [y] at this)];rfl) | (rw [bl_t.2 y,bl_f.2 (fun z=>by have:=(k.1 z).2;simp [y] at this)];rfl) | (rw [bl_f.2 y,bl_t.2 (k.2 ⟨by omega,by simp [y]⟩)];rfl))) | rfl
  ·refine WO.pg rfl rfl rfl (WO.pg rfl rfl rfl (WO.p rfl rfl (WO.nil ?_)))
   refine W.cond_bl rfl (fun c4=>?_) (fun c4=>?_)
   ·refine W.sreg (WO.p rfl rfl (WO.p rfl rfl (WO.p rfl rfl (WO.p rfl rfl ?_))))
    refine WO.guard_bl rfl rfl (fun c5=>?_) (fun c5=>?_)
    ·refine WO.pg rfl rfl rfl (WO.pg rfl rfl rfl (WO.pg rfl rfl rfl (WO.go' rfl (WO.eqB (r:=!(bl (p-p/q*q=0)==g)) rfl rfl Tryz.underlying4 rfl rfl (WO.p rfl rfl (WO.p rfl rfl (WO.nil (W.ret (fin.ret (Res.one rfl (RV.tmp rfl)) (congrArg Value.bool ?_))))))))))
     first | exact (bl_f.2 (by omega)).symm | exact ls_1 h1 h2 (by assumption) h3 | (have k:=ls_0 (u:=p-p/q*q) (v:=r-p/q*s) h1 h2 rfl rfl (by omega) (by rw [show p/q=r/s by omega];omega) (by rw [show p/q=r/s by omega] at *;omega) h3;rw [show r/s=p/q by omega] at *;first | (rw [bl_f.2 (fun y=>(by omega:¬ _) (k.1 y).1)];done) | (cases g <;> rcases Decidable.em (p-p/q*q=0) with y | y <;> first | (rw [bl_t.2 y,bl_t.2 (k.2 ⟨by omega,by simp [y]⟩)];rfl) | (rw [bl_f.2 y,bl_f.2 (fun z=>by have:=(k.1 z).2;simp [y] at this)];rfl) | (rw [bl_t.2 y,bl_f.2 (fun z=>by have:=(k.1 z).2;simp [y] at this)];rfl) | (rw [bl_f.2 y,bl_t.2 (k.2 ⟨by omega,by simp [y]⟩)];rfl))) | rfl
    ·exfalso;omega
   ·refine W.skip (W.sreg (WO.p rfl rfl (WO.p rfl rfl (WO.p rfl rfl (WO.p rfl rfl (WO.p rfl rfl (WO.p rfl rfl (WO.p rfl rfl (WO.p rfl rfl (WO.nil (W.region (WO.p rfl rfl (WO.p rfl rfl (WO.p rfl rfl (WO.nil ?_)))))))))))))))
    refine' ⟨_,_,_,_,_,?hp,?hmu,⟨rfl,rfl,rfl,rfl,rfl,rfl,trivial⟩,?hS⟩
    case hS=>repeat (first | exact Sub.nil | refine Sub.cons (by repeat first | exact .head | apply Pick.tail) ?_)
    case hp=>exact ⟨by omega,by omega,by omega,by omega,ls_t rfl (by rw [show p/q=r/s by omega]) h3,by omega,by omega,by omega,by omega⟩
    case hmu=>omega
theorem top_less03 (w:World) (x y:Int × Int) (hx:Siz x) (hy:Siz y) (h:¬ x.1*y.2<y.1*x.2):Ret Tryz.prog 14 [raV x,raV y].toArray w (.bool false):=by
 refine Ret.of mixed tyTab Tryz.func14 rfl rfl ?_
 obtain ⟨hx1,hx2⟩:=hx
 obtain ⟨hy1,hy2⟩:=hy
 refine W.sreg (WO.boxA rfl rfl (fun b1 hb1=>(WO.boxA rfl rfl (fun b2 hb2=>(WO.p rfl rfl (WO.nil (W.seq (W.sreg (WO.field0 rfl rfl rfl (WO.load rfl rfl (Cell.own (Pick.tail (Pick.head)) rfl) rfl (WO.p rfl rfl (WO.p rfl rfl ?_))))))))))))
 refine WO.guard_bl rfl rfl (fun c1=>?_) (fun c1=>?_)
 ·refine WO.no rfl rfl (WO.no rfl rfl (WO.no rfl rfl (WO.p rfl rfl (WO.p rfl rfl (WO.no rfl rfl (WO.no rfl rfl (WO.no rfl rfl (WO.p rfl rfl (WO.p rfl rfl (WO.no rfl rfl (WO.no rfl rfl (WO.no rfl rfl (WO.p rfl rfl (WO.nil (W.cond_t rfl (W.sreg (WO.p rfl rfl (WO.nil (W.ret ?_)))))))))))))))))))
  exact fin.ret (Res.one rfl (RV.tmp rfl)) rfl
 ·refine WO.go' rfl (WO.fieldL rfl rfl rfl (WO.go' rfl (WO.load rfl rfl (Cell.own (Pick.tail (Pick.head)) rfl) rfl (WO.pg rfl rfl rfl (WO.p rfl rfl (WO.p rfl rfl ?_))))))
  refine WO.guard_bl rfl rfl (fun c2=>?_) (fun c2=>?_)
  ·exfalso;omega
  ·refine WO.go' rfl (WO.field0 rfl rfl rfl (WO.go' rfl (WO.load rfl rfl (Cell.own Pick.head rfl) rfl (WO.pg rfl rfl rfl (WO.p rfl rfl (WO.p rfl rfl ?_))))))
   refine WO.guard_bl rfl rfl (fun c3=>?_) (fun c3=>?_)
   ·refine WO.no rfl rfl (WO.no rfl rfl (WO.no rfl rfl (WO.p rfl rfl (WO.nil (W.cond_t rfl (W.sreg (WO.p rfl rfl (WO.nil (W.ret ?_)))))))))
    exact fin.ret (Res.one rfl (RV.tmp rfl)) rfl
   ·refine WO.go' rfl (WO.fieldL rfl rfl rfl (WO.go' rfl (WO.load rfl rfl (Cell.own Pick.head rfl) rfl (WO.pg rfl rfl rfl (WO.p rfl rfl (WO.nil ?_))))))
    refine W.cond_bl rfl (fun c4=>?_) (fun c4=>?_)
    ·exfalso;omega
    ·refine W.skip (W.sreg (WO.field0 rfl rfl rfl (WO.load rfl rfl (Cell.own (Pick.tail (Pick.head)) rfl) rfl (WO.fieldL rfl rfl rfl (WO.load rfl rfl (Cell.own (Pick.tail (Pick.head)) rfl) rfl (WO.field0 rfl rfl rfl (WO.load rfl rfl (Cell.own Pick.head rfl) rfl (WO.fieldL rfl rfl rfl (WO.load rfl rfl (Cell.own Pick.head rfl) rfl (WO.callR (r:=.bool false) rfl Tryz.call36 (fun L w hi=>by have k:=top_compare03 w x.1 x.2 y.1 y.2 (by omega) (by omega) (by omega) (by omega);rw [bl_f.2 h] at k;exact k) rfl (WO.p rfl rfl (WO.nil (W.ret ?_)))))))))))))
     exact fin.ret (Res.one rfl (RV.tmp rfl)) rfl
end Go.Proofs.YthoeeeehfkenkaaGreat
namespace Go.TX
open Go Go.TH
noncomputable section
variable {ρ:Ren} {N:Nat} {env:Tr SV} {a:Act} {P:Program} {D:Nat→Prop} {st st':St} {w:World}
def ptS (P:Program) (T:TypeId) (l:List SV) (o:Nat):Option SV:=match isAggB P T with
 | some true=>match szv P T with
  | some n=>subK l o n fun vs=>some (.agg vs)
  | none=>none
 | some false=>nth l o
 | none=>none
theorem ptS_ok {T:Nat} {l:List SV} {us:List Value} {o:Nat} {v:SV} (hl:RelL ρ l us) (h:ptS P T l o=some v):∃ u,(part T us.toArray o).run P w=.ok u w∧Rel ρ v u:=by
 unfold ptS at h
 split at h
 ·rename_i hagg
  split at h
  ·rename_i n hn
   obtain ⟨h1,h2⟩:=subK_some h
   simp only [Option.some.injEq] at h2
   subst h2
   refine ⟨.agg ((us.drop o).take n).toArray,?_,by rw [Rel];exact ⟨_,(hl.drop o).take n,rfl⟩⟩
   simp only [part,Sem.run_bind,run_isAgg hagg,Result.andThen_ok,if_true,TH.run_sizeOf hn]
   simp [List.extract_eq_take_drop]
  ·cases h
 ·rename_i hagg
  rw [nth_eq] at h
  obtain ⟨u,hu,hr⟩:=hl.at h
  refine ⟨u,?_,hr⟩
  simp only [part,Sem.run_bind,run_isAgg hagg,Result.andThen_ok]
  simp [hu]
 ·cases h
def fdS (P:Program) (T f:Nat) (x:SV):Option SV:=match x with
 | .agg l=>match P.underlying T with
  | some (.struct fs)=>match fs[f]? with
   | some fd=>ptS P fd.type l fd.offset
   | none=>none
  | _=>none
 | _=>none
theorem fdS_ok {T f:Nat} {x v:SV} {u:Value} (hx:Rel ρ x u) (h:fdS P T f x=some v):∃ z,(Instr.field T u f).run P w=.ok z w∧Rel ρ v z:=by
 cases x <;> simp only [fdS] at h <;> try (cases h;done)
 rename_i l
 rw [Rel] at hx
 obtain ⟨us,hl,rfl⟩:=hx
 split at h
 ·rename_i fs hu
  split at h
  ·rename_i fd hf
   obtain ⟨z,h1,h2⟩:=ptS_ok (w:=w) hl h
   refine ⟨z,?_,h2⟩
   simp [Instr.field,run_underlying hu,hf,asAgg,h1]
  ·cases h
 ·cases h
def ixS (P:Program) (T:Nat) (x i:SV):Option SV:=match x with
 | .agg l=>match i with
  | .raw (.int _ (.ofNat i))=>match arT P T with
   | some (len,e,sz)=>bif Nat.blt i len then ptS P e l (i*sz) else none
   | none=>none
  | _=>none
 | .raw u=>match i with
  | .raw z=>match pv P (Instr.index T u z) with
   | some (.int k n)=>some (.raw (.int k n))
   | _=>none
  | _=>none
 | _=>none
theorem ixS_ok {T:Nat} {x i v:SV} {u z:Value} (hx:Rel ρ x u) (hi:Rel ρ i z) (h:ixS P T x i=some v):∃ q,(Instr.index T u z).run P w=.ok q w∧Rel ρ v q:=by
 unfold ixS at h
 split at h
 ·rename_i l
  rw [Rel] at hx
  obtain ⟨us,hl,rfl⟩:=hx
  split at h
  ·rename_i k i'
   rw [Rel] at hi
   subst hi
   split at h
   ·rename_i len e sz har
    have hA:=arT_ok har
    cases h1:Nat.blt i' len with
    | false=>rw [h1] at h;cases h
    | true =>
     rw [h1,cond_true] at h
     have h1:=Nat.blt_eq.mp h1
     obtain ⟨q,h2,h3⟩:=ptS_ok (w:=w) hl h
     refine ⟨q,?_,h3⟩
     have g1:(i':Int)<(len:Int):=by omega
     simp [Instr.index,asIntOf,run_underlying hA.u,g1,h1,TH.run_sizeOf hA.size,h2]
   ·cases h
  ·cases h
 ·rename_i u0
  rw [Rel] at hx
  subst hx
  split at h
  ·rename_i z0
   rw [Rel] at hi
   subst hi
   split at h
   ·rename_i k n hp
    simp only [Option.some.injEq] at h
    exact ⟨_,pv_run hp w,by rw [← h,Rel]⟩
   ·cases h
  ·cases h
 ·cases h
def exS (x:SV) (i:Nat):Option SV:=match x with
 | .tup l=>nth l i
 | _=>none
theorem exS_ok {x v:SV} {i:Nat} {u:Value} (hx:Rel ρ x u) (h:exS x i=some v):∃ z,(Instr.extract u i).run P w=.ok z w∧Rel ρ v z:=by
 cases x <;> simp only [exS] at h <;> try (cases h;done)
 rename_i l
 rw [Rel] at hx
 obtain ⟨us,hl,rfl⟩:=hx
 rw [nth_eq] at h
 obtain ⟨z,hz,hr⟩:=hl.at h
 exact ⟨z,by simp [Instr.extract,hz],hr⟩
def lnS (P:Program) (T:Nat) (x:SV) (st:St):Option (SV × St):=match P.underlying T with
 | some (.slice _)=>match x with
  | .sl _ _ n _=>some (.raw (.int .i64 (.ofNat n)),st)
  | .sl0=>some (.raw (.int .i64 0),st)
  | .raw (.slice _ n _)=>some (.raw (.int .i64 (.ofNat n)),st)
  | _=>none
 | some (.map _ _)=>match x with
  | .raw (.map none)=>some (.raw (.int .i64 0),st)
  | .map b=>match st with
   | ⟨h,nx,bs,R,W⟩=>match h.get b with
    | some (.map es _)=>insK bs b R fun R'=>natK (llen es) fun n=>some (.raw (.int .i64 (.ofNat n)),⟨h,nx,bs,R',W⟩)
    | _=>none
  | _=>none
 | _=>none
theorem MRel.len {es:List SEnt}:∀ {ms:List MapEntry},MRel ρ es ms→ms.length=es.length:=by
 induction es with
 | nil=>intro ms h;rw [MRel] at h;rw [h];rfl
 | cons e es ih=>intro ms h;rw [MRel] at h;obtain ⟨m,r,rfl,_,_,_,h5⟩:=h;simp [ih h5]
theorem lnS_ok {T ty:Nat} {x v:SV} {u:Value} (hx:Rel ρ x u) (h:lnS P T x st=some (v,st')) (hs:Sim ρ D st w) (hD:∀ x,x∈st'.R∨st.base≤x→D x):Did P ρ D st st' w v (Builtin.len_ #[T] ty #[u]):=by
 unfold lnS at h
 split at h
 ·rename_i e hu
  split at h <;> try (cases h;done)
  ·simp only [Option.some.injEq,Prod.mk.injEq] at h
   obtain ⟨e1,e2⟩:=h
   subst e2
   rw [Rel] at hx
   obtain ⟨_,_,_,_,_,rfl⟩:=hx
   exact Did.pure hs (by simp [Builtin.len_,run_underlying hu,goInt];rfl) (by rw [← e1,Rel];first | done | rfl)
  ·simp only [Option.some.injEq,Prod.mk.injEq] at h
   obtain ⟨e1,e2⟩:=h
   subst e2
   rw [Rel] at hx
   obtain ⟨_,_,rfl⟩:=hx
   exact Did.pure hs (by simp [Builtin.len_,run_underlying hu,goInt];rfl) (by rw [← e1,Rel];first | done | rfl)
  ·simp only [Option.some.injEq,Prod.mk.injEq] at h
   obtain ⟨e1,e2⟩:=h
   subst e2
   rw [Rel] at hx
   subst hx
   exact Did.pure hs (by simp [Builtin.len_,run_underlying hu,goInt];rfl) (by rw [← e1,Rel];first | done | rfl)
 ·rename_i kt et hu
  split at h <;> try (cases h;done)
  ·simp only [Option.some.injEq,Prod.mk.injEq] at h
   obtain ⟨e1,e2⟩:=h
   subst e2
   rw [Rel] at hx
   subst hx
   exact Did.pure hs (by simp [Builtin.len_,run_underlying hu,goInt];rfl) (by rw [← e1,Rel];first | done | rfl)
  ·rename_i b
   cases st with
   | mk hh nx bs R W =>
    simp only at h
    split at h
    ·rename_i es c hg
     rw [insK_eq,natK_eq] at h
     simp only [Option.some.injEq,Prod.mk.injEq] at h
     obtain ⟨e1,e2⟩:=h
     rw [Rel] at hx
     obtain ⟨B,s,hb,rfl⟩:=hx
     have hd:D b:=hD b (by rw [← e2];exact ins_has _ _ _)
     obtain ⟨b',s',ob,q1,q2,ms,rfl,q4⟩:=hs.live b _ hd hg
     rw [hb] at q1;cases q1
     refine ⟨.int .i64 (ms.length:Int),w,ρ,?_,?_,by rw [← e2];exact Step.touch hs (ins_sub _ _ _) fun _ h=>h⟩
     ·simp [Builtin.len_,run_underlying hu,goInt,getObj,Sem.run,q2]
     ·rw [← e1,Rel,q4.len,llen_eq];rfl
    ·cases h
 ·cases h
def kEq:IntKind→IntKind→Bool
 | .i8,.i8=>true | .i16,.i16=>true | .i32,.i32=>true | .i64,.i64=>true
 | .u8,.u8=>true | .u16,.u16=>true | .u32,.u32=>true | .u64,.u64=>true
 | _,_=>false
theorem kEq_eq {k k':IntKind} (h:kEq k k'=true):k=k':=by cases k <;> cases k' <;> first | rfl | cases h
def kmax:IntKind→Nat
 | .i8=>127 | .i16=>32767 | .i32=>2147483647 | .i64=>9223372036854775807
 | .u8=>255 | .u16=>65535 | .u32=>4294967295 | .u64=>18446744073709551615
def ksg:IntKind→Bool
 | .i8=>true | .i16=>true | .i32=>true | .i64=>true
 | _=>false
def wrapF (k:IntKind) (n:Int):Int:=match n with
 | .ofNat m=>bif Nat.ble m (kmax k) then .ofNat m else k.wrap n
 | .negSucc m=>bif ksg k&&Nat.ble m (kmax k) then .negSucc m else k.wrap n
theorem fits_of {k:IntKind} {m:Nat} (h:m≤kmax k):Fits k m:=by
 cases k <;> simp only [kmax] at h <;> simp [Fits,room,IntKind.bits,IntKind.signed] <;> omega
theorem wrap_pos {k:IntKind} {m:Nat} (h:m≤kmax k):k.wrap (m:Int)=m:=wrap_nat (fits_of h)
theorem kbits (k:IntKind) (hk:ksg k=true):k.signed=true∧(2 ^ k.bits:Int)=2*2 ^ (k.bits-1)∧((kmax k:Nat):Int)+1=2 ^ (k.bits-1):=by
 cases k <;> first | (cases hk;done) | exact ⟨rfl,rfl,rfl⟩
theorem wrap_neg {k:IntKind} {m:Nat} (hk:ksg k=true) (h:m≤kmax k):k.wrap (Int.negSucc m)=Int.negSucc m:=by
 obtain ⟨h1,h2,h3⟩:=kbits k hk
 unfold IntKind.wrap
 rw [h2]
 generalize (2 ^ (k.bits-1):Int)=H at *
 have e:Int.negSucc m%(2*H)=Int.negSucc m+2*H:=by
  rw [← Int.add_emod_right]
  exact Int.emod_eq_of_lt (by rw [Int.negSucc_eq];omega) (by rw [Int.negSucc_eq];omega)
 simp only [e,h1,Bool.true_and]
 rw [if_pos (by rw [decide_eq_true_eq,Int.negSucc_eq];omega)]
 omega
theorem wrapF_eq (k:IntKind) (n:Int):wrapF k n=k.wrap n:=by
 cases n with
 | ofNat m =>
  simp only [wrapF]
  cases h:Nat.ble m (kmax k) with
  | false=>rfl
  | true=>exact (wrap_pos (Nat.ble_eq.mp h)).symm
 | negSucc m =>
  simp only [wrapF]
  cases h:ksg k&&Nat.ble m (kmax k) with
  | false=>rfl
  | true =>
   rw [Bool.and_eq_true] at h
   exact (wrap_neg h.1 (Nat.ble_eq.mp h.2)).symm
def ilt:Int→Int→Bool
 | .ofNat m,.ofNat n=>Nat.blt m n
 | .ofNat _,.negSucc _=>false
 | .negSucc _,.ofNat _=>true
 | .negSucc m,.negSucc n=>Nat.blt n m
theorem ilt_eq (x y:Int):ilt x y=decide (x<y):=by
 rw [Bool.eq_iff_iff,decide_eq_true_eq]
 cases x <;> cases y <;> simp only [ilt,Nat.blt_eq,Bool.false_eq_true,true_iff,false_iff,Int.ofNat_eq_natCast,Int.negSucc_eq] <;> omega
def ieq:Int→Int→Bool
 | .ofNat m,.ofNat n=>Nat.beq m n
 | .negSucc m,.negSucc n=>Nat.beq m n
 | _,_=>false
theorem ieq_eq (x y:Int):ieq x y=decide (x=y):=by
 rw [Bool.eq_iff_iff,decide_eq_true_eq]
 cases x <;> cases y <;> simp [ieq]
 omega
def intV (k:IntKind) (n:Int):Option SV:=intK n fun n'=>some (.raw (.int k n'))
theorem intV_eq (k:IntKind) (n:Int):intV k n=some (.raw (.int k n)):=by simp only [intV,intK_eq]
def boolV (b:Bool):Option SV:=match b with
 | true=>some (.raw (.bool true))
 | false=>some (.raw (.bool false))
theorem boolV_eq (b:Bool):boolV b=some (.raw (.bool b)):=by cases b <;> rfl
def isZ:Int→Bool
 | .ofNat 0=>true
 | _=>false
theorem isZ_eq {n:Int} (h:isZ n=false):n≠0:=by
 rintro rfl;cases h
def ibS (op:BinOp) (k:IntKind) (x:Int) (k':IntKind) (y:Int):Option SV:=match op with
 | .add=>bif kEq k k' then intV k (wrapF k (Int.add x y)) else none
 | .sub=>bif kEq k k' then intV k (wrapF k (Int.sub x y)) else none
 | .mul=>bif kEq k k' then intV k (wrapF k (Int.mul x y)) else none
 | .quo=>bif kEq k k' then (bif isZ y then none else intV k (wrapF k (Int.tdiv x y))) else none
 | .rem=>bif kEq k k' then (bif isZ y then none else intV k (Int.tmod x y)) else none
 | .lss=>bif kEq k k' then boolV (ilt x y) else none
 | .gtr=>bif kEq k k' then boolV (ilt y x) else none
 | .leq=>bif kEq k k' then boolV (!ilt y x) else none
 | .geq=>bif kEq k k' then boolV (!ilt x y) else none
 | .eql=>bif kEq k k' then boolV (ieq x y) else none
 | .neq=>bif kEq k k' then boolV (!ieq x y) else none
 | .and=>bif kEq k k' then (match x with
  | .ofNat m=>match y with
   | .ofNat n=>bif Nat.ble m (kmax k)&&Nat.ble n (kmax k) then intV k (.ofNat (Nat.land m n)) else none
   | _=>none
  | _=>none) else none
 | .or=>bif kEq k k' then (match x with
  | .ofNat m=>match y with
   | .ofNat n=>bif Nat.ble m (kmax k)&&Nat.ble n (kmax k) then intV k (.ofNat (Nat.lor m n)) else none
   | _=>none
  | _=>none) else none
 | .xor=>bif kEq k k' then (match x with
  | .ofNat m=>match y with
   | .ofNat n=>bif Nat.ble m (kmax k)&&Nat.ble n (kmax k) then intV k (.ofNat (Nat.xor m n)) else none
   | _=>none
  | _=>none) else none
 | .andNot=>bif kEq k k' then (match x with
  | .ofNat m=>match y with
   | .ofNat n=>bif Nat.ble m (kmax k)&&Nat.ble n (kmax k) then intV k (.ofNat (Nat.xor m (Nat.land m n))) else none
   | _=>none
  | _=>none) else none
 | .shl=>match x with
  | .ofNat m=>match y with
   | .ofNat s=>bif Nat.ble s k.bits then intV k (wrapF k (.ofNat (Nat.shiftLeft m s))) else none
   | _=>none
  | _=>none
 | .shr=>match x with
  | .ofNat m=>match y with
   | .ofNat s=>bif Nat.ble s k.bits then intV k (.ofNat (Nat.shiftRight m s)) else none
   | _=>none
  | _=>none
end
end Go.TX
namespace Go.TH
open Go
section
variable {P:Program} {C:Cx P} {E:Env} {H:List HP}
variable {ops:Array Oper} {K:KP} {rest:List Oper} {d:Nat} {ty:TypeId} {pos:String} {af:Array Edge} {x y:Operand} {T T':TypeId} {k:IntKind} {a b:Nat}
theorem bv_andNot {n:Nat} (x y:BitVec n):x&&&~~~y=x^^^(x&&&y):=by
 apply BitVec.eq_of_getLsbD_eq
 intro i hi
 simp [hi]
 cases x[i] <;> cases y[i] <;> rfl
end
end Go.TH
namespace Go.TX
open Go Go.TH
noncomputable section
variable {ρ:Ren} {N:Nat} {env:Tr SV} {a:Act} {P:Program} {D:Nat→Prop} {st st':St} {w:World}
def opT (op:BinOp) (T:TypeId) (xo yo:Operand) (u z:Value):Sem Value:=do eqGuard op T xo yo u z;binOp op T u z
theorem ble2 {m n k:Nat} (h:(Nat.ble m k&&Nat.ble n k)=true):m≤k∧n≤k:=by
 rw [Bool.and_eq_true] at h
 exact ⟨Nat.ble_eq.mp h.1,Nat.ble_eq.mp h.2⟩
def arF (op:BinOp) (x y:Int):Option Int:=match op with | .add=>some (x+y) | .sub=>some (x-y) | .mul=>some (x*y) | _=>none
def cmF (op:BinOp) (x y:Int):Option Bool:=match op with | .lss=>some (ilt x y) | .gtr=>some (ilt y x) | .leq=>some (!ilt y x) | .geq=>some (!ilt x y) | .eql=>some (ieq x y) | .neq=>some (!ieq x y) | _=>none
def dvF (op:BinOp) (k:IntKind) (x y:Int):Option Int:=match op with | .quo=>some (k.wrap (x.tdiv y)) | .rem=>some (x.tmod y) | _=>none
def btF (op:BinOp) (m n:Nat):Option Nat:=match op with | .and=>some (m&&&n) | .or=>some (m|||n) | .xor=>some (m^^^n) | .andNot=>some (m^^^(m&&&n)) | _=>none
def shF (op:BinOp) (k:IntKind) (m s:Nat):Option Int:=match op with | .shl=>some (k.wrap ((m<<<s:Nat):Int)) | .shr=>some ((m>>>s:Nat):Int) | _=>none
theorem op_arith {op:BinOp} {k:IntKind} {x y n:Int} (h:arF op x y=some n) (T:TypeId) (xo yo:Operand):(opT op T xo yo (.int k x) (.int k y)).run P w=.ok (.int k (k.wrap n)) w:=by
 cases op <;> simp only [arF,Option.some.injEq,reduceCtorEq] at h <;> subst h <;> simp [opT,eqGuard,binOp,Op.intArith]
theorem op_cmp {op:BinOp} {k:IntKind} {x y:Int} {b:Bool} (h:cmF op x y=some b) (T:TypeId) (xo yo:Operand) :
 (opT op T xo yo (.int k x) (.int k y)).run P w=.ok (.bool b) w:=by
 cases op <;> simp only [cmF,Option.some.injEq,reduceCtorEq] at h <;> subst h <;> simp [opT,eqGuard,binOp,Op.intCmp,ilt_eq,ieq_eq]
 ·by_cases q:x=y <;> simp [q]
 ·by_cases q:x=y <;> simp [q]
 ·rw [Bool.eq_iff_iff];simp
 ·rw [Bool.eq_iff_iff];simp
theorem op_div {op:BinOp} {k:IntKind} {x y n:Int} (hy:y≠0) (h:dvF op k x y=some n) (T:TypeId) (xo yo:Operand):(opT op T xo yo (.int k x) (.int k y)).run P w=.ok (.int k n) w:=by
 cases op <;> simp only [dvF,Option.some.injEq,reduceCtorEq] at h <;> subst h <;> simp [opT,eqGuard,binOp,Op.intDiv,hy]
theorem op_bits {op:BinOp} {k:IntKind} {m n r:Nat} (hm:m≤kmax k) (hn:n≤kmax k) (h:btF op m n=some r) (T:TypeId) (xo yo:Operand) :
 (opT op T xo yo (.int k (m:Int)) (.int k (n:Int))).run P w=.ok (.int k (r:Int)) w:=by
 have ha:=fits_of hm
 have hb:=fits_of hn
 cases op <;> simp only [btF,Option.some.injEq,reduceCtorEq] at h <;> subst h
 ·simp [opT,eqGuard,binOp,Op.intBits,mod_fits ha,mod_fits hb]
  exact_mod_cast wrap_nat (k:=k) (a:=m&&&n) ha.and
 ·simp [opT,eqGuard,binOp,Op.intBits,mod_fits ha,mod_fits hb]
  exact_mod_cast wrap_nat (k:=k) (a:=m|||n) (ha.or hb)
 ·simp [opT,eqGuard,binOp,Op.intBits,mod_fits ha,mod_fits hb]
  exact_mod_cast wrap_nat (k:=k) (a:=m^^^n) (ha.xor hb)
 ·simp [opT,eqGuard,binOp,Op.intBits,bv_andNot,mod_fits ha,mod_fits hb]
  exact_mod_cast wrap_nat (k:=k) (a:=m^^^(m&&&n)) (ha.xor ha.and)
theorem op_shift {op:BinOp} {k k':IntKind} {m s:Nat} {r:Int} (hs:s≤k.bits) (h:shF op k m s=some r) (T:TypeId) (xo yo:Operand) :
 (opT op T xo yo (.int k (m:Int)) (.int k' (s:Int))).run P w=.ok (.int k r) w:=by
 have h0:¬ ((s:Int)<0):=by omega
 cases op <;> simp only [shF,Option.some.injEq,reduceCtorEq] at h <;> subst h
 ·simp [opT,eqGuard,binOp,Op.shift,h0,Nat.min_eq_left hs,Nat.shiftLeft_eq]
 ·simp [opT,eqGuard,binOp,Op.shift,h0,Nat.min_eq_left hs,Nat.shiftRight_eq_div_pow]
  rw [Int.fdiv_eq_ediv_of_nonneg _ (by exact_mod_cast Nat.zero_le (2 ^ s))]
theorem kEq_of {α:Type} {k k':IntKind} {x:Option α} {v:α} (h:(bif kEq k k' then x else none)=some v):k=k'∧x=some v:=by
 cases hk:kEq k k' with
 | false=>rw [hk] at h;cases h
 | true=>rw [hk] at h;exact ⟨kEq_eq hk,h⟩
theorem bif_of {α:Type} {b:Bool} {x:Option α} {v:α} (h:(bif b then x else none)=some v):b=true∧x=some v:=by
 cases b with
 | false=>cases h
 | true=>exact ⟨rfl,h⟩
theorem bif_no {α:Type} {b:Bool} {x:Option α} {v:α} (h:(bif b then none else x)=some v):b=false∧x=some v:=by
 cases b with
 | true=>cases h
 | false=>exact ⟨rfl,h⟩
theorem two_of {α:Type} {x y:Int} {f:Nat→Nat→Option α} {v:α} (h:(match x with | .ofNat m=>(match y with | .ofNat n=>f m n | _=>none) | _=>none)=some v):∃ m n:Nat,x=(m:Int)∧y=(n:Int)∧f m n=some v:=by
 cases x <;> cases y <;> simp only [reduceCtorEq] at h
 exact ⟨_,_,rfl,rfl,h⟩
theorem ibS_ok {op:BinOp} {k k':IntKind} {x y:Int} {v:SV} (h:ibS op k x k' y=some v) (T:TypeId) (xo yo:Operand):∃ u,(opT op T xo yo (.int k x) (.int k' y)).run P w=.ok u w∧v=.raw u:=by
 have arith:∀ {n:Int},k=k'∧intV k (wrapF k n)=some v→arF op x y=some n→∃ u,(opT op T xo yo (.int k x) (.int k' y)).run P w=.ok u w∧v=.raw u:=by
  rintro n ⟨rfl,g⟩ hn
  rw [intV_eq,wrapF_eq,Option.some.injEq] at g
  exact ⟨_,op_arith hn T xo yo,g.symm⟩
 have cmp:∀ {b:Bool},k=k'∧boolV b=some v→cmF op x y=some b→∃ u,(opT op T xo yo (.int k x) (.int k' y)).run P w=.ok u w∧v=.raw u:=by
  rintro b ⟨rfl,g⟩ hb
  rw [boolV_eq,Option.some.injEq] at g
  exact ⟨_,op_cmp hb T xo yo,g.symm⟩
 have bits:∀ {f:Nat→Nat→Nat},(k=k'∧∃ m n:Nat,x=(m:Int)∧y=(n:Int)∧(bif Nat.ble m (kmax k)&&Nat.ble n (kmax k) then intV k (.ofNat (f m n)) else none)=some v)→(∀ m n,btF op m n=some (f m n)) →
  ∃ u,(opT op T xo yo (.int k x) (.int k' y)).run P w=.ok u w∧v=.raw u:=by
  rintro f ⟨rfl,m,n,rfl,rfl,g⟩ hf
  obtain ⟨hb,g⟩:=bif_of g
  obtain ⟨hm,hn⟩:=ble2 hb
  rw [intV_eq,Option.some.injEq] at g
  exact ⟨_,op_bits hm hn (hf m n) T xo yo,g.symm⟩
 cases op <;> simp only [ibS] at h
 ·exact arith (kEq_of h) rfl
 ·exact arith (kEq_of h) rfl
 ·exact arith (kEq_of h) rfl
 ·obtain ⟨rfl,g⟩:=kEq_of h
  obtain ⟨hz,g⟩:=bif_no g
  rw [intV_eq,wrapF_eq,Option.some.injEq] at g
  exact ⟨_,op_div (isZ_eq hz) rfl T xo yo,g.symm⟩
 ·obtain ⟨rfl,g⟩:=kEq_of h
  obtain ⟨hz,g⟩:=bif_no g
  rw [intV_eq,Option.some.injEq] at g
  exact ⟨_,op_div (isZ_eq hz) rfl T xo yo,g.symm⟩
 ·exact bits ⟨(kEq_of h).1,two_of (kEq_of h).2⟩ fun _ _=>rfl
 ·exact bits ⟨(kEq_of h).1,two_of (kEq_of h).2⟩ fun _ _=>rfl
 ·exact bits ⟨(kEq_of h).1,two_of (kEq_of h).2⟩ fun _ _=>rfl
 ·obtain ⟨m,s,rfl,rfl,g⟩:=two_of h
  obtain ⟨hb,g⟩:=bif_of g
  rw [intV_eq,wrapF_eq,Option.some.injEq] at g
  exact ⟨_,op_shift (Nat.ble_eq.mp hb) rfl T xo yo,g.symm⟩
 ·obtain ⟨m,s,rfl,rfl,g⟩:=two_of h
  obtain ⟨hb,g⟩:=bif_of g
  rw [intV_eq,Option.some.injEq] at g
  exact ⟨_,op_shift (Nat.ble_eq.mp hb) rfl T xo yo,g.symm⟩
 ·exact bits ⟨(kEq_of h).1,two_of (kEq_of h).2⟩ fun _ _=>rfl
 all_goals exact cmp (kEq_of h) rfl
end
end Go.TX
namespace Go.TX
open Go Go.TH
noncomputable section
variable {ρ:Ren} {N:Nat} {env:Tr SV} {a:Act} {P:Program} {D:Nat→Prop} {st st':St} {w:World}
def raws:List SV→Option (List Value)
 | []=>some []
 | .raw v::r=>match raws r with
  | some l=>some (v::l)
  | none=>none
 | _::_=>none
def toV:SV→Option Value
 | .raw v=>some v
 | .agg l=>match raws l with
  | some vs=>some (.agg vs.toArray)
  | none=>none
 | _=>none
theorem raws_rel:∀ {l:List SV} {vs us:List Value},raws l=some vs→RelL ρ l us→us=vs
 | [],vs,us,h,hr=>by
  simp only [raws,Option.some.injEq] at h
  rw [RelL] at hr
  rw [hr,h]
 | s::l,vs,us,h,hr=>by
  rw [RelL] at hr
  obtain ⟨v,r,rfl,h1,h2⟩:=hr
  cases s <;> simp only [raws] at h <;> try (cases h;done)
  rw [Rel] at h1
  subst h1
  split at h
  ·rename_i l' hl
   simp only [Option.some.injEq] at h
   subst h
   rw [raws_rel hl h2]
  ·cases h
theorem toV_rel {s:SV} {v u:Value} (h:toV s=some v) (hr:Rel ρ s u):u=v:=by
 cases s <;> simp only [toV] at h <;> try (cases h;done)
 ·rw [Rel] at hr
  simp only [Option.some.injEq] at h
  rw [hr,h]
 ·rw [Rel] at hr
  obtain ⟨us,h1,rfl⟩:=hr
  split at h
  ·rename_i vs hv
   simp only [Option.some.injEq] at h
   subst h
   rw [raws_rel hv h1]
  ·cases h
def valV (v:Value):Option SV:=match v with
 | .int k n=>intV k n
 | .bool b=>boolV b
 | .agg cs=>some (.agg (cs.toList.map .raw))
 | v=>some (.raw v)
theorem valV_rel {v:Value} {s:SV} (h:valV v=some s):Rel ρ s v:=by
 cases v <;> simp only [valV,intV_eq,boolV_eq,Option.some.injEq] at h <;> subst h <;> rw [Rel]
 exact ⟨_,RelL.raws _,by simp⟩
def isNil:SV→Bool
 | .raw (.pointer none)=>true
 | .raw (.slice none 0 0)=>true
 | .raw (.map none)=>true
 | .raw .nilFunc=>true
 | _=>false
def eqNil (P:Program) (T:TypeId) (x:SV):Option Bool:=match x with
 | .ptr _ _=>match P.underlying T with
  | some (.pointer _)=>some false
  | _=>none
 | .sl _ _ _ _=>match P.underlying T with
  | some (.slice _)=>some false
  | _=>none
 | .map _=>match P.underlying T with
  | some (.map _ _)=>some false
  | _=>none
 | .fn _ _ _=>match P.underlying T with
  | some (.func _ _ _)=>some false
  | _=>none
 | _=>none
def nilT (P:Program) (T:TypeId) (x:SV):Bool:=match x with
 | .raw (.pointer none)=>match P.underlying T with
  | some (.pointer _)=>true
  | _=>false
 | .raw (.slice none 0 0)=>match P.underlying T with
  | some (.slice _)=>true
  | _=>false
 | .raw (.map none)=>match P.underlying T with
  | some (.map _ _)=>true
  | _=>false
 | .raw .nilFunc=>match P.underlying T with
  | some (.func _ _ _)=>true
  | _=>false
 | _=>false
theorem eqNil_ok {T:TypeId} {x y:SV} {u z:Value} {b:Bool} (hx:Rel ρ x u) (hy:Rel ρ y z) (h:eqNil P T x=some b) (hn:nilT P T y=true) :
 (Op.equal T u z).run P w=.ok b w∧(Op.equal T z u).run P w=.ok b w:=by
 cases x <;> simp only [eqNil] at h <;> try (cases h;done)
 all_goals
  split at h <;> try (cases h;done)
  rename_i hu
  simp only [Option.some.injEq] at h
  subst h
  unfold nilT at hn
  split at hn <;> try (cases hn;done)
  all_goals
   split at hn <;> try (cases hn;done)
   rename_i hu'
   rw [hu] at hu'
   first
    |(cases hu';done)
    |(simp only [Rel] at hx hy
      subst hy
      first
       |(obtain ⟨_,_,_,rfl⟩:=hx
         constructor <;> (unfold Op.equal;rw [show Op.maxDepth=9999+1 from rfl,Op.equalIn];simp [run_underlying hu]))
       |(obtain ⟨_,_,_,_,_,rfl⟩:=hx
         constructor <;> (unfold Op.equal;rw [show Op.maxDepth=9999+1 from rfl,Op.equalIn];simp [run_underlying hu]))
       |(obtain ⟨_,_,_,_,rfl⟩:=hx
         constructor <;> (unfold Op.equal;rw [show Op.maxDepth=9999+1 from rfl,Op.equalIn];simp [run_underlying hu])))
def boS (P:Program) (op:BinOp) (T:TypeId) (xo yo:Operand) (x y:SV):Option SV:=match x with
 | .raw (.int k m)=>match y with
  | .raw (.int k' n)=>ibS op k m k' n
  | _=>none
 | x=>match toV x with
  | some u=>match toV y with
   | some z=>match pv P (opT op T xo yo u z) with
    | some v=>valV v
    | none=>none
   | none=>bif isNil x&&nilT P T x then (match eqNil P T y with
    | some b=>match op with
     | .eql=>boolV b
     | .neq=>boolV (!b)
     | _=>none
    | none=>none) else none
  | none=>bif nilT P T y then (match eqNil P T x with
   | some b=>match op with
    | .eql=>boolV b
    | .neq=>boolV (!b)
    | _=>none
   | none=>none) else none
theorem opT_eq {op:BinOp} {T:TypeId} {xo yo:Operand} {u z:Value} {b:Bool} {v:SV} (hq:(Op.equal T u z).run P w=.ok b w)  (hg:∀ op,(eqGuard op T xo yo u z).run P w=.ok () w) (hop:∀ op,op=.eql∨op=.neq→binOp op T u z=(if op=.eql then (do pure (.bool (← Op.equal T u z))) else (do pure (.bool (!(← Op.equal T u z)))))) (h:(match op with | .eql=>boolV b | .neq=>boolV (!b) | _=>none)=some v):∃ r,(opT op T xo yo u z).run P w=.ok r w∧Rel ρ v r:=by
 cases op <;> simp only [reduceCtorEq] at h
 ·rw [boolV_eq,Option.some.injEq] at h
  refine ⟨.bool b,?_,by rw [← h,Rel]⟩
  simp only [opT,Sem.run_bind,hg,Result.andThen_ok,hop .eql (.inl rfl),if_true]
  simp [hq]
 ·rw [boolV_eq,Option.some.injEq] at h
  refine ⟨.bool !b,?_,by rw [← h,Rel]⟩
  simp only [opT,Sem.run_bind,hg,Result.andThen_ok,hop .neq (.inr rfl)]
  simp [hq]
theorem guard_nil {op:BinOp} {T:TypeId} {xo yo:Operand} {x y:SV} {u z:Value} {b:Bool} (hx:Rel ρ x u) (hy:Rel ρ y z) (h:eqNil P T x=some b) (hn:nilT P T y=true) :
 (eqGuard op T xo yo u z).run P w=.ok () w∧(eqGuard op T yo xo z u).run P w=.ok () w∧(∀ op,op=.eql∨op=.neq→binOp op T u z=(if op=.eql then (do pure (.bool (← Op.equal T u z))) else (do pure (.bool (!(← Op.equal T u z)))))) ∧
   (∀ op,op=.eql∨op=.neq→binOp op T z u=(if op=.eql then (do pure (.bool (← Op.equal T z u))) else (do pure (.bool (!(← Op.equal T z u)))))):=by
 cases x <;> simp only [eqNil] at h <;> try (cases h;done)
 all_goals
  split at h <;> try (cases h;done)
  unfold nilT at hn
  split at hn <;> try (cases hn;done)
  all_goals
   simp only [Rel] at hx hy
   subst hy
   first
    |(obtain ⟨_,_,_,rfl⟩:=hx
      refine ⟨by cases op <;> simp [eqGuard],by cases op <;> simp [eqGuard],?_,?_⟩ <;> (rintro op (rfl | rfl) <;> rfl))
    |(obtain ⟨_,_,_,_,_,rfl⟩:=hx
      refine ⟨by cases op <;> simp [eqGuard],by cases op <;> simp [eqGuard],?_,?_⟩ <;> (rintro op (rfl | rfl) <;> rfl))
    |(obtain ⟨_,_,_,_,rfl⟩:=hx
      refine ⟨by cases op <;> simp [eqGuard],by cases op <;> simp [eqGuard],?_,?_⟩ <;> (rintro op (rfl | rfl) <;> rfl))
theorem boS_ok {op:BinOp} {T:TypeId} {xo yo:Operand} {x y v:SV} {u z:Value} (hx:Rel ρ x u) (hy:Rel ρ y z) (h:boS P op T xo yo x y=some v):∃ r,(opT op T xo yo u z).run P w=.ok r w∧Rel ρ v r:=by
 unfold boS at h
 split at h
 ·rename_i k m
  split at h
  ·rename_i k' n
   rw [Rel] at hx hy
   subst hx;subst hy
   obtain ⟨r,h1,h2⟩:=ibS_ok (P:=P) (w:=w) h T xo yo
   exact ⟨r,h1,by rw [h2,Rel]⟩
  ·cases h
 ·split at h
  ·rename_i u' hu
   have eu:=toV_rel hu hx
   split at h
   ·rename_i z' hz
    have ez:=toV_rel hz hy
    subst eu;subst ez
    split at h
    ·rename_i r hp
     exact ⟨r,pv_run hp w,valV_rel h⟩
    ·cases h
   ·obtain ⟨hb,h⟩:=bif_of h
    rw [Bool.and_eq_true] at hb
    split at h
    ·rename_i b hq
     have h1:=eqNil_ok (w:=w) hy hx hq hb.2
     have h2:=fun op=>guard_nil (w:=w) (op:=op) (xo:=yo) (yo:=xo) hy hx hq hb.2
     exact opT_eq h1.2 (fun op=>(h2 op).2.1) (h2 .eql).2.2.2 h
    ·cases h
  ·obtain ⟨hb,h⟩:=bif_of h
   split at h
   ·rename_i b hq
    have h1:=eqNil_ok (w:=w) hx hy hq hb
    have h2:=fun op=>guard_nil (w:=w) (op:=op) (xo:=xo) (yo:=yo) hx hy hq hb
    exact opT_eq h1.1 (fun op=>(h2 op).1) (h2 .eql).2.2.1 h
   ·cases h
end
end Go.TX
namespace Go.TX
open Go Go.TH
noncomputable section
variable {ρ:Ren} {N:Nat} {env:Tr SV} {a:Act} {P:Program} {D:Nat→Prop} {st st':St} {w:World}
def unS (P:Program) (op:UnOp) (x:SV):Option SV:=match op,x with
 | .not,.raw (.bool b)=>boolV (!b)
 | op,x=>match toV x with
  | some u=>match pv P (Op.unary op u) with
   | some v=>valV v
   | none=>none
  | none=>none
theorem unS_ok {op:UnOp} {x v:SV} {u:Value} (hx:Rel ρ x u) (h:unS P op x=some v):∃ r,(Op.unary op u).run P w=.ok r w∧Rel ρ v r:=by
 unfold unS at h
 split at h
 ·rw [Rel] at hx
  subst hx
  rw [boolV_eq,Option.some.injEq] at h
  exact ⟨_,by simp [Op.unary];rfl,by rw [← h,Rel]⟩
 ·split at h
  ·rename_i u' hu
   have:=toV_rel hu hx
   subst this
   split at h
   ·rename_i r hr
    exact ⟨r,pv_run hr w,valV_rel h⟩
   ·cases h
  ·cases h
def intK? (P:Program) (T:TypeId):Option IntKind:=match P.underlying T with
 | some (.int k)=>some k
 | _=>none
def cvS (P:Program) (T T':TypeId) (x:SV):Option SV:=match x with
 | .raw (.int _ n)=>match intK? P T' with
  | some k=>bif (P.underlying T).isSome then intV k (wrapF k n) else none
  | none=>none
 | x=>match toV x with
  | some u=>match pv P (convert T T' u) with
   | some v=>valV v
   | none=>none
  | none=>none
theorem cvS_ok {T T':TypeId} {x v:SV} {u:Value} (hx:Rel ρ x u) (h:cvS P T T' x=some v):∃ r,(convert T T' u).run P w=.ok r w∧Rel ρ v r:=by
 unfold cvS at h
 split at h
 ·rename_i k n
  rw [Rel] at hx
  subst hx
  split at h
  ·rename_i k' hk
   unfold intK? at hk
   split at hk
   ·rename_i k2 hu
    simp only [Option.some.injEq] at hk
    subst hk
    obtain ⟨hs,h⟩:=bif_of h
    obtain ⟨ds,hd⟩:=Option.isSome_iff_exists.mp hs
    rw [intV_eq,wrapF_eq,Option.some.injEq] at h
    exact ⟨_,by simp [convert,run_underlying hd,run_underlying hu,Conv.intToInt];rfl,by rw [← h,Rel]⟩
   ·cases hk
  ·cases h
 ·split at h
  ·rename_i u' hu
   have:=toV_rel hu hx
   subst this
   split at h
   ·rename_i r hr
    exact ⟨r,pv_run hr w,valV_rel h⟩
   ·cases h
  ·cases h
def srcK {β:Type} (sz:Nat) (y:SV) (st:St) (k:Nat→List SV→St→Option β):Option β:=match y with
 | .raw (.slice none 0 0)=>k 0 [] st
 | .sl0=>k 0 [] st
 | .sl b o n _=>rdK st b fun l _ _ st'=>subK l o (n*sz) fun vs=>k n vs st'
 | _=>none
structure Src (P:Program) (w:World) (sz:Nat) (z:Value) (n:Nat) (us:List Value):Prop where
 is:∃ ad c,z=.slice ad n c∧(0<n→∃ b o,ad=some ⟨b,o,none⟩∧∀ j u,us[j]?=some u→w.cell? ((⟨b,o,none⟩:Addr).add j)=some u)
 len:us.length=n*sz
theorem srcK_ok {β:Type} {sz:Nat} {y:SV} {z:Value} {k:Nat→List SV→St→Option β} {r:β} (hy:Rel ρ y z) (h:srcK sz y st k=some r) (hs:Sim ρ D st w) (hD:∀ n vs st',k n vs st'=some r→∀ x,x∈st'.R∨st.base≤x→D x) :
 ∃ n vs us R',k n vs ⟨st.h,st.nx,st.base,R',st.W⟩=some r∧(∀ x,x∈st.R→x∈R')∧RelL ρ vs us∧Src P w sz z n us:=by
 unfold srcK at h
 split at h
 ·rw [Rel] at hy
  subst hy
  exact ⟨0,[],[],st.R,h,fun _ h=>h,RelL.nil,⟨none,0,rfl,fun h=>absurd h (by omega)⟩,by simp⟩
 ·rw [Rel] at hy
  obtain ⟨ad,c,rfl⟩:=hy
  exact ⟨0,[],[],st.R,h,fun _ h=>h,RelL.nil,⟨ad,c,rfl,fun h=>absurd h (by omega)⟩,by simp⟩
 ·rename_i b o n c
  rw [Rel] at hy
  obtain ⟨B,s,cap,hb,_,rfl⟩:=hy
  obtain ⟨l,e,op,hg,h⟩:=rdK_some h
  obtain ⟨hl,h⟩:=subK_some h
  have hd:D b:=hD _ _ _ h b (ins_has _ _ _)
  obtain ⟨b',s',pre,us,vs,q1,q2,qz,q3,q4,q5⟩:=hs.row hd hg
  rw [hb] at q1;cases q1
  refine ⟨n,_,(us.drop o).take (n*sz),_,h,ins_sub _ _ _,(q3.drop o).take _,⟨_,_,rfl,fun _=>⟨_,_,rfl,cells_of q2 qz⟩⟩,?_⟩
  have:=q3.len
  simp;omega
 ·cases h
theorem run_firstCells_src {sz n:Nat} {z:Value} {us:List Value} (h:Src P w sz z n us) {w':World} (hc:∀ p v,w.cell? p=some v→w'.cell? p=some v):(Builtin.firstCells sz n z).run P w'=.ok us.toArray w':=by
 obtain ⟨⟨ad,c,rfl,ha⟩,hl⟩:=h
 rcases Nat.eq_zero_or_pos n with rfl | hp
 ·have:us=[]:=List.eq_nil_of_length_eq_zero (by simpa using hl)
  subst this
  cases ad with
  | none=>simp [Builtin.firstCells]
  | some b =>
   have:=run_loadCells_list (P:=P) w' b [] (by simp)
   simpa [Builtin.firstCells] using this
 ·obtain ⟨b,o,rfl,hh⟩:=ha hp
  exact run_firstCells_some (P:=P) w' sz n _ n c us hl (fun j v hv=>hc _ _ (hh j v hv))
theorem run_append_in {T e:TypeId} {ty:TypeId} {i:TypeInfo} (hu:P.underlying T=some (.slice e)) (hi:P.info? e=some i) {b o n k:Nat} {cs:List Value} {e':TypeId} (hg:w.heap[b]?=some (.cells cs.toArray e' (0,0))) {z:Value} {m:Nat} {news:List Value}
 (hz:Src P w i.size z m news) (h1:∀ u∈news,u.oneCell'=true) (hroom:n+m≤k) (hfit:o+n*i.size+news.length≤cs.length) :
 ∃ w',(Builtin.append_ #[T,T] ty #[.slice (some ⟨b,o,none⟩) n k,z]).run P w=.ok (.slice (some ⟨b,o,none⟩) (n+m) k) w'∧w'.os=w.os∧w'.tape=w.tape∧w'.output=w.output∧w'.heap.size=w.heap.size ∧
  w'.heap[b]?=some (.cells (wrl cs (o+n*i.size) news).toArray e' (0,0))∧∀ q,q≠b→w'.heap[q]?=w.heap[q]?:=by
 have hf:=run_firstCells_src (P:=P) hz (w':=w) fun _ _ h=>h
 obtain ⟨w',hr,a1,a2,a3,a4,a5,a6⟩:=run_storeCells_own (P:=P) (b:=b) (off:=o+n*i.size) news 0 w cs hg (by simpa using hfit) h1
 refine ⟨w',?_,a1,a2,a3,a4,by simpa using a5,a6⟩
 obtain ⟨ad,c,rfl,_⟩:=hz.is
 simp [Builtin.append_,run_underlying hu,sizeOf,typeInfo,hi,Builtin.lenOf,hroom,hf,Addr.add_lit,hr]
theorem run_append_new {T e:TypeId} {ty:TypeId} {i:TypeInfo} {zv:Value} (hu:P.underlying T=some (.slice e)) (hi:P.info? e=some i) (hzv:i.zero=some zv) {x:Value} {n k:Nat} {olds:List Value} {ad:Option Addr} (hx:x=.slice ad n k) (hx':ad=none→n=0∧k=0) (ho:∀ {w':World},(∀ p v,w.cell? p=some v→w'.cell? p=some v)→(Builtin.firstCells i.size n x).run P w'=.ok olds.toArray w') {z:Value} {m:Nat} {news:List Value}
 (hz:Src P w i.size z m news) (hm:0<m) (hg:k<n+m) (h63:n+m≤9223372036854775807) (hb:(n+m)*i.bytes≤140737488355328) :
 ∃ c w',n+m≤c∧(Builtin.append_ #[T,T] ty #[x,z]).run P w=.ok (.slice (some ⟨w.heap.size,0,none⟩) (n+m) c) w'∧w'.os=w.os∧w'.tape=w.tape∧w'.output=w.output ∧
  w'.heap=w.heap.push (.cells ((olds++news)++(Builtin.zeroCells zv.cells (c-(n+m))).toList).toArray e (0,0)):=by
 obtain ⟨⟨az,cz,rfl,ha⟩,hl⟩:=hz
 obtain ⟨b0,o0,rfl,hh⟩:=ha hm
 have hf:=run_firstCells_some (P:=P) w.drew i.size m ⟨b0,o0,none⟩ m cz news hl (by simpa using hh)
 have ho':=ho (w':=w.drew) fun p v h=>by simpa using h
 have hn:¬ (n+m≤k):=by omega
 have h63':¬ (9223372036854775807<((n:Int)+(m:Int))):=by omega
 have hfit:=growslice_fits (bytes:=i.bytes) hg hb
 have h48':¬ (281474976710656<Builtin.nextslicecap (n+m) k*i.bytes):=by omega
 subst hx
 refine ⟨grownCap w (n+m) k e,w.drew.alloc (.cells ((olds++news)++(Builtin.zeroCells zv.cells (grownCap w (n+m) k e-(n+m))).toList).toArray e),grownCap_ge w (n+m) k e,?_,rfl,rfl,rfl,rfl⟩
 simp [Builtin.append_,run_underlying hu,sizeOf,typeInfo,zeroValue,hi,hzv,Builtin.lenOf,hn,h63',h48',Question.forced,hf,ho',newRow,grownCap]
 congr 2
 apply Array.ext'
 simp [List.append_assoc]
def apC (e sz by':Nat) (x:SV) (m:Nat) (news:List SV) (st1:St):Option (SV × St):=match m with
 | 0=>match x with
  | .raw (.slice none 0 0)=>some (x,st1)
  | .sl _ _ n (.kn k)=>bif Nat.ble n k then some (x,st1) else none
  | _=>none
 | m'+1=>bif onesS news then (match x with
  | .raw (.slice none 0 0)=>bif Nat.ble ((m'+1)*by') 140737488355328&&Nat.ble (m'+1) 9223372036854775807 then
   newK st1 (.cells news e true) fun q st'=>natK (m'+1) fun n'=>some (.sl q 0 n' (.rest sz),st')
   else none
  | .sl b o n (.kn k)=>bif Nat.ble (n+(m'+1)) k then
   (rdK st1 b fun l e' op st2=>wrK l (o+n*sz) news fun l'=>wtK st2 b (.cells l' e' op) fun st'=>natK (n+(m'+1)) fun n'=>some (.sl b o n' (.kn k),st'))
   else (bif Nat.ble ((n+(m'+1))*by') 140737488355328&&Nat.ble (n+(m'+1)) 9223372036854775807 then
    rdK st1 b fun l _ _ st2=>subK l o (n*sz) fun olds=>appK olds news fun row=>newK st2 (.cells row e true) fun q st'=>natK (n+(m'+1)) fun n'=>some (.sl q 0 n' (.rest sz),st')
   else none)
  | .sl b o n (.rest sz')=>bif Nat.beq sz sz'&&Nat.blt 0 sz then (bif Nat.ble ((n+(m'+1))*by') 140737488355328&&Nat.ble (n+(m'+1)) 9223372036854775807 then
   rdK st1 b fun l e' op st2=>bif op&&Nat.beq e' e then (bif Nat.ble (o+(n+(m'+1))*sz) (llen l) then none else subK l o (n*sz) fun olds=>appK olds news fun row =>
    match st2 with
    | ⟨h,nx,bs,R,W⟩=>h.setK b none fun h1=>h1.setK nx (some (.cells row e true)) fun h2=>natK (Nat.succ nx) fun nx'=>insK bs b W fun W'=>natK (n+(m'+1)) fun n'=>some (.sl nx 0 n' (.rest sz),⟨h2,nx',bs,R,W'⟩))
   else none else none) else none
  | _=>none) else none
def apS (P:Program) (T T':TypeId) (x y:SV) (st:St):Option (SV × St):=bif Nat.beq T T' then match slT P T with
 | some (e,sz,by',_)=>srcK sz y st fun m news st1=>apC e sz by' x m news st1
 | none=>none else none
theorem apC_R {e sz by' m:Nat} {x v:SV} {news:List SV} (h:apC e sz by' x m news st=some (v,st')):∀ y,y∈st.R→y∈st'.R:=by
 unfold apC at h
 intro y hy
 split at h
 ·split at h
  ·simp only [Option.some.injEq,Prod.mk.injEq] at h;rw [← h.2];exact hy
  ·obtain ⟨_,h⟩:=bif_of h
   simp only [Option.some.injEq,Prod.mk.injEq] at h;rw [← h.2];exact hy
  ·cases h
 ·rename_i m'
  have hones:=(bif_of h).1
  replace h:=(bif_of h).2
  split at h
  ·obtain ⟨_,h⟩:=bif_of h
   simp only [newK_eq,natK_eq,Option.some.injEq,Prod.mk.injEq] at h;rw [← h.2];exact hy
  ·rename_i b o n k
   cases hb:Nat.ble (n+(m'+1)) k with
   | true =>
    rw [hb,cond_true] at h
    obtain ⟨l,e',op,hg,h⟩:=rdK_some h
    obtain ⟨hl,h⟩:=wrK_some h
    rw [wtK_eq] at h
    simp only [natK_eq,Option.some.injEq,Prod.mk.injEq] at h;rw [← h.2];exact ins_sub _ _ _ _ (ins_sub _ _ _ _ hy)
   | false =>
    rw [hb,cond_false] at h
    obtain ⟨_,h⟩:=bif_of h
    obtain ⟨l,e',op,hg,h⟩:=rdK_some h
    obtain ⟨hl,h⟩:=subK_some h
    simp only [appK_eq,newK_eq,natK_eq,Option.some.injEq,Prod.mk.injEq] at h;rw [← h.2];exact ins_sub _ _ _ _ hy
  ·obtain ⟨_,h⟩:=bif_of h
   obtain ⟨_,h⟩:=bif_of h
   obtain ⟨l,e',op,hg,h⟩:=rdK_some h
   obtain ⟨_,h⟩:=bif_of h
   cases hb:Nat.ble _ (llen l) with
   | true=>rw [hb] at h;cases h
   | false =>
    rw [hb,cond_false] at h
    obtain ⟨hl,h⟩:=subK_some h
    simp only [appK_eq,Tr.setK_eq,natK_eq,insK_eq,Option.some.injEq,Prod.mk.injEq] at h;rw [← h.2];exact ins_sub _ _ _ _ hy
  ·cases h
theorem Did.after {R:List Nat} {v:SV} {s:Sem Value} (hs:Sim ρ D st w) (hR:∀ x,x∈st.R→x∈R) (h:Did P ρ D ⟨st.h,st.nx,st.base,R,st.W⟩ st' w v s):Did P ρ D st st' w v s:=by
 obtain ⟨u,w',ρ',h1,h2,h3⟩:=h
 exact ⟨u,w',ρ',h1,h2,⟨h3.os,h3.tape,h3.output,h3.size,h3.nx,h3.base,fun x hx=>h3.sR x (hR x hx),h3.sW,h3.ext,h3.keep,h3.dead,h3.same,h3.fresh,h3.sim⟩⟩
theorem zeroCells_len {z:Array Value} {n:Nat}:(Builtin.zeroCells z n).toList.length=n*z.size:=by simp [Builtin.zeroCells]
theorem apC_ok {T e ty:TypeId} {i:TypeInfo} {zv:Value} {x v:SV} {u z:Value} {m:Nat} {news:List SV} {nv:List Value} (hu:P.underlying T=some (.slice e)) (hi:P.info? e=some i) (hzv:i.zero=some zv) (hzs:zv.cells.size=i.size)
 (hx:Rel ρ x u) (hz:Src P w i.size z m nv) (hn:RelL ρ news nv) (h:apC e i.size i.bytes x m news st=some (v,st')) (hs:Sim ρ D st w) (hD:∀ x,x∈st'.R∨st.base≤x→D x) (hf:Free ρ st.nx st'.nx) :
 Did P ρ D st st' w v (Builtin.append_ #[T,T] ty #[u,z]):=by
 have hzl:=hz.len
 unfold apC at h
 split at h
 ·
  have hnil:nv=[]:=List.eq_nil_of_length_eq_zero (by simpa using hzl)
  subst hnil
  obtain ⟨⟨az,cz,rfl,_⟩,_⟩:=hz
  split at h
  ·simp only [Option.some.injEq,Prod.mk.injEq] at h
   obtain ⟨rfl,rfl⟩:=h
   rw [Rel] at hx;subst hx
   refine Did.pure hs (u:=.slice none 0 0) ?_ (by rw [Rel])
   cases az with
   | none=>simp [Builtin.append_,run_underlying hu,sizeOf,typeInfo,hi,Builtin.lenOf,Builtin.firstCells]
   | some b =>
    have:(loadCells b 0).run P w=.ok #[] w:=by simpa using run_loadCells_list (P:=P) w b [] (by simp)
    simp [Builtin.append_,run_underlying hu,sizeOf,typeInfo,hi,Builtin.lenOf,Builtin.firstCells,this]
  ·rename_i b o n k
   have hb:=(bif_of h).1
   replace h:=(bif_of h).2
   have hb:=Nat.ble_eq.mp hb
   simp only [Option.some.injEq,Prod.mk.injEq] at h
   obtain ⟨rfl,rfl⟩:=h
   have hx0:=hx
   rw [Rel] at hx
   obtain ⟨B,s,cap,hB,hc,rfl⟩:=hx
   simp only [CapR] at hc
   subst hc
   refine Did.pure hs (u:=.slice (some ⟨B,s.1+o,none⟩) n cap) ?_ hx0
   have h0:(storeCells ((⟨B,s.1+o,none⟩:Addr).add (n*i.size)) []).run P w=.ok () w:=by simp [storeCells]
   cases az with
   | none=>simp [Builtin.append_,run_underlying hu,sizeOf,typeInfo,hi,Builtin.lenOf,Builtin.firstCells,hb,h0]
   | some b =>
    have:(loadCells b 0).run P w=.ok #[] w:=by simpa using run_loadCells_list (P:=P) w b [] (by simp)
    simp [Builtin.append_,run_underlying hu,sizeOf,typeInfo,hi,Builtin.lenOf,Builtin.firstCells,this,hb,h0]
  ·cases h
 ·rename_i m'
  have hones:=(bif_of h).1
  replace h:=(bif_of h).2
  have h1:=hn.ones hones
  have hnl:=hn.len
  split at h
  ·
   have hb:=(bif_of h).1
   replace h:=(bif_of h).2
   obtain ⟨hb1,hb2⟩:=by rw [Bool.and_eq_true] at hb;exact hb
   have hb1:=Nat.ble_eq.mp hb1
   have hb2:=Nat.ble_eq.mp hb2
   simp only [newK_eq,natK_eq,Option.some.injEq,Prod.mk.injEq] at h
   obtain ⟨e1,e2⟩:=h
   have hne:ρ st.nx=none:=hf _ (Nat.le_refl _) (by rw [← e2];exact Nat.lt_succ_self _)
   rw [Rel] at hx;subst hx
   obtain ⟨c,w',hc,hr,a1,a2,a3,a4⟩:=run_append_new (P:=P) (ty:=ty) (w:=w) (olds:=[]) (ad:=none) (n:=0) (k:=0) hu hi hzv rfl (fun _=>⟨rfl,rfl⟩) (fun {w'} _=>by simp [Builtin.firstCells]) hz (Nat.succ_pos _) (by omega) (by omega) (by rw [Nat.zero_add];exact hb1)
   simp only [List.nil_append,Nat.zero_add] at hr a4 hc
   refine Did.new (n:=(0,c*i.size)) hs hf e2.symm hr ⟨[],nv,(Builtin.zeroCells zv.cells (c-(m'+1))).toList,rfl,rfl,hn.mono (Ren.put_le hne),(fun h=>by cases h),?_⟩ a1 a2 a3 a4 ?_
   ·rw [hzl,zeroCells_len,hzs,← Nat.add_mul];congr 1;omega
   ·rw [← e1,Rel];exact ⟨_,_,c,Ren.put_at,by simp [CapR],rfl⟩
  ·rename_i b o n k
   have hx0:=hx
   rw [Rel] at hx
   obtain ⟨B,s,cap,hB,hc,rfl⟩:=hx
   simp only [CapR] at hc
   subst hc
   cases hb:Nat.ble (n+(m'+1)) cap with
   | true =>
    rw [hb,cond_true] at h
    have hb:=Nat.ble_eq.mp hb
    obtain ⟨l,e',op,hg,h⟩:=rdK_some h
    obtain ⟨hl,h⟩:=wrK_some h
    rw [wtK_eq] at h
    simp only [natK_eq,Option.some.injEq,Prod.mk.injEq] at h
    obtain ⟨e1,e2⟩:=h
    have hdx:D b:=hD b (by rw [← e2];rcases ins_has st.base b st.R with q | q;exact .inl (ins_sub _ _ _ _ q);exact .inr q)
    obtain ⟨b',s',pre,us,vs,q1,q2,qz,q3,q4,q5⟩:=hs.row hdx hg
    rw [hB] at q1;cases q1
    have hul:=q3.len
    obtain ⟨w',hr,a1,a2,a3,a4,a5,a6⟩:=run_append_in (P:=P) (ty:=ty) (w:=w) (b:=B) (o:=s.1+o) (n:=n) (k:=cap) hu hi q2 hz h1 hb (by rw [← qz];simp;omega)
    refine ⟨_,w',ρ,hr,by rw [← e1,Rel];exact ⟨B,s,cap,hB,rfl,rfl⟩,?_⟩
    rw [← e2]
    have e3:s.1+o+n*i.size=pre.length+(o+n*i.size):=by rw [qz];omega
    rw [e3,wrl_pre (by simp;omega),wrl_mid (by omega)] at a5
    refine Step.upd hs hdx (by rw [hg];simp) hB (o:=.cells (l.take (o+n*i.size)++news++l.drop (o+n*i.size+news.length)) e' op) (ob:=_) ⟨pre,us.take (o+n*i.size)++nv++us.drop (o+n*i.size+nv.length),vs,rfl,qz,?_,q4,?_⟩ (fun y hy=>ins_sub _ _ _ _ (ins_sub _ _ _ _ hy)) (ins_sub _ _ _) (ins_has _ _ _) a1 a2 a3 a4 a5 a6
    ·rw [hnl];exact ((q3.take _).app hn).app (q3.drop _)
    ·simp;omega
   | false =>
    rw [hb,cond_false] at h
    have hb:¬ (n+(m'+1)≤cap):=fun q=>by rw [Nat.ble_eq.mpr q] at hb;cases hb
    have hc:=(bif_of h).1
    replace h:=(bif_of h).2
    obtain ⟨hc1,hc2⟩:=by rw [Bool.and_eq_true] at hc;exact hc
    have hc1:=Nat.ble_eq.mp hc1
    have hc2:=Nat.ble_eq.mp hc2
    obtain ⟨l,e',op,hg,h⟩:=rdK_some h
    obtain ⟨hl,h⟩:=subK_some h
    simp only [appK_eq,newK_eq,natK_eq,Option.some.injEq,Prod.mk.injEq] at h
    obtain ⟨e1,e2⟩:=h
    have hdx:D b:=hD b (by rw [← e2];exact ins_has _ _ _)
    obtain ⟨b',s',pre,us,vs,q1,q2,qz,q3,q4,q5⟩:=hs.row hdx hg
    rw [hB] at q1;cases q1
    have hul:=q3.len
    have hsrc:Src P w i.size (.slice (some ⟨B,s.1+o,none⟩) n cap) n ((us.drop o).take (n*i.size)):=⟨⟨_,_,rfl,fun _=>⟨_,_,rfl,cells_of q2 qz⟩⟩,by simp;omega⟩
    have hne:ρ st.nx=none:=hf _ (Nat.le_refl _) (by rw [← e2];exact Nat.lt_succ_self _)
    obtain ⟨c,w',hc,hr,a1,a2,a3,a4⟩:=run_append_new (P:=P) (ty:=ty) (w:=w) (olds:=(us.drop o).take (n*i.size)) (n:=n) (k:=cap) hu hi hzv rfl (fun q=>by cases q) (fun {w'} hw=>run_firstCells_src hsrc hw) hz (Nat.succ_pos _) (by omega) hc2 hc1
    refine Did.after hs (ins_sub st.base b st.R) ?_
    have hs':Sim ρ D ⟨st.h,st.nx,st.base,ins st.base b st.R,st.W⟩ w:=⟨hs.live,hs.inj,hs.lt⟩
    refine Did.new (n:=(0,c*i.size)) hs' hf e2.symm hr ⟨[],(us.drop o).take (n*i.size)++nv,(Builtin.zeroCells zv.cells (c-(n+(m'+1)))).toList,rfl,rfl,(((q3.drop o).take _).app hn).mono (Ren.put_le hne),(fun h=>by cases h),?_⟩ a1 a2 a3 a4 ?_
    ·rw [List.length_append,hsrc.len,hzl,zeroCells_len,hzs,← Nat.add_mul,← Nat.add_mul];congr 1;omega
    ·rw [← e1,Rel];exact ⟨_,_,c,Ren.put_at,by simp [CapR],rfl⟩
  ·rename_i b o n sz'
   have hx0:=hx
   rw [Rel] at hx
   obtain ⟨B,s,cap,hB,hc,rfl⟩:=hx
   simp only [CapR] at hc
   have hq:=(bif_of h).1
   replace h:=(bif_of h).2
   obtain ⟨hq1,hq2⟩:=by rw [Bool.and_eq_true] at hq;exact hq
   have hq1:=Nat.eq_of_beq_eq_true hq1
   have hq2:=Nat.blt_eq.mp hq2
   subst hq1
   have hcc:=(bif_of h).1
   replace h:=(bif_of h).2
   obtain ⟨hc1,hc2⟩:=by rw [Bool.and_eq_true] at hcc;exact hcc
   have hc1:=Nat.ble_eq.mp hc1
   have hc2:=Nat.ble_eq.mp hc2
   obtain ⟨l,e',op,hg,h⟩:=rdK_some h
   have ho:=(bif_of h).1
   replace h:=(bif_of h).2
   obtain ⟨ho1,ho2⟩:=by rw [Bool.and_eq_true] at ho;exact ho
   have ho2:=Nat.eq_of_beq_eq_true ho2
   subst ho2
   cases hb:Nat.ble (o+(n+(m'+1))*i.size) (llen l) with
   | true=>rw [hb] at h;cases h
   | false =>
    rw [hb,cond_false] at h
    have hb:¬ (o+(n+(m'+1))*i.size≤l.length):=fun q=>by rw [← llen_eq] at q;rw [Nat.ble_eq.mpr q] at hb;cases hb
    obtain ⟨hl,h⟩:=subK_some h
    simp only [appK_eq,Tr.setK_eq,natK_eq,insK_eq,Option.some.injEq,Prod.mk.injEq] at h
    obtain ⟨e1,e2⟩:=h
    have hdx:D b:=hD b (by rw [← e2];exact ins_has _ _ _)
    obtain ⟨b',s',pre,us,vs,q1,q2,qz,q3,q4,q5⟩:=hs.row hdx hg
    rw [hB] at q1;cases q1
    have hul:=q3.len
    have hne:ρ st.nx=none:=hf _ (Nat.le_refl _) (by rw [← e2];exact Nat.lt_succ_self _)
    have hsrc:Src P w i.size (.slice (some ⟨B,s.1+o,none⟩) n cap) n ((us.drop o).take (n*i.size)):=⟨⟨_,_,rfl,fun _=>⟨_,_,rfl,cells_of q2 qz⟩⟩,by simp;omega⟩
    have hk1:∀ y,y∈st.W→y∈ins st.base b st.W:=ins_sub _ _ _
    by_cases hroom:n+(m'+1)≤cap
    ·
     have hm1:(n+(m'+1))*i.size≤cap*i.size:=Nat.mul_le_mul_right _ hroom
     have hzl2:nv.length=(m'+1)*i.size:=hzl
     have hm2:(n+(m'+1))*i.size=n*i.size+(m'+1)*i.size:=Nat.add_mul ..
     obtain ⟨w',hr,a1,a2,a3,a4,a5,a6⟩:=run_append_in (P:=P) (ty:=ty) (w:=w) (b:=B) (o:=s.1+o) (n:=n) (k:=cap) hu hi q2 hz h1 hroom (by rw [← qz];simp;omega)
     have e3:s.1+o+n*i.size=pre.length+(o+n*i.size):=by rw [qz];omega
     rw [e3,wrl_pre (by simp;omega)] at a5
     have e4:wrl (us++vs) (o+n*i.size) nv=us.take o++(((us.drop o).take (n*i.size)++nv)++(us++vs).drop (o+n*i.size+nv.length)):=by
      have e5:us++vs=us.take (o+n*i.size)++(us++vs).drop (o+n*i.size):=by
       conv=>lhs;rw [← List.take_append_drop (o+n*i.size) (us++vs)]
       rw [List.take_append_of_le_length (by omega)]
      have e6:(us.take (o+n*i.size)).length=o+n*i.size:=by simp;omega
      have e7:=wrl_eq nv (us.take (o+n*i.size)) ((us++vs).drop (o+n*i.size)) (by simp;omega)
      rw [e6,← e5] at e7
      rw [e7,List.drop_drop]
      have e8:us.take (o+n*i.size)=us.take o++(us.drop o).take (n*i.size):=by rw [List.take_add]
      rw [e8]
      simp [List.append_assoc]
     rw [e4,← List.append_assoc] at a5
     refine ⟨_,w',ρ.put st.nx B (s.1+o,s.2-o),hr,?_,?_⟩
     ·rw [← e1,Rel];exact ⟨B,(s.1+o,s.2-o),cap,Ren.put_at,by simp only [CapR];omega,rfl⟩
     ·rw [← e2]
      refine Step.move hs hne hdx (by rw [hg];simp) hB (s1:=(s.1+o,s.2-o)) (o:=.cells ((l.drop o).take (n*i.size)++news) e' true) (ob:=_) ⟨pre++us.take o,(us.drop o).take (n*i.size)++nv,(us++vs).drop (o+n*i.size+nv.length),rfl,?_,(((q3.drop o).take _).app hn).mono (Ren.put_le hne),(fun h=>by cases h),?_⟩ (ins_sub _ _ _) hk1 (ins_has _ _ _) a1 a2 a3 a4 a5 a6
      ·simp;omega
      ·simp;omega
    ·obtain ⟨c,w',hc',hr,a1,a2,a3,a4⟩:=run_append_new (P:=P) (ty:=ty) (w:=w) (olds:=(us.drop o).take (n*i.size)) (n:=n) (k:=cap) hu hi hzv rfl (fun q=>by cases q) (fun {w'} hw=>run_firstCells_src hsrc hw) hz (Nat.succ_pos _) (by omega) hc2 hc1
     have hkill:=Step.kill (x:=b) (R:=ins st.base b st.R) (W:=ins st.base b st.W) hs (ins_sub _ _ _) hk1 (ins_has _ _ _)
     have hrel:RelL ρ ((l.drop o).take (n*i.size)++news) ((us.drop o).take (n*i.size)++nv):=((q3.drop o).take _).app hn
     refine ⟨_,w',ρ.put st.nx w.heap.size (0,c*i.size),hr,?_,?_⟩
     ·rw [← e1,Rel];exact ⟨_,_,c,Ren.put_at,by simp [CapR],rfl⟩
     ·have hnew:=Step.new (o:=.cells ((l.drop o).take (n*i.size)++news) e' true) (s:=(0,c*i.size)) (ob:=_) hkill.sim hne ⟨[],(us.drop o).take (n*i.size)++nv,(Builtin.zeroCells zv.cells (c-(n+(m'+1)))).toList,rfl,rfl,hrel.mono (Ren.put_le hne),(fun h=>by cases h),(by
       rw [List.length_append,hsrc.len,hzl,zeroCells_len,hzs,← Nat.add_mul,← Nat.add_mul];congr 1;omega)⟩ a1 a2 a3 a4
      rw [← e2]
      exact hkill.trans hnew
  ·cases h
theorem apS_ok {T T' ty:TypeId} {x y v:SV} {u z:Value} (hx:Rel ρ x u) (hy:Rel ρ y z) (h:apS P T T' x y st=some (v,st')) (hs:Sim ρ D st w) (hD:∀ x,x∈st'.R∨st.base≤x→D x) (hf:Free ρ st.nx st'.nx) :
 Did P ρ D st st' w v (Builtin.append_ #[T,T'] ty #[u,z]):=by
 unfold apS at h
 have hT:=(bif_of h).1
 replace h:=(bif_of h).2
 have hT:=Nat.eq_of_beq_eq_true hT
 subst hT
 split at h
 ·rename_i e sz by' zz hT
  obtain ⟨hu,i,zv,hi,rfl,rfl,hz,rfl,hzc,hzl⟩:=slT_ok hT
  obtain ⟨n,vs,us,R',h,hR,hr,hsrc⟩:=srcK_ok hy h hs fun n vs st1 h1 x hx=>hD x (by
   rcases hx with q | q
   ·exact .inl (apC_R h1 x q)
   ·exact .inr q)
  refine Did.after hs hR ?_
  exact apC_ok hu hi hz (by rw [hzc];simpa using hzl) hx hsrc hr h ⟨hs.live,hs.inj,hs.lt⟩ hD hf
 ·cases h
end
end Go.TX
namespace Go.TX
open Go Go.TH
noncomputable section
def nmin (m n:Nat):Nat:=bif Nat.ble m n then m else n
def cpS (P:Program) (T:TypeId) (x y:SV) (st:St):Option (SV × St):=match slT P T with
 | some (_,sz,_,_)=>srcK sz y st fun m vs st1=>match x with
  | .raw (.slice none 0 0)=>some (.raw (.int .i64 0),st1)
  | .sl0=>some (.raw (.int .i64 0),st1)
  | .sl b o dn _=>bif onesS vs then natK (nmin m dn) fun n=>match n with
   | 0=>some (.raw (.int .i64 0),st1)
   | n'+1=>subK vs 0 ((n'+1)*sz) fun ws=>rdK st1 b fun l e op st2=>wrK l o ws fun l'=>wtK st2 b (.cells l' e op) fun st'=>some (.raw (.int .i64 (.ofNat (n'+1))),st')
   else none
  | _=>none
 | none=>none
def rdMK {β:Type} (st:St) (x:Nat) (k:List SEnt→Nat→St→Option β):Option β:=match st with
 | ⟨h,nx,b,R,W⟩=>match h.get x with
  | some (.map es c)=>insK b x R (fun R'=>k es c ⟨h,nx,b,R',W⟩)
  | _=>none
def fndI (k:IntKind) (n:Int):List SEnt→Nat→Option (Option (Nat × SEnt))
 | [],_=>some none
 | e::r,i=>match e.key with
  | .raw (.int k' m)=>bif kEq k k' then (bif ieq n m then some (some (i,e)) else fndI k n r (Nat.succ i)) else none
  | _=>none
def fndG (P:Program) (T:TypeId) (kv:Value):List SEnt→Nat→Option (Option (Nat × SEnt))
 | [],_=>some none
 | e::r,i=>match toV e.key with
  | some u=>match pv P (Op.equal T kv u) with
   | some true=>some (some (i,e))
   | some false=>fndG P T kv r (Nat.succ i)
   | none=>none
  | none=>none
def fnd (P:Program) (T:TypeId) (kv:Value) (es:List SEnt):Option (Option (Nat × SEnt)):=match P.underlying T with
 | some (.int _)=>match kv with
  | .int k n=>fndI k n es 0
  | _=>none
 | some (.struct _)=>fndG P T kv es 0
 | some (.array _ _)=>fndG P T kv es 0
 | _=>none
def isE:List SEnt→Bool
 | []=>true
 | _=>false
def okS (ok:Bool) (v:SV) (b:Bool):SV:=match ok with
 | true=>.tup [v,.raw (.bool b)]
 | false=>v
def lkS (P:Program) (T:TypeId) (x i:SV) (ok:Bool) (st:St):Option (SV × St):=match P.underlying T with
 | some (.map kt et)=>match toV i with
  | some kv=>match x with
   | .raw (.map none)=>match pv P (Instr.checkKey true 10000 kt kv) with
    | some _=>match pv P (Instr.findKey kt kv []) with
     | some none=>match zv P et with
      | some z=>some (okS ok (svOf z) false,st)
      | none=>none
     | _=>none
    | none=>none
   | .map b=>rdMK st b fun es _ st'=>match pv P (Instr.checkKey (isE es) 10000 kt kv) with
    | some _=>match fnd P kt kv es with
     | some (some (_,e))=>some (okS ok e.val true,st')
     | some none=>match zv P et with
      | some z=>some (okS ok (svOf z) false,st')
      | none=>none
     | none=>none
    | none=>none
   | _=>none
  | none=>none
 | _=>none
def putEK {β:Type}:List SEnt→Nat→SEnt→(List SEnt→Option β)→Option β
 | [],_,_,_=>none
 | _::r,0,e,k=>k (e::r)
 | x::r,n+1,e,k=>putEK r n e (fun t=>k (x::t))
def delEK {β:Type}:List SEnt→Nat→(List SEnt→Option β)→Option β
 | [],_,_=>none
 | _::r,0,k=>k r
 | x::r,n+1,k=>delEK r n (fun t=>k (x::t))
def muS (P:Program) (T:TypeId) (x i v:SV) (st:St):Option (SV × St):=match P.underlying T with
 | some (.map kt _)=>match toV i with
  | some kv=>match x with
   | .map b=>rdMK st b fun es c st1=>match pv P (Instr.checkKey false 10000 kt kv) with
    | some _=>match fnd P kt kv es with
     | some (some (j,e))=>match toV e.key with
      | some old=>match pv P (Instr.keyThatStays old kv) with
       | some _=>putEK es j ⟨i,v,e.born⟩ fun es'=>wtK st1 b (.map es' c) fun st'=>some (.raw undef,st')
       | none=>none
      | none=>none
     | some none=>appK es [⟨i,v,c⟩] fun es'=>natK (Nat.succ c) fun c'=>wtK st1 b (.map es' c') fun st'=>some (.raw undef,st')
     | none=>none
    | none=>none
   | _=>none
  | none=>none
 | _=>none
def meS (P:Program) (T:TypeId) (x i:SV) (st:St):Option (SV × St):=match P.underlying T with
 | some (.map kt et)=>match toV i with
  | some kv=>match x with
   | .map b=>rdMK st b fun es c st1=>match pv P (Instr.checkKey false 10000 kt kv) with
    | some _=>match fnd P kt kv es with
     | some (some (j,e))=>match toV e.key with
      | some old=>match pv P (Instr.keyThatStays old kv) with
       | some _=>putEK es j ⟨i,e.val,e.born⟩ fun es'=>wtK st1 b (.map es' c) fun st'=>some (.tup [e.val,.raw (.int .i64 (.ofNat e.born))],st')
       | none=>none
      | none=>none
     | some none=>match zv P et with
      | some z=>appK es [⟨i,svOf z,c⟩] fun es'=>natK (Nat.succ c) fun c'=>wtK st1 b (.map es' c') fun st'=>some (.tup [svOf z,.raw (.int .i64 (.ofNat c))],st')
      | none=>none
     | none=>none
    | none=>none
   | _=>none
  | none=>none
 | _=>none
def bornI:List SEnt→Nat→Nat→Option (Nat × SEnt)
 | [],_,_=>none
 | e::r,n,i=>bif Nat.beq e.born n then some (i,e) else bornI r n (Nat.succ i)
def esS (x i v:SV) (st:St):Option (SV × St):=match x with
 | .map b=>match i with
  | .raw (.int _ (.ofNat n))=>rdMK st b fun es c st1=>match bornI es n 0 with
   | some (j,e)=>putEK es j ⟨e.key,v,e.born⟩ fun es'=>wtK st1 b (.map es' c) fun st'=>some (.raw undef,st')
   | none=>none
  | _=>none
 | _=>none
def deS (P:Program) (T:TypeId) (x i:SV) (st:St):Option (SV × St):=match P.underlying T with
 | some (.map kt _)=>match toV i with
  | some kv=>match x with
   | .map b=>rdMK st b fun es c st1=>match pv P (Instr.checkKey (isE es) 10000 kt kv) with
    | some _=>match fnd P kt kv es with
     | some (some (j,_))=>delEK es j fun es'=>wtK st1 b (.map es' c) fun st'=>some (.tup [],st')
     | some none=>wtK st1 b (.map es c) fun st'=>some (.tup [],st')
     | none=>none
    | none=>none
   | _=>none
  | none=>none
 | _=>none
def clS (P:Program) (T:TypeId) (x:SV) (st:St):Option (SV × St):=match x with
 | .raw (.slice none 0 0)=>match P.underlying T with
  | some _=>some (.tup [],st)
  | none=>none
 | .sl0=>match P.underlying T with
  | some _=>some (.tup [],st)
  | none=>none
 | .sl b o n _=>match slT P T with
  | some (_,_,_,z)=>match n with
   | 0=>some (.tup [],st)
   | n'+1=>bif onesS z then rdK st b fun l e op st2=>wrK l o (zrow (n'+1) z) fun l'=>wtK st2 b (.cells l' e op) fun st'=>some (.tup [],st') else none
  | none=>none
 | .map b=>match P.underlying T with
  | some (.map _ _)=>rdMK st b fun _ c st2=>wtK st2 b (.map [] c) fun st'=>some (.tup [],st')
  | _=>none
 | _=>none
variable {ρ:Ren} {N:Nat} {env:Tr SV} {a:Act} {P:Program} {D:Nat→Prop} {st st':St} {w:World}
theorem Step.wrow (hs:Sim ρ D st w) {x b o:Nat} {s:Nat × Nat} {l ws:List SV} {e:TypeId} {op:Bool} {pre us vs wv:List Value} {R W:List Nat} {w':World} (hd:D x) (hg:st.h.get x=some (.cells l e op)) (hx:ρ x=some (b,s)) (qz:pre.length=s.1) (q3:RelL ρ l us) (q4:op=false→vs=[]) (q5:us.length+vs.length=s.2)
 (hw:RelL ρ ws wv) (hl:o+ws.length≤l.length) (hR:∀ x,x∈st.R→x∈R) (hW:∀ x,x∈st.W→x∈W) (hxW:x∈W∨st.base≤x) (a1:w'.os=w.os) (a2:w'.tape=w.tape) (a3:w'.output=w.output) (a4:w'.heap.size=w.heap.size)
 (a5:w'.heap[b]?=some (.cells (wrl (pre++(us++vs)) (s.1+o) wv).toArray e (0,0))) (a6:∀ k,k≠b→w'.heap[k]?=w.heap[k]?) :
 Step ρ ρ D st ⟨st.h.set x (some (.cells (l.take o++ws++l.drop (o+ws.length)) e op)),st.nx,st.base,R,W⟩ w w':=by
 have hul:=q3.len
 have hwl:=hw.len
 rw [← qz,wrl_pre (by simp;omega),wrl_mid (by omega)] at a5
 refine Step.upd hs hd (by rw [hg];simp) hx (o:=.cells (l.take o++ws++l.drop (o+ws.length)) e op) (ob:=_) ⟨pre,us.take o++wv++us.drop (o+wv.length),vs,rfl,qz,?_,q4,?_⟩ hR hW hxW a1 a2 a3 a4 a5 a6
 ·rw [hwl];exact ((q3.take o).app hw).app (q3.drop _)
 ·simp;omega
theorem one_cells {l:List SV} {o n:Nat} (h:onesS l=true):onesS ((l.drop o).take n)=true:=by
 have h1:=onesS_all h
 have h2:∀ s∈(l.drop o).take n,oneS s=true:=fun s hs=>h1 s (List.mem_of_mem_drop (List.mem_of_mem_take hs))
 generalize (l.drop o).take n=q at h2
 induction q with
 | nil=>rfl
 | cons y q ih =>
  simp only [onesS]
  rw [h2 y (by simp),cond_true]
  exact ih fun s hs=>h2 s (by simp [hs])
theorem nmin_eq (m n:Nat):nmin m n=Nat.min m n:=by
 unfold nmin
 cases h:Nat.ble m n with
 | true=>have:=Nat.ble_eq.mp h;simp [Nat.min_eq_left this]
 | false =>
  have:¬ m≤n:=fun q=>by rw [Nat.ble_eq.mpr q] at h;cases h
  simp only [cond_false]
  exact (Nat.min_eq_right (by omega)).symm
def cpC (sz:Nat) (x:SV) (m:Nat) (vs:List SV) (st1:St):Option (SV × St):=match x with
 | .raw (.slice none 0 0)=>some (.raw (.int .i64 0),st1)
 | .sl0=>some (.raw (.int .i64 0),st1)
 | .sl b o dn _=>bif onesS vs then natK (nmin m dn) fun n=>match n with
  | 0=>some (.raw (.int .i64 0),st1)
  | n'+1=>subK vs 0 ((n'+1)*sz) fun ws=>rdK st1 b fun l e op st2=>wrK l o ws fun l'=>wtK st2 b (.cells l' e op) fun st'=>some (.raw (.int .i64 (.ofNat (n'+1))),st')
  else none
 | _=>none
theorem cpC_R {sz m:Nat} {x v:SV} {vs:List SV} (h:cpC sz x m vs st=some (v,st')):∀ y,y∈st.R→y∈st'.R:=by
 unfold cpC at h
 intro y hy
 split at h
 ·simp only [Option.some.injEq,Prod.mk.injEq] at h;rw [← h.2];exact hy
 ·simp only [Option.some.injEq,Prod.mk.injEq] at h;rw [← h.2];exact hy
 ·replace h:=(bif_of h).2
  rw [natK_eq] at h
  split at h
  ·simp only [Option.some.injEq,Prod.mk.injEq] at h;rw [← h.2];exact hy
  ·obtain ⟨_,h⟩:=subK_some h
   obtain ⟨l,e',op,hg,h⟩:=rdK_some h
   obtain ⟨hl,h⟩:=wrK_some h
   rw [wtK_eq] at h
   simp only [Option.some.injEq,Prod.mk.injEq] at h;rw [← h.2];exact ins_sub _ _ _ _ (ins_sub _ _ _ _ hy)
 ·cases h
theorem run_copy {T e ty:TypeId} {tys:List TypeId} {i:TypeInfo} (hu:P.underlying T=some (.slice e)) (hi:P.info? e=some i) {ad:Option Addr} {dn k m:Nat} {z:Value} {us:List Value} (hz:Src P w i.size z m us) :
 (Builtin.copy_ (T::tys).toArray ty #[.slice ad dn k,z]).run P w=(do
   let cells ← Builtin.firstCells i.size (Nat.min m dn) z
   if let some a:=ad then storeCells a cells.toList
   pure (goInt (Nat.min m dn)):Sem Value).run P w:=by
 obtain ⟨⟨az,cz,rfl,_⟩,_⟩:=hz
 simp [Builtin.copy_,run_underlying hu,sizeOf,typeInfo,hi,Builtin.lenOf]
 rfl
theorem run_first {sz m n c:Nat} {ad:Option Addr} {us:List Value} (hz:Src P w sz (.slice ad m c) m us) (hn:n≤m):(Builtin.firstCells sz n (.slice ad m c)).run P w=.ok (us.take (n*sz)).toArray w:=by
 obtain ⟨⟨az,cz,e,ha⟩,hl⟩:=hz
 cases e
 rcases Nat.eq_zero_or_pos n with rfl | hp
 ·cases ad with
  | none=>simp [Builtin.firstCells]
  | some b =>
   have:=run_loadCells_list (P:=P) w b [] (by simp)
   simpa [Builtin.firstCells] using this
 ·obtain ⟨b,o,rfl,hh⟩:=ha (by omega)
  have h1:n*sz≤m*sz:=Nat.mul_le_mul_right _ hn
  exact run_firstCells_some (P:=P) w sz n _ m c (us.take (n*sz)) (by simp;omega) (fun j v hv=>hh j v (by rw [List.getElem?_take] at hv;split at hv;exact hv;cases hv))
theorem cpC_ok {T e ty:TypeId} {tys:List TypeId} {i:TypeInfo} {x v:SV} {u z:Value} {m:Nat} {vs:List SV} {nv:List Value} (hu:P.underlying T=some (.slice e)) (hi:P.info? e=some i) (hx:Rel ρ x u) (hz:Src P w i.size z m nv) (hn:RelL ρ vs nv) (h:cpC i.size x m vs st=some (v,st')) (hs:Sim ρ D st w) (hD:∀ x,x∈st'.R∨st.base≤x→D x) :
 Did P ρ D st st' w v (Builtin.copy_ (T::tys).toArray ty #[u,z]):=by
 have hz0:=hz
 obtain ⟨⟨az,cz,rfl,_⟩,hzl⟩:=hz
 unfold cpC at h
 split at h
 ·simp only [Option.some.injEq,Prod.mk.injEq] at h
  obtain ⟨rfl,rfl⟩:=h
  rw [Rel] at hx;subst hx
  refine Did.pure hs (u:=goInt 0) ?_ (by rw [Rel];rfl)
  have h0:=run_first hz0 (n:=0) (by omega)
  simp [run_copy hu hi hz0,h0]
 ·simp only [Option.some.injEq,Prod.mk.injEq] at h
  obtain ⟨rfl,rfl⟩:=h
  rw [Rel] at hx
  obtain ⟨ad,k,rfl⟩:=hx
  refine Did.pure hs (u:=goInt 0) ?_ (by rw [Rel];rfl)
  have h0:=run_first hz0 (n:=0) (by omega)
  cases ad with
  | none=>simp [run_copy hu hi hz0,h0]
  | some b=>simp [run_copy hu hi hz0,h0,storeCells]
 ·rename_i b o dn c
  have hones:=(bif_of h).1
  replace h:=(bif_of h).2
  rw [natK_eq,nmin_eq] at h
  rw [Rel] at hx
  obtain ⟨B,s,cap,hB,hc,rfl⟩:=hx
  split at h
  ·rename_i hmin
   simp only [Option.some.injEq,Prod.mk.injEq] at h
   obtain ⟨rfl,rfl⟩:=h
   refine Did.pure hs (u:=goInt 0) ?_ (by rw [Rel];rfl)
   have h0:=run_first hz0 (n:=0) (by omega)
   have hm:Nat.min m dn=0:=hmin
   rw [run_copy hu hi hz0,hm]
   simp [h0,storeCells]
  ·rename_i n' hmin
   have hm:Nat.min m dn=n'+1:=hmin
   have hle:n'+1≤m:=by rw [← hm];exact Nat.min_le_left m dn
   obtain ⟨hsub,h⟩:=subK_some h
   obtain ⟨l,e',op,hg,h⟩:=rdK_some h
   obtain ⟨hl,h⟩:=wrK_some h
   rw [wtK_eq] at h
   simp only [Option.some.injEq,Prod.mk.injEq] at h
   obtain ⟨e1,e2⟩:=h
   have hdx:D b:=hD b (by rw [← e2];rcases ins_has st.base b st.R with q | q;exact .inl (ins_sub _ _ _ _ q);exact .inr q)
   obtain ⟨b',s',pre,us,vs',q1,q2,qz,q3,q4,q5⟩:=hs.row hdx hg
   rw [hB] at q1;cases q1
   have hul:=q3.len
   simp only [List.drop_zero] at hl e2
   have hwr:RelL ρ (vs.take ((n'+1)*i.size)) (nv.take ((n'+1)*i.size)):=hn.take _
   have hwl:=hwr.len
   obtain ⟨w',hr,a1,a2,a3,a4,a5,a6⟩:=run_storeCells_own (P:=P) (b:=B) (off:=s.1+o) (t:=e') (nv.take ((n'+1)*i.size)) 0 w (pre++(us++vs')) q2 (by rw [← qz,Nat.add_zero];simp only [List.length_append];omega) (hwr.ones (one_cells (o:=0) hones))
   refine ⟨goInt (n'+1),w',ρ,?_,by rw [← e1,Rel];rfl,?_⟩
   ·rw [run_copy hu hi hz0,hm]
    simp [run_first hz0 hle,hr]
   ·rw [← e2]
    exact Step.wrow hs hdx hg hB qz q3 q4 q5 hwr hl (fun y hy=>ins_sub _ _ _ _ (ins_sub _ _ _ _ hy)) (ins_sub _ _ _) (ins_has _ _ _) a1 a2 a3 a4 (by simpa using a5) a6
 ·cases h
theorem cpS_eq {T:TypeId} {x y:SV}:cpS P T x y st=match slT P T with
 | some (_,sz,_,_)=>srcK sz y st fun m vs st1=>cpC sz x m vs st1
 | none=>none:=rfl
theorem cpS_ok {T ty:TypeId} {tys:List TypeId} {x y v:SV} {u z:Value} (hx:Rel ρ x u) (hy:Rel ρ y z) (h:cpS P T x y st=some (v,st')) (hs:Sim ρ D st w) (hD:∀ x,x∈st'.R∨st.base≤x→D x):Did P ρ D st st' w v (Builtin.copy_ (T::tys).toArray ty #[u,z]):=by
 rw [cpS_eq] at h
 split at h
 ·rename_i e sz by' zz hT
  obtain ⟨hu,i,zv,hi,rfl,rfl,hz,rfl,hzc,hzl⟩:=slT_ok hT
  obtain ⟨n,vs,us,R',h,hR,hr,hsrc⟩:=srcK_ok hy h hs fun n vs st1 h1 x hx=>hD x (by
   rcases hx with q | q
   ·exact .inl (cpC_R h1 x q)
   ·exact .inr q)
  refine Did.after hs hR ?_
  exact cpC_ok hu hi hx hsrc hr h ⟨hs.live,hs.inj,hs.lt⟩ hD
 ·cases h
theorem Sim.mapAt (hs:Sim ρ D st w) {x:Nat} {es:List SEnt} {c:Nat} (hd:D x) (hg:st.h.get x=some (.map es c)):∃ b s ms,ρ x=some (b,s)∧w.heap[b]?=some (.map ms.toArray c)∧MRel ρ es ms:=by
 obtain ⟨b,s,ob,h1,h2,ms,rfl,h4⟩:=hs.live x _ hd hg
 exact ⟨b,s,ms,h1,h2,h4⟩
theorem rdMK_some {β:Type} {x:Nat} {k:List SEnt→Nat→St→Option β} {r:β} (h:rdMK st x k=some r):∃ es c,st.h.get x=some (.map es c)∧k es c ⟨st.h,st.nx,st.base,ins st.base x st.R,st.W⟩=some r:=by
 cases st with
 | mk hh nx b R W =>
  simp only [rdMK] at h
  split at h
  ·rename_i es c hg
   rw [insK_eq] at h
   exact ⟨es,c,hg,h⟩
  ·cases h
theorem MRel.at {es:List SEnt}:∀ {ms:List MapEntry} {i:Nat} {e:SEnt},MRel ρ es ms→es[i]?=some e→∃ m,ms[i]?=some m∧Rel ρ e.key m.key∧Rel ρ e.val m.val∧m.born=e.born:=by
 induction es with
 | nil=>intro ms i e _ h;simp at h
 | cons a es ih =>
  intro ms i e hm h
  rw [MRel] at hm
  obtain ⟨m,r,rfl,h2,h3,h4,h5⟩:=hm
  cases i with
  | zero=>simp only [List.getElem?_cons_zero,Option.some.injEq] at h;subst h;exact ⟨m,by simp,h2,h3,h4⟩
  | succ i=>simp only [List.getElem?_cons_succ] at h ⊢;exact ih h5 h
theorem MRel.set {es:List SEnt}:∀ {ms:List MapEntry} {i:Nat} {e:SEnt} {m:MapEntry},MRel ρ es ms→Rel ρ e.key m.key→Rel ρ e.val m.val→m.born=e.born→MRel ρ (es.set i e) (ms.set i m):=by
 induction es with
 | nil=>intro ms i e m hm _ _ _;rw [MRel] at hm;subst hm;simp [MRel]
 | cons a es ih =>
  intro ms i e m hm g1 g2 g3
  rw [MRel] at hm
  obtain ⟨m',r,rfl,h2,h3,h4,h5⟩:=hm
  cases i with
  | zero=>simp only [List.set_cons_zero,MRel];exact ⟨m,r,rfl,g1,g2,g3,h5⟩
  | succ i=>simp only [List.set_cons_succ,MRel];exact ⟨m',r.set i m,rfl,h2,h3,h4,ih h5 g1 g2 g3⟩
theorem MRel.erase {es:List SEnt}:∀ {ms:List MapEntry} {i:Nat},MRel ρ es ms→MRel ρ (es.eraseIdx i) (ms.eraseIdx i):=by
 induction es with
 | nil=>intro ms i hm;rw [MRel] at hm;subst hm;simp [MRel]
 | cons a es ih =>
  intro ms i hm
  rw [MRel] at hm
  obtain ⟨m',r,rfl,h2,h3,h4,h5⟩:=hm
  cases i with
  | zero=>simpa using h5
  | succ i=>simp only [List.eraseIdx_cons_succ,MRel];exact ⟨m',r.eraseIdx i,rfl,h2,h3,h4,ih h5⟩
theorem MRel.snoc {es:List SEnt}:∀ {ms:List MapEntry} {e:SEnt} {m:MapEntry},MRel ρ es ms→Rel ρ e.key m.key→Rel ρ e.val m.val→m.born=e.born→MRel ρ (es++[e]) (ms++[m]):=by
 induction es with
 | nil=>intro ms e m hm g1 g2 g3;rw [MRel] at hm;subst hm;simp only [List.nil_append,MRel];exact ⟨m,[],rfl,g1,g2,g3,rfl⟩
 | cons a es ih =>
  intro ms e m hm g1 g2 g3
  rw [MRel] at hm
  obtain ⟨m',r,rfl,h2,h3,h4,h5⟩:=hm
  simp only [List.cons_append,MRel]
  exact ⟨m',r++[m],rfl,h2,h3,h4,ih h5 g1 g2 g3⟩
theorem putEK_some {β:Type}:∀ {es:List SEnt} {j:Nat} {e:SEnt} {k:List SEnt→Option β} {r:β},putEK es j e k=some r→j<es.length∧k (es.set j e)=some r
 | [],j,_,_,_,h=>by cases j <;> simp [putEK] at h
 | _::_,0,_,_,_,h=>by simp only [putEK] at h;exact ⟨by simp,by simpa using h⟩
 | _::es,j+1,e,k,r,h=>by
  simp only [putEK] at h
  obtain ⟨h1,h2⟩:=putEK_some h
  exact ⟨by simpa using h1,by simpa using h2⟩
theorem delEK_some {β:Type}:∀ {es:List SEnt} {j:Nat} {k:List SEnt→Option β} {r:β},delEK es j k=some r→j<es.length∧k (es.eraseIdx j)=some r
 | [],j,_,_,h=>by cases j <;> simp [delEK] at h
 | _::_,0,_,_,h=>by simp only [delEK] at h;exact ⟨by simp,by simpa using h⟩
 | _::es,j+1,k,r,h=>by
  simp only [delEK] at h
  obtain ⟨h1,h2⟩:=delEK_some h
  exact ⟨by simpa using h1,by simpa using h2⟩
def FR (es:List SEnt) (ms:List MapEntry) (i:Nat):Option (Nat × SEnt)→Option (Nat × Value)→Prop
 | none,r=>r=none
 | some (j,e),r=>∃ n m,j=i+n∧es[n]?=some e∧ms[n]?=some m∧r=some (j,m.val)
theorem FR.next {a:SEnt} {m:MapEntry} {es:List SEnt} {ms:List MapEntry} {i:Nat} {r:Option (Nat × SEnt)} {r':Option (Nat × Value)} (h:FR es ms (i+1) r r'):FR (a::es) (m::ms) i r r':=by
 cases r with
 | none=>exact h
 | some p =>
  obtain ⟨j,e⟩:=p
  obtain ⟨n,m',h1,h2,h3,h4⟩:=h
  exact ⟨n+1,m',by omega,by simpa using h2,by simpa using h3,h4⟩
theorem fndI_ok {kk k:IntKind} {n:Int} {es:List SEnt}:∀ {ms:List MapEntry} {i:Nat} {r:Option (Nat × SEnt)},MRel ρ es ms→fndI k n es i=some r→∃ r',Instr.findNow (.int kk) (.int k n) ms i=some r'∧FR es ms i r r':=by
 induction es with
 | nil=>intro ms i r hm h;rw [MRel] at hm;subst hm;simp only [fndI,Option.some.injEq] at h;subst h;exact ⟨none,rfl,rfl⟩
 | cons a es ih =>
  intro ms i r hm h
  rw [MRel] at hm
  obtain ⟨m,q,rfl,h2,h3,h4,h5⟩:=hm
  simp only [fndI] at h
  split at h
  ·rename_i k' m' hk
   rw [hk,Rel] at h2
   have hq:=(bif_of h).1
   replace h:=(bif_of h).2
   have hq:=kEq_eq hq
   subst hq
   rw [ieq_eq] at h
   simp only [Instr.findNow,h2,Instr.sameNow,if_true]
   by_cases e:n=m'
   ·simp only [e,decide_true,cond_true,Option.some.injEq] at h
    subst h;subst e
    exact ⟨some (i,m.val),by simp,0,m,by simp,by simp,by simp,rfl⟩
   ·simp only [e,decide_false,cond_false] at h
    obtain ⟨r',g1,g2⟩:=ih h5 h
    have hne:(n==m')=false:=by simp [e]
    exact ⟨r',by simp [hne,g1],g2.next⟩
  ·cases h
theorem fndG_ok {T:TypeId} {kv:Value} {es:List SEnt}:∀ {ms:List MapEntry} {i:Nat} {r:Option (Nat × SEnt)},MRel ρ es ms→fndG P T kv es i=some r→∃ r',(Instr.findAsking T kv ms i).run P w=.ok r' w∧FR es ms i r r':=by
 induction es with
 | nil=>intro ms i r hm h;rw [MRel] at hm;subst hm;simp only [fndG,Option.some.injEq] at h;subst h;exact ⟨none,by simp [Instr.findAsking],rfl⟩
 | cons a es ih =>
  intro ms i r hm h
  rw [MRel] at hm
  obtain ⟨m,q,rfl,h2,h3,h4,h5⟩:=hm
  simp only [fndG] at h
  split at h
  ·rename_i u hu
   have hmk:=toV_rel hu h2
   split at h
   ·rename_i he
    simp only [Option.some.injEq] at h
    subst h
    have:=pv_run he w
    exact ⟨some (i,m.val),by simp [Instr.findAsking,hmk,this],0,m,by simp,by simp,by simp,rfl⟩
   ·rename_i he
    have:=pv_run he w
    obtain ⟨r',g1,g2⟩:=ih h5 h
    exact ⟨r',by simp [Instr.findAsking,hmk,this,g1],g2.next⟩
   ·cases h
  ·cases h
theorem run_findAsk {T:TypeId} (hT:(match P.underlying T with | some (.array _ _) | some (.struct _)=>true | _=>false)=true) (x:Value) (ms:List MapEntry):(Instr.findKey T x ms).run P w=(Instr.findAsking T x ms).run P w:=by
 cases hu:P.underlying T with
 | none=>simp [hu] at hT
 | some kd =>
  cases ms with
  | nil=>simp [Instr.findKey,run_underlying hu,Instr.findNow,Instr.findAsking]
  | cons e es=>cases kd <;> simp [hu] at hT <;> simp [Instr.findKey,run_underlying hu,Instr.findNow,Instr.sameNow]
theorem fnd_ok {T:TypeId} {kv:Value} {es:List SEnt} {ms:List MapEntry} {r:Option (Nat × SEnt)} (hm:MRel ρ es ms) (h:fnd P T kv es=some r):∃ r',(Instr.findKey T kv ms).run P w=.ok r' w∧FR es ms 0 r r':=by
 unfold fnd at h
 split at h
 ·rename_i kk hu
  split at h
  ·rename_i k n
   obtain ⟨r',h1,h2⟩:=fndI_ok (kk:=kk) hm h
   exact ⟨r',by simp [Instr.findKey,run_underlying hu,h1],h2⟩
  ·cases h
 ·rename_i fs hu
  obtain ⟨r',h1,h2⟩:=fndG_ok (w:=w) hm h
  exact ⟨r',by rw [run_findAsk (by rw [hu])];exact h1,h2⟩
 ·rename_i l e hu
  obtain ⟨r',h1,h2⟩:=fndG_ok (w:=w) hm h
  exact ⟨r',by rw [run_findAsk (by rw [hu])];exact h1,h2⟩
 ·cases h
theorem isE_eq {es:List SEnt} {ms:List MapEntry} (hm:MRel ρ es ms):ms.isEmpty=isE es:=by
 cases es with
 | nil=>rw [MRel] at hm;subst hm;rfl
 | cons a es=>rw [MRel] at hm;obtain ⟨m,r,rfl,_⟩:=hm;rfl
theorem okS_rel {ok b:Bool} {v:SV} {u:Value} (h:Rel ρ v u):Rel ρ (okS ok v b) (if ok then .tuple #[u,.bool b] else u):=by
 cases ok with
 | false=>exact h
 | true=>simp only [okS,if_true,Rel];exact ⟨[u,.bool b],RelL.cons h (RelL.cons (by rw [Rel]) RelL.nil),rfl⟩
theorem lkS_ok {T:TypeId} {x i v:SV} {u z:Value} {ok:Bool} (hx:Rel ρ x u) (hi:Rel ρ i z) (h:lkS P T x i ok st=some (v,st')) (hs:Sim ρ D st w) (hD:∀ x,x∈st'.R∨st.base≤x→D x):Did P ρ D st st' w v (Instr.lookup T u z ok):=by
 unfold lkS at h
 split at h
 ·rename_i kt et hu
  split at h
  ·rename_i kv hk
   have:=toV_rel hk hi
   subst this
   split at h
   ·split at h
    ·rename_i hc
     have hc:=pv_run hc w
     split at h
     ·rename_i hf
      have hf:=pv_run hf w
      split at h
      ·rename_i zz hz
       simp only [Option.some.injEq,Prod.mk.injEq] at h
       obtain ⟨rfl,rfl⟩:=h
       rw [Rel] at hx;subst hx
       refine Did.pure hs (u:=if ok then .tuple #[zz,.bool false] else zz) ?_ (okS_rel (svOf_rel zz))
       simp [Instr.lookup,run_underlying hu,hc,hf,run_zeroValue hz]
      ·cases h
     ·cases h
    ·cases h
   ·rename_i b
    obtain ⟨es,c,hg,h⟩:=rdMK_some h
    rw [Rel] at hx
    obtain ⟨B,s,hB,rfl⟩:=hx
    split at h
    ·rename_i hc
     have hc:=pv_run hc w
     have main:∀ {r:Option (Nat × SEnt)} {st2:St},fnd P kt z es=some r→D b→∃ ms r',w.heap[B]?=some (.map ms.toArray c)∧MRel ρ es ms∧(Instr.findKey kt z ms).run P w=.ok r' w∧FR es ms 0 r r':=by
      intro r st2 hr hd
      obtain ⟨b',s',ms,q1,q2,q3⟩:=hs.mapAt hd hg
      rw [hB] at q1;cases q1
      obtain ⟨r',g1,g2⟩:=fnd_ok (w:=w) q3 hr
      exact ⟨ms,r',q2,q3,g1,g2⟩
     split at h
     ·rename_i j e hr
      simp only [Option.some.injEq,Prod.mk.injEq] at h
      obtain ⟨rfl,e2⟩:=h
      obtain ⟨ms,r',q2,q3,g1,n,m,rfl,g4,g5,rfl⟩:=main (st2:=st) hr (hD b (by rw [← e2];exact ins_has _ _ _))
      obtain ⟨m',f1,f2,f3,f4⟩:=q3.at g4
      rw [g5] at f1;cases f1
      refine ⟨if ok then .tuple #[m.val,.bool true] else m.val,w,ρ,?_,okS_rel f3,by rw [← e2];exact Step.touch hs (ins_sub _ _ _) fun _ h=>h⟩
      have hie:=isE_eq q3
      have hgo:(getObj B).run P w=.ok (.map ms.toArray c) w:=by simp [getObj,Sem.run,q2]
      simp [Instr.lookup,run_underlying hu,hgo,hie,hc,g1]
     ·rename_i hr
      split at h
      ·rename_i zz hz
       simp only [Option.some.injEq,Prod.mk.injEq] at h
       obtain ⟨rfl,e2⟩:=h
       obtain ⟨ms,r',q2,q3,g1,g2⟩:=main (st2:=st) hr (hD b (by rw [← e2];exact ins_has _ _ _))
       simp only [FR] at g2
       subst g2
       refine ⟨if ok then .tuple #[zz,.bool false] else zz,w,ρ,?_,okS_rel (svOf_rel zz),by rw [← e2];exact Step.touch hs (ins_sub _ _ _) fun _ h=>h⟩
       have hie:=isE_eq q3
       have hgo:(getObj B).run P w=.ok (.map ms.toArray c) w:=by simp [getObj,Sem.run,q2]
       simp [Instr.lookup,run_underlying hu,hgo,hie,hc,g1,run_zeroValue hz]
      ·cases h
     ·cases h
    ·cases h
   ·cases h
  ·cases h
 ·cases h
theorem modify_at {ms:List MapEntry} {j:Nat} {m:MapEntry} {f:MapEntry→MapEntry} (h:ms[j]?=some m):ms.modify j f=ms.set j (f m):=by
 apply List.ext_getElem?
 intro k
 rw [List.getElem?_modify,List.getElem?_set]
 have hl:=(List.getElem?_eq_some_iff.1 h).1
 by_cases e:j=k
 ·subst e
  have:=(List.getElem?_eq_some_iff.1 h).2
  simp [h,hl,this]
 ·simp [e]
theorem run_getMap {B c:Nat} {ms:List MapEntry} (h:w.heap[B]?=some (.map ms.toArray c)):(getObj B).run P w=.ok (.map ms.toArray c) w:=by simp [getObj,Sem.run,h]
theorem run_setMap {B:Nat} {es:Array MapEntry} {c:Nat} {o':Obj} (h:w.heap[B]?=some (.map es c)):(setObj B o').run P w=.ok () { w with heap:=w.heap.setIfInBounds B o' }:=by simp [setObj,Sem.run,h]
theorem Step.wmap (hs:Sim ρ D st w) {x b:Nat} {s:Nat × Nat} {es es':List SEnt} {c c':Nat} {ms ms':List MapEntry} {R W:List Nat} (hd:D x) (hg:st.h.get x=some (.map es c)) (hx:ρ x=some (b,s)) (hb:w.heap[b]?=some (.map ms.toArray c)) (hm:MRel ρ es' ms')
 (hR:∀ x,x∈st.R→x∈R) (hW:∀ x,x∈st.W→x∈W) (hxW:x∈W∨st.base≤x):Step ρ ρ D st ⟨st.h.set x (some (.map es' c')),st.nx,st.base,R,W⟩ w { w with heap:=w.heap.setIfInBounds b (.map ms'.toArray c') }:=by
 have hlt:b<w.heap.size:=(Array.getElem?_eq_some_iff.1 hb).1
 exact Step.upd hs hd (by rw [hg];simp) hx (o:=.map es' c') (ob:=.map ms'.toArray c') ⟨ms',rfl,hm⟩ hR hW hxW rfl rfl rfl (by simp) (by simp [hlt]) (fun k hk=>by simp [Ne.symm hk])
theorem keyStays_ok {old kv u:Value} (h:pv P (Instr.keyThatStays old kv)=some u):u=kv∧Instr.sameBits 10000 old kv=true:=by
 unfold Instr.keyThatStays at h
 cases hb:Instr.sameBits 10000 old kv with
 | true=>rw [hb] at h;simp only [if_true] at h;simp only [pure,pv,Option.some.injEq] at h;exact ⟨h.symm,rfl⟩
 | false=>rw [hb] at h;cases h
theorem run_keyStays {old kv:Value} (h:Instr.sameBits 10000 old kv=true):(Instr.keyThatStays old kv).run P w=.ok kv w:=by
 simp [Instr.keyThatStays,h]
theorem ins2_has {b x:Nat} {l:List Nat} {D:Nat→Prop} {b0:Nat} (e:b0=b) (hD:∀ y,y∈ins b x (ins b x l)∨b0≤y→D y):D x:=hD x (by
 subst e
 rcases ins_has b0 x l with q | q
 ·exact .inl (ins_sub _ _ _ _ q)
 ·exact .inr q)
theorem muS_ok {T:TypeId} {x i v r:SV} {u z q:Value} (hx:Rel ρ x u) (hi:Rel ρ i z) (hv:Rel ρ v q) (h:muS P T x i v st=some (r,st')) (hs:Sim ρ D st w) (hD:∀ x,x∈st'.R∨st.base≤x→D x) :
 r=.raw undef∧∃ w',(Instr.mapUpdate T u z q).run P w=.ok () w'∧Step ρ ρ D st st' w w':=by
 unfold muS at h
 split at h
 ·rename_i kt et hu
  split at h
  ·rename_i kv hk
   have:=toV_rel hk hi
   subst this
   split at h
   ·rename_i b
    obtain ⟨es,c,hg,h⟩:=rdMK_some h
    rw [Rel] at hx
    obtain ⟨B,s,hB,rfl⟩:=hx
    split at h
    ·rename_i hc
     have hc:=pv_run hc w
     split at h
     ·rename_i j e hr
      split at h
      ·rename_i old ho
       split at h
       ·rename_i kk hks
        obtain ⟨_,hks⟩:=keyStays_ok hks
        obtain ⟨hj,h⟩:=putEK_some h
        rw [wtK_eq] at h
        simp only [Option.some.injEq,Prod.mk.injEq] at h
        obtain ⟨rfl,rfl⟩:=h
        refine ⟨rfl,?_⟩
        have hdx:D b:=ins2_has rfl hD
        obtain ⟨b',s',ms,q1,q2,q3⟩:=hs.mapAt hdx hg
        rw [hB] at q1;cases q1
        obtain ⟨r',g1,n,m,e3,g4,g5,rfl⟩:=fnd_ok (w:=w) q3 hr
        have e3:n=j:=by omega
        subst e3
        obtain ⟨m',f1,f2,f3,f4⟩:=q3.at g4
        rw [g5] at f1;cases f1
        have hold:=toV_rel ho f2
        refine ⟨_,?_,Step.wmap (es':=es.set n ⟨i,v,e.born⟩) (c':=c) (ms':=ms.set n { m with key:=z,val:=q }) hs hdx hg hB q2 (q3.set hi hv f4) (fun y hy=>ins_sub _ _ _ _ (ins_sub _ _ _ _ hy)) (ins_sub _ _ _) (ins_has _ _ _)⟩
        simp [Instr.mapUpdate,run_underlying hu,run_getMap q2,hc,g1,g5,hold,run_keyStays hks,run_setMap q2,modify_at g5]
       ·cases h
      ·cases h
     ·rename_i hr
      simp only [appK_eq,natK_eq,wtK_eq,Option.some.injEq,Prod.mk.injEq] at h
      obtain ⟨rfl,rfl⟩:=h
      refine ⟨rfl,?_⟩
      have hdx:D b:=ins2_has rfl hD
      obtain ⟨b',s',ms,q1,q2,q3⟩:=hs.mapAt hdx hg
      rw [hB] at q1;cases q1
      obtain ⟨r',g1,g2⟩:=fnd_ok (w:=w) q3 hr
      simp only [FR] at g2
      subst g2
      refine ⟨_,?_,Step.wmap (es':=es++[⟨i,v,c⟩]) (c':=c+1) (ms':=ms++[{ key:=z,val:=q,born:=c }]) hs hdx hg hB q2 (q3.snoc hi hv rfl) (fun y hy=>ins_sub _ _ _ _ (ins_sub _ _ _ _ hy)) (ins_sub _ _ _) (ins_has _ _ _)⟩
      simp [Instr.mapUpdate,run_underlying hu,run_getMap q2,hc,g1,run_setMap q2]
     ·cases h
    ·cases h
   ·cases h
  ·cases h
 ·cases h
theorem meS_ok {T:TypeId} {x i v:SV} {u z:Value} (hx:Rel ρ x u) (hi:Rel ρ i z) (h:meS P T x i st=some (v,st')) (hs:Sim ρ D st w) (hD:∀ x,x∈st'.R∨st.base≤x→D x):Did P ρ D st st' w v (Instr.mapEntry T u z):=by
 unfold meS at h
 split at h
 ·rename_i kt et hu
  split at h
  ·rename_i kv hk
   have:=toV_rel hk hi
   subst this
   split at h
   ·rename_i b
    obtain ⟨es,c,hg,h⟩:=rdMK_some h
    rw [Rel] at hx
    obtain ⟨B,s,hB,rfl⟩:=hx
    split at h
    ·rename_i hc
     have hc:=pv_run hc w
     split at h
     ·rename_i j e hr
      split at h
      ·rename_i old ho
       split at h
       ·rename_i kk hks
        obtain ⟨_,hks⟩:=keyStays_ok hks
        obtain ⟨hj,h⟩:=putEK_some h
        rw [wtK_eq] at h
        simp only [Option.some.injEq,Prod.mk.injEq] at h
        obtain ⟨rfl,rfl⟩:=h
        have hdx:D b:=ins2_has rfl hD
        obtain ⟨b',s',ms,q1,q2,q3⟩:=hs.mapAt hdx hg
        rw [hB] at q1;cases q1
        obtain ⟨r',g1,n,m,e3,g4,g5,rfl⟩:=fnd_ok (w:=w) q3 hr
        have e3:n=j:=by omega
        subst e3
        obtain ⟨m',f1,f2,f3,f4⟩:=q3.at g4
        rw [g5] at f1;cases f1
        have hold:=toV_rel ho f2
        refine ⟨.tuple #[m.val,goInt m.born],_,ρ,?_,?_,Step.wmap (es':=es.set n ⟨i,e.val,e.born⟩) (c':=c) (ms':=ms.set n { m with key:=z }) hs hdx hg hB q2 (q3.set hi f3 f4) (fun y hy=>ins_sub _ _ _ _ (ins_sub _ _ _ _ hy)) (ins_sub _ _ _) (ins_has _ _ _)⟩
        ·simp [Instr.mapEntry,run_underlying hu,run_getMap q2,hc,g1,g5,hold,run_keyStays hks,run_setMap q2,modify_at g5]
        ·rw [Rel];exact ⟨[m.val,goInt m.born],RelL.cons f3 (RelL.cons (by rw [Rel,f4];rfl) RelL.nil),rfl⟩
       ·cases h
      ·cases h
     ·rename_i hr
      split at h
      ·rename_i zz hz
       simp only [appK_eq,natK_eq,wtK_eq,Option.some.injEq,Prod.mk.injEq] at h
       obtain ⟨rfl,rfl⟩:=h
       have hdx:D b:=ins2_has rfl hD
       obtain ⟨b',s',ms,q1,q2,q3⟩:=hs.mapAt hdx hg
       rw [hB] at q1;cases q1
       obtain ⟨r',g1,g2⟩:=fnd_ok (w:=w) q3 hr
       simp only [FR] at g2
       subst g2
       refine ⟨.tuple #[zz,goInt c],_,ρ,?_,?_,Step.wmap (es':=es++[⟨i,svOf zz,c⟩]) (c':=c+1) (ms':=ms++[{ key:=z,val:=zz,born:=c }]) hs hdx hg hB q2 (q3.snoc hi (svOf_rel zz) rfl) (fun y hy=>ins_sub _ _ _ _ (ins_sub _ _ _ _ hy)) (ins_sub _ _ _) (ins_has _ _ _)⟩
       ·simp [Instr.mapEntry,run_underlying hu,run_getMap q2,hc,g1,run_setMap q2,run_zeroValue hz]
       ·rw [Rel];exact ⟨[zz,goInt c],RelL.cons (svOf_rel zz) (RelL.cons (by rw [Rel];rfl) RelL.nil),rfl⟩
      ·cases h
     ·cases h
    ·cases h
   ·cases h
  ·cases h
 ·cases h
theorem bornI_ok {n:Nat} {es:List SEnt}:∀ {ms:List MapEntry} {i j:Nat} {e:SEnt},MRel ρ es ms→bornI es n i=some (j,e)→∃ k m,j=i+k∧es[k]?=some e∧ms[k]?=some m∧ms.findIdx? (fun e=>(e.born:Int)==(n:Int))=some k:=by
 induction es with
 | nil=>intro ms i j e hm h;simp [bornI] at h
 | cons a es ih =>
  intro ms i j e hm h
  rw [MRel] at hm
  obtain ⟨m,q,rfl,h2,h3,h4,h5⟩:=hm
  simp only [bornI] at h
  cases hb:Nat.beq a.born n with
  | true =>
   rw [hb,cond_true] at h
   simp only [Option.some.injEq,Prod.mk.injEq] at h
   obtain ⟨rfl,rfl⟩:=h
   have hb:=Nat.eq_of_beq_eq_true hb
   refine ⟨0,m,rfl,by simp,by simp,?_⟩
   rw [List.findIdx?_cons]
   simp [h4,hb]
  | false =>
   rw [hb,cond_false] at h
   have hne:a.born≠n:=fun q=>by rw [q,Nat.beq_refl] at hb;cases hb
   obtain ⟨k,m',g1,g2,g3,g4⟩:=ih h5 h
   refine ⟨k+1,m',by omega,by simpa using g2,by simpa using g3,?_⟩
   rw [List.findIdx?_cons,g4]
   have:((m.born:Int)==(n:Int))=false:=by simp [h4];omega
   simp [this]
theorem esS_ok {T:TypeId} {x i v r:SV} {u z q:Value} (hx:Rel ρ x u) (hi:Rel ρ i z) (hv:Rel ρ v q) (h:esS x i v st=some (r,st')) (hs:Sim ρ D st w) (hD:∀ x,x∈st'.R∨st.base≤x→D x) :
 r=.raw undef∧∃ w',(Instr.entryStore T u z q).run P w=.ok () w'∧Step ρ ρ D st st' w w':=by
 unfold esS at h
 split at h
 ·rename_i b
  split at h
  ·rename_i k n
   rw [Rel] at hi
   subst hi
   obtain ⟨es,c,hg,h⟩:=rdMK_some h
   rw [Rel] at hx
   obtain ⟨B,s,hB,rfl⟩:=hx
   split at h
   ·rename_i j e hb
    obtain ⟨hj,h⟩:=putEK_some h
    rw [wtK_eq] at h
    simp only [Option.some.injEq,Prod.mk.injEq] at h
    obtain ⟨rfl,rfl⟩:=h
    refine ⟨rfl,?_⟩
    have hdx:D b:=ins2_has rfl hD
    obtain ⟨b',s',ms,q1,q2,q3⟩:=hs.mapAt hdx hg
    rw [hB] at q1;cases q1
    obtain ⟨k',m,e3,g4,g5,g6⟩:=bornI_ok q3 hb
    have e3:k'=j:=by omega
    subst e3
    obtain ⟨m',f1,f2,f3,f4⟩:=q3.at g4
    rw [g5] at f1;cases f1
    refine ⟨_,?_,Step.wmap (es':=es.set k' ⟨e.key,v,e.born⟩) (c':=c) (ms':=ms.set k' { m with val:=q }) hs hdx hg hB q2 (q3.set f2 hv f4) (fun y hy=>ins_sub _ _ _ _ (ins_sub _ _ _ _ hy)) (ins_sub _ _ _) (ins_has _ _ _)⟩
    simp [Instr.entryStore,run_getMap q2,asInt,asIntOf,g6,run_setMap q2,modify_at g5]
   ·cases h
  ·cases h
 ·cases h
theorem deS_ok {T ty:TypeId} {tys:List TypeId} {x i v:SV} {u z:Value} (hx:Rel ρ x u) (hi:Rel ρ i z) (h:deS P T x i st=some (v,st')) (hs:Sim ρ D st w) (hD:∀ x,x∈st'.R∨st.base≤x→D x):Did P ρ D st st' w v (Builtin.delete_ (T::tys).toArray ty #[u,z]):=by
 unfold deS at h
 split at h
 ·rename_i kt et hu
  split at h
  ·rename_i kv hk
   have:=toV_rel hk hi
   subst this
   split at h
   ·rename_i b
    obtain ⟨es,c,hg,h⟩:=rdMK_some h
    rw [Rel] at hx
    obtain ⟨B,s,hB,rfl⟩:=hx
    split at h
    ·rename_i hc
     have hc:=pv_run hc w
     split at h
     ·rename_i j e hr
      obtain ⟨hj,h⟩:=delEK_some h
      rw [wtK_eq] at h
      simp only [Option.some.injEq,Prod.mk.injEq] at h
      obtain ⟨rfl,rfl⟩:=h
      have hdx:D b:=ins2_has rfl hD
      obtain ⟨b',s',ms,q1,q2,q3⟩:=hs.mapAt hdx hg
      rw [hB] at q1;cases q1
      obtain ⟨r',g1,n,m,e3,g4,g5,rfl⟩:=fnd_ok (w:=w) q3 hr
      have e3:n=j:=by omega
      subst e3
      have hie:=isE_eq q3
      refine ⟨.tuple #[],_,ρ,?_,by rw [Rel];exact ⟨[],RelL.nil,rfl⟩,Step.wmap (es':=es.eraseIdx n) (c':=c) (ms':=ms.eraseIdx n) hs hdx hg hB q2 q3.erase (fun y hy=>ins_sub _ _ _ _ (ins_sub _ _ _ _ hy)) (ins_sub _ _ _) (ins_has _ _ _)⟩
      simp [Builtin.delete_,run_underlying hu,run_getMap q2,hie,hc,g1,run_setMap q2]
     ·rename_i hr
      rw [wtK_eq] at h
      simp only [Option.some.injEq,Prod.mk.injEq] at h
      obtain ⟨rfl,rfl⟩:=h
      have hdx:D b:=ins2_has rfl hD
      obtain ⟨b',s',ms,q1,q2,q3⟩:=hs.mapAt hdx hg
      rw [hB] at q1;cases q1
      obtain ⟨r',g1,g2⟩:=fnd_ok (w:=w) q3 hr
      simp only [FR] at g2
      subst g2
      have hie:=isE_eq q3
      refine ⟨.tuple #[],_,ρ,?_,by rw [Rel];exact ⟨[],RelL.nil,rfl⟩,Step.wmap (es':=es) (c':=c) (ms':=ms) hs hdx hg hB q2 q3 (fun y hy=>ins_sub _ _ _ _ (ins_sub _ _ _ _ hy)) (ins_sub _ _ _) (ins_has _ _ _)⟩
      simp [Builtin.delete_,run_underlying hu,run_getMap q2,hie,hc,g1,run_setMap q2]
     ·cases h
    ·cases h
   ·cases h
  ·cases h
 ·cases h
theorem clS_ok {T ty:TypeId} {tys:List TypeId} {x v:SV} {u:Value} (hx:Rel ρ x u) (h:clS P T x st=some (v,st')) (hs:Sim ρ D st w) (hD:∀ x,x∈st'.R∨st.base≤x→D x):Did P ρ D st st' w v (Builtin.clear_ (T::tys).toArray ty #[u]):=by
 have nil:Rel ρ (.tup []) (.tuple #[]):=by rw [Rel];exact ⟨[],RelL.nil,rfl⟩
 unfold clS at h
 split at h
 ·split at h
  ·rename_i d hu
   simp only [Option.some.injEq,Prod.mk.injEq] at h
   obtain ⟨rfl,rfl⟩:=h
   rw [Rel] at hx;subst hx
   exact Did.pure hs (by simp [Builtin.clear_,run_underlying hu]) nil
  ·cases h
 ·split at h
  ·rename_i d hu
   simp only [Option.some.injEq,Prod.mk.injEq] at h
   obtain ⟨rfl,rfl⟩:=h
   rw [Rel] at hx
   obtain ⟨ad,k,rfl⟩:=hx
   refine Did.pure hs ?_ nil
   cases ad <;> simp [Builtin.clear_,run_underlying hu]
  ·cases h
 ·rename_i b o n c
  rw [Rel] at hx
  obtain ⟨B,s,cap,hB,hc,rfl⟩:=hx
  split at h
  ·rename_i e sz by' z hT
   obtain ⟨hu,i,zv,hi,rfl,rfl,hz,rfl,hzc,hzl⟩:=slT_ok hT
   split at h
   ·simp only [Option.some.injEq,Prod.mk.injEq] at h
    obtain ⟨rfl,rfl⟩:=h
    exact Did.pure hs (by simp [Builtin.clear_,run_underlying hu]) nil
   ·rename_i n'
    have hones:=(bif_of h).1
    replace h:=(bif_of h).2
    obtain ⟨l,e',op,hg,h⟩:=rdK_some h
    obtain ⟨hl,h⟩:=wrK_some h
    rw [wtK_eq] at h
    simp only [Option.some.injEq,Prod.mk.injEq] at h
    obtain ⟨rfl,e2⟩:=h
    have hdx:D b:=hD b (by rw [← e2];rcases ins_has st.base b st.R with q | q;exact .inl (ins_sub _ _ _ _ q);exact .inr q)
    obtain ⟨b',s',pre,us,vs',q1,q2,qz,q3,q4,q5⟩:=hs.row hdx hg
    rw [hB] at q1;cases q1
    have hul:=q3.len
    have hrow:=zrow_rel (ρ:=ρ) (RelL.raws (vcl zv)) (n'+1)
    have hwl:=hrow.len
    have hrow1:∀ u∈(List.replicate (n'+1) (vcl zv)).flatten,u.oneCell'=true:=by
     intro u hu
     rw [List.mem_flatten] at hu
     obtain ⟨l1,h1,h2⟩:=hu
     rw [List.mem_replicate] at h1
     rw [h1.2] at h2
     exact (RelL.raws (ρ:=ρ) (vcl zv)).ones hones u h2
    obtain ⟨w',hr,a1,a2,a3,a4,a5,a6⟩:=run_storeCells_own (P:=P) (b:=B) (off:=s.1+o) (t:=e') ((List.replicate (n'+1) (vcl zv)).flatten) 0 w (pre++(us++vs')) q2 (by rw [← qz,Nat.add_zero];simp only [List.length_append];omega) hrow1
    refine ⟨.tuple #[],w',ρ,?_,nil,?_⟩
    ·have hzr:(Builtin.zeroCells zv.cells (n'+1)).toList=(List.replicate (n'+1) (vcl zv)).flatten:=by
      have:=range_mod (zs:=vcl zv) (n'+1)
      unfold Builtin.zeroCells
      rw [hzc]
      simpa using congrArg Array.toList this
     simp [Builtin.clear_,run_underlying hu,run_zeroValue (show Go.TH.zv P e=some zv from by simp [Go.TH.zv,hi,hz]),hzr,hr]
    ·rw [← e2]
     exact Step.wrow hs hdx hg hB qz q3 q4 q5 hrow hl (fun y hy=>ins_sub _ _ _ _ (ins_sub _ _ _ _ hy)) (ins_sub _ _ _) (ins_has _ _ _) a1 a2 a3 a4 (by simpa using a5) a6
  ·cases h
 ·rename_i b
  split at h
  ·rename_i kt et hu
   obtain ⟨es,c,hg,h⟩:=rdMK_some h
   rw [wtK_eq] at h
   simp only [Option.some.injEq,Prod.mk.injEq] at h
   obtain ⟨rfl,rfl⟩:=h
   rw [Rel] at hx
   obtain ⟨B,s,hB,rfl⟩:=hx
   have hdx:D b:=ins2_has rfl hD
   obtain ⟨b',s',ms,q1,q2,q3⟩:=hs.mapAt hdx hg
   rw [hB] at q1;cases q1
   refine ⟨.tuple #[],_,ρ,?_,nil,Step.wmap (es':=[]) (c':=c) (ms':=[]) hs hdx hg hB q2 rfl (fun y hy=>ins_sub _ _ _ _ (ins_sub _ _ _ _ hy)) (ins_sub _ _ _) (ins_has _ _ _)⟩
   simp [Builtin.clear_,run_underlying hu,run_getMap q2,run_setMap q2]
  ·cases h
 ·cases h
def rgS (P:Program) (T:TypeId) (x:SV) (st:St):Option (SV × St):=match P.underlying T with
 | some (.map _ _)=>match x with
  | .raw (.map none)=>newK st (.iter none 0 [] 0) fun q st'=>some (.ptr q 0,st')
  | .map b=>rdMK st b fun _ c st1=>newK st1 (.iter (some b) c [] c) fun q st'=>some (.ptr q 0,st')
  | _=>none
 | _=>none
def oldB (since:Nat):List SEnt→Bool
 | []=>true
 | e::r=>bif Nat.blt e.born since then oldB since r else false
def leftS (seen:List Nat):List SEnt→List SEnt
 | []=>[]
 | e::r=>bif memb e.born seen then leftS seen r else e::leftS seen r
def outsS (q:Nat) (m since clk:Nat) (seen:List Nat) (st:St):List SEnt→Option (List (SV × St))
 | []=>some []
 | e::r=>wtK st q (.iter (some m) since (e.born::seen) clk) fun st'=>match outsS q m since clk seen st r with
  | some l=>some ((.tup [.raw (.bool true),e.key,e.val],st')::l)
  | none=>none
def nxS (x:SV) (st:St):Option (List (SV × St)):=match x with
 | .ptr q 0=>match st.h.get q with
  | some (.iter none _ _ _)=>insK st.base q st.R fun R'=>some [(.tup [.raw (.bool false)],⟨st.h,st.nx,st.base,R',st.W⟩)]
  | some (.iter (some m) since seen last)=>bif Nat.ble since last then rdMK st m fun es clk st1=>bif oldB since es then (match leftS seen es with
   | []=>insK st1.base q st1.R fun R'=>some [(.tup [.raw (.bool false)],⟨st1.h,st1.nx,st1.base,R',st1.W⟩)]
   | e::r=>outsS q m since clk seen st1 (e::r)) else none else none
  | _=>none
 | _=>none
def nodupB:List SEnt→List Nat→Bool
 | [],_=>true
 | e::r,l=>bif memb e.born l then false else nodupB r (e.born::l)
def enS (x:SV) (st:St):Option (SV × St):=match x with
 | .ptr q 0=>match st.h.get q with
  | some (.iter (some m) _ (b::_) last)=>rdMK st m fun es clk st1=>bif Nat.beq clk last&&nodupB es [] then (match bornI es b 0 with
   | some (_,e)=>insK st1.base q st1.R fun R'=>some (.tup [e.key,e.val],⟨st1.h,st1.nx,st1.base,R',st1.W⟩)
   | none=>none) else none
  | some (.itl m _ b last)=>rdMK st m fun es clk st1=>bif Nat.beq clk last&&nodupB es [] then (match bornI es b 0 with
   | some (_,e)=>insK st1.base q st1.R fun R'=>some (.tup [e.key,e.val],⟨st1.h,st1.nx,st1.base,R',st1.W⟩)
   | none=>none) else none
  | _=>none
 | _=>none
theorem rgS_ok {T:TypeId} {x v:SV} {u:Value} (hx:Rel ρ x u) (h:rgS P T x st=some (v,st')) (hs:Sim ρ D st w) (hD:∀ x,x∈st'.R∨st.base≤x→D x) (hf:Free ρ st.nx st'.nx):Did P ρ D st st' w v (Instr.range T u):=by
 unfold rgS at h
 split at h
 ·rename_i kt et hu
  split at h
  ·simp only [newK_eq,Option.some.injEq,Prod.mk.injEq] at h
   obtain ⟨e1,e2⟩:=h
   rw [Rel] at hx;subst hx
   refine Did.new (n:=(0,0)) hs hf e2.symm (u:=.pointer (some ⟨w.heap.size,0,none⟩)) (ob:=.mapIter none 0 #[] 0) (w':=w.alloc (.mapIter none 0 #[] 0)) ?_ ⟨rfl,none,rfl,rfl⟩ rfl rfl rfl rfl (by rw [← e1];exact rel_ptr0)
   simp [Instr.range,run_underlying hu]
  ·rename_i b
   obtain ⟨es,c,hg,h⟩:=rdMK_some h
   simp only [newK_eq,Option.some.injEq,Prod.mk.injEq] at h
   obtain ⟨e1,e2⟩:=h
   rw [Rel] at hx
   obtain ⟨B,s,hB,rfl⟩:=hx
   have hdx:D b:=hD b (by rw [← e2];exact ins_has _ _ _)
   obtain ⟨b',s',ms,q1,q2,q3⟩:=hs.mapAt hdx hg
   rw [hB] at q1;cases q1
   have hne:ρ st.nx=none:=hf _ (Nat.le_refl _) (by rw [← e2];exact Nat.lt_succ_self _)
   refine Did.after hs (ins_sub st.base b st.R) ?_
   refine Did.new (n:=(0,0)) (st:=⟨st.h,st.nx,st.base,ins st.base b st.R,st.W⟩) ⟨hs.live,hs.inj,hs.lt⟩ hf e2.symm (u:=.pointer (some ⟨w.heap.size,0,none⟩)) (ob:=.mapIter (some B) c #[] c) (w':=w.alloc (.mapIter (some B) c #[] c)) ?_ ⟨rfl,some B,rfl,B,s,Ren.put_le hne _ _ hB,rfl⟩ rfl rfl rfl rfl (by rw [← e1];exact rel_ptr0)
   simp [Instr.range,run_underlying hu,run_getMap q2]
  ·cases h
 ·cases h
theorem oldB_ok {since:Nat} {es:List SEnt}:∀ {ms:List MapEntry},MRel ρ es ms→oldB since es=true→∀ x∈ms,x.born<since:=by
 induction es with
 | nil=>intro ms hm _ x hx;rw [MRel] at hm;subst hm;cases hx
 | cons a es ih =>
  intro ms hm h x hx
  rw [MRel] at hm
  obtain ⟨m,r,rfl,_,_,h4,h5⟩:=hm
  simp only [oldB] at h
  cases hb:Nat.blt a.born since with
  | false=>rw [hb] at h;cases h
  | true =>
   rw [hb,cond_true] at h
   rcases List.mem_cons.1 hx with rfl | hx
   ·rw [h4];exact Nat.blt_eq.mp hb
   ·exact ih h5 h x hx
theorem memb_iff {x:Nat} {l:List Nat}:memb x l=true↔x∈l:=by
 constructor
 ·exact memb_mem
 ·intro h
  induction l with
  | nil=>cases h
  | cons y r ih =>
   simp only [memb]
   cases hb:Nat.beq x y with
   | true=>rfl
   | false =>
    rw [cond_false]
    rcases List.mem_cons.1 h with rfl | h
    ·rw [Nat.beq_refl] at hb;cases hb
    ·exact ih h
theorem leftS_ok {seen:List Nat} {es:List SEnt}:∀ {ms:List MapEntry},MRel ρ es ms→MRel ρ (leftS seen es) (ms.filter fun e=>!seen.contains e.born):=by
 induction es with
 | nil=>intro ms hm;rw [MRel] at hm;subst hm;rfl
 | cons a es ih =>
  intro ms hm
  rw [MRel] at hm
  obtain ⟨m,r,rfl,h2,h3,h4,h5⟩:=hm
  have e:seen.contains m.born=memb a.born seen:=by
   rw [Bool.eq_iff_iff,memb_iff,List.contains_iff_mem,h4]
  simp only [leftS,List.filter_cons,e]
  cases memb a.born seen with
  | true=>simpa using ih h5
  | false=>simp only [cond_false,Bool.not_false,if_true,MRel];exact ⟨m,_,rfl,h2,h3,h4,ih h5⟩
theorem outsS_at {q m since clk:Nat} {seen:List Nat}:∀ {l:List SEnt} {L:List (SV × St)},outsS q m since clk seen st l=some L→∀ e∈l,((.tup [.raw (.bool true),e.key,e.val]:SV),(⟨st.h.set q (some (.iter (some m) since (e.born::seen) clk)),st.nx,st.base,ins st.base q st.R,ins st.base q st.W⟩:St))∈L
 | [],_,_,e,he=>by cases he
 | a::l,L,h,e,he=>by
  simp only [outsS,wtK_eq] at h
  split at h
  ·rename_i L' hL
   simp only [Option.some.injEq] at h
   subst h
   rcases List.mem_cons.1 he with rfl | he
   ·exact List.mem_cons_self
   ·exact List.mem_cons_of_mem _ (outsS_at hL e he)
  ·cases h
theorem MRel.mem {es:List SEnt}:∀ {ms:List MapEntry} {m:MapEntry},MRel ρ es ms→m∈ms→∃ e∈es,Rel ρ e.key m.key∧Rel ρ e.val m.val∧m.born=e.born:=by
 induction es with
 | nil=>intro ms m hm h;rw [MRel] at hm;subst hm;cases h
 | cons a es ih =>
  intro ms m hm h
  rw [MRel] at hm
  obtain ⟨m',r,rfl,h2,h3,h4,h5⟩:=hm
  rcases List.mem_cons.1 h with rfl | h
  ·exact ⟨a,by simp,h2,h3,h4⟩
  ·obtain ⟨e,he,hh⟩:=ih h5 h
   exact ⟨e,by simp [he],hh⟩
theorem nxS_ok {ty:TypeId} {x:SV} {u:Value} {L:List (SV × St)} (hx:Rel ρ x u) (h:nxS x st=some L) (hs:Sim ρ D st w) (hD:∀ p∈L,∀ x,x∈p.2.R∨st.base≤x→D x):∃ p∈L,Did P ρ D st p.2 w p.1 (Instr.next u false ty):=by
 have over:Rel ρ (.tup [.raw (.bool false)]) (.tuple #[.bool false]):=by rw [Rel];exact ⟨[.bool false],RelL.cons (by rw [Rel]) RelL.nil,rfl⟩
 unfold nxS at h
 split at h
 ·rename_i q
  rw [Rel] at hx
  obtain ⟨Q,s,hQ,rfl⟩:=hx
  split at h
  ·rename_i a1 a2 a3 hg
   rw [insK_eq] at h
   simp only [Option.some.injEq] at h
   subst h
   refine ⟨_,List.mem_cons_self,?_⟩
   have hd:D q:=hD _ List.mem_cons_self q (ins_has _ _ _)
   obtain ⟨b',s',ob,q1,q2,q3⟩:=hs.live q _ hd hg
   rw [hQ] at q1;cases q1
   obtain ⟨h0,mb,rfl,rfl⟩:=q3
   refine ⟨_,w,ρ,?_,over,Step.touch hs (ins_sub _ _ _) fun _ h=>h⟩
   simp [Instr.next,h0,getObj,Sem.run,q2]
  ·rename_i m since seen last hg
   have hle:=Nat.ble_eq.mp (bif_of h).1
   replace h:=(bif_of h).2
   obtain ⟨es,clk,hm,h⟩:=rdMK_some h
   have hold:=(bif_of h).1
   replace h:=(bif_of h).2
   have hout:∀ p∈L,q∈p.2.R∨st.base≤q:=by
    intro p hp
    split at h
    ·rw [insK_eq] at h
     simp only [Option.some.injEq] at h
     subst h
     rw [List.mem_singleton] at hp
     subst hp
     exact ins_has _ _ _
    ·rename_i e r he
     have:∀ {l:List SEnt} {L:List (SV × St)} {s:St},outsS q m since clk seen s l=some L→∀ p∈L,q∈p.2.R∨s.base≤q:=by
      intro l
      induction l with
      | nil=>intro L s h p hp;simp only [outsS,Option.some.injEq] at h;subst h;cases hp
      | cons a l ih =>
       intro L s h p hp
       simp only [outsS,wtK_eq] at h
       split at h
       ·rename_i L' hL
        simp only [Option.some.injEq] at h
        subst h
        rcases List.mem_cons.1 hp with rfl | hp
        ·exact ins_has _ _ _
        ·exact ih hL p hp
       ·cases h
     exact this h p hp
   have hmem:∃ p,p∈L:=by
    split at h
    ·rw [insK_eq] at h
     simp only [Option.some.injEq] at h
     subst h
     exact ⟨_,List.mem_cons_self⟩
    ·exact ⟨_,outsS_at h _ List.mem_cons_self⟩
   obtain ⟨p0,hp0⟩:=hmem
   have hdq:D q:=hD p0 hp0 q (hout p0 hp0)
   have hdm:D m:=by
    have hR:∀ p∈L,m∈p.2.R∨st.base≤m:=by
     intro p hp
     split at h
     ·rw [insK_eq] at h
      simp only [Option.some.injEq] at h
      subst h
      rw [List.mem_singleton] at hp
      subst hp
      rcases ins_has st.base m st.R with q | q
      ·exact .inl (ins_sub _ _ _ _ q)
      ·exact .inr q
     ·rename_i e r he
      have:∀ {l:List SEnt} {L:List (SV × St)} {s:St},outsS q m since clk seen s l=some L→∀ p∈L,∀ x,x∈s.R→x∈p.2.R:=by
       intro l
       induction l with
       | nil=>intro L s h p hp;simp only [outsS,Option.some.injEq] at h;subst h;cases hp
       | cons a l ih =>
        intro L s h p hp x hx
        simp only [outsS,wtK_eq] at h
        split at h
        ·rename_i L' hL
         simp only [Option.some.injEq] at h
         subst h
         rcases List.mem_cons.1 hp with rfl | hp
         ·exact ins_sub _ _ _ _ hx
         ·exact ih hL p hp x hx
        ·cases h
      rcases ins_has st.base m st.R with q | q
      ·exact .inl (this h p hp m q)
      ·exact .inr q
    exact hD p0 hp0 m (hR p0 hp0)
   obtain ⟨b',s',ob,q1,q2,q3⟩:=hs.live q _ hdq hg
   rw [hQ] at q1;cases q1
   obtain ⟨h0,mb,rfl,M,z,hM,rfl⟩:=q3
   obtain ⟨b2,s2,ms,r1,r2,r3⟩:=hs.mapAt hdm hm
   rw [hM] at r1;cases r1
   have hQ0:(.pointer (some ⟨Q,s.1+0,none⟩):Value)=.pointer (some ⟨Q,0,none⟩):=by rw [h0]
   rw [hQ0]
   have hleft:=leftS_ok (seen:=seen) r3
   have hlo:(leftOf ms.toArray seen.reverse.toArray).toList=ms.filter fun e=>!seen.contains e.born:=by
    unfold leftOf
    rw [Array.toList_filter]
    congr 1
    funext e
    simp
   rcases run_next_at (P:=P) w ty Q M since last seen.reverse.toArray ms.toArray clk q2 r2 (by simpa using oldB_ok r3 hold) hle with ⟨e0,er⟩ | ⟨e,he,w1,hw1,er⟩
   ·have hl0:leftS seen es=[]:=by
     have hz:(leftOf ms.toArray seen.reverse.toArray).toList=[]:=List.eq_nil_of_length_eq_zero (by simpa using e0)
     rw [hlo] at hz
     rw [hz] at hleft
     cases hq:leftS seen es with
     | nil=>rfl
     | cons a r=>rw [hq,MRel] at hleft;obtain ⟨_,_,h,_⟩:=hleft;cases h
    rw [hl0,insK_eq] at h
    simp only [Option.some.injEq] at h
    subst h
    refine ⟨_,List.mem_cons_self,_,w,ρ,er,over,?_⟩
    exact Step.touch hs (fun x hx=>ins_sub _ _ _ _ (ins_sub _ _ _ _ hx)) fun _ h=>h
   ·rw [hlo] at he
    obtain ⟨e',he',k1,k2,k3⟩:=hleft.mem he
    have hin:(.tup [.raw (.bool true),e'.key,e'.val],(⟨st.h.set q (some (.iter (some m) since (e'.born::seen) clk)),st.nx,st.base,ins st.base q (ins st.base m st.R),ins st.base q st.W⟩:St))∈L:=by
     split at h
     ·rename_i hl0;rw [hl0] at he';cases he'
     ·rename_i a r hl0
      rw [hl0] at he'
      exact outsS_at (st:=⟨st.h,st.nx,st.base,ins st.base m st.R,st.W⟩) h e' he'
    refine ⟨_,hin,_,_,ρ,er,?_,?_⟩
    ·rw [Rel];exact ⟨[.bool true,e.key,e.val],RelL.cons (by rw [Rel]) (RelL.cons k1 (RelL.cons k2 RelL.nil)),rfl⟩
    ·have hlt:Q<w.heap.size:=(Array.getElem?_eq_some_iff.1 q2).1
     have hw2:w1.heap=w.heap∧w1.os=w.os∧w1.tape=w.tape∧w1.output=w.output:=by rcases hw1 with rfl | rfl <;> exact ⟨rfl,rfl,rfl,rfl⟩
     refine Step.upd hs hdq (by rw [hg];simp) hQ (o:=.iter (some m) since (e'.born::seen) clk) (ob:=.mapIter (some M) since (seen.reverse.toArray.push e.born) clk) ⟨h0,some M,by rw [k3];simp,M,z,hM,rfl⟩ (fun x hx=>ins_sub _ _ _ _ (ins_sub _ _ _ _ hx)) (ins_sub _ _ _) (ins_has _ _ _) hw2.2.1 hw2.2.2.1 hw2.2.2.2 (by simp [ChangeMaps.setBlock,hw2.1]) (by simp [ChangeMaps.setBlock,hw2.1,hlt]) (fun k hk=>by simp [ChangeMaps.setBlock,hw2.1,Ne.symm hk])
  ·cases h
 ·cases h
theorem nodupB_ok {es:List SEnt}:∀ {ms:List MapEntry} {l:List Nat},MRel ρ es ms→nodupB es l=true→(ms.map (·.born)).Nodup∧∀ x∈ms.map (·.born),x ∉ l:=by
 induction es with
 | nil=>intro ms l hm _;rw [MRel] at hm;subst hm;simp
 | cons a es ih =>
  intro ms l hm h
  rw [MRel] at hm
  obtain ⟨m,r,rfl,_,_,h4,h5⟩:=hm
  simp only [nodupB] at h
  cases hb:memb a.born l with
  | true=>rw [hb] at h;cases h
  | false =>
   rw [hb,cond_false] at h
   obtain ⟨g1,g2⟩:=ih h5 h
   have hna:a.born ∉ l:=fun q=>by rw [memb_iff.2 q] at hb;cases hb
   rw [List.map_cons,List.nodup_cons,h4]
   refine ⟨⟨fun q=>g2 _ q List.mem_cons_self,g1⟩,fun x hx=>?_⟩
   rcases List.mem_cons.1 hx with rfl | hx
   ·exact hna
   ·exact fun q=>g2 x hx (List.mem_cons_of_mem _ q)
theorem bornI_mem {n:Nat} {es:List SEnt}:∀ {ms:List MapEntry} {i j:Nat} {e:SEnt},MRel ρ es ms→bornI es n i=some (j,e)→∃ m∈ms,Rel ρ e.key m.key∧Rel ρ e.val m.val∧m.born=n:=by
 induction es with
 | nil=>intro ms i j e hm h;simp [bornI] at h
 | cons a es ih =>
  intro ms i j e hm h
  rw [MRel] at hm
  obtain ⟨m,q,rfl,h2,h3,h4,h5⟩:=hm
  simp only [bornI] at h
  cases hb:Nat.beq a.born n with
  | true =>
   rw [hb,cond_true] at h
   simp only [Option.some.injEq,Prod.mk.injEq] at h
   obtain ⟨rfl,rfl⟩:=h
   exact ⟨m,by simp,h2,h3,h4.trans (Nat.eq_of_beq_eq_true hb)⟩
  | false =>
   rw [hb,cond_false] at h
   obtain ⟨m',g1,g2⟩:=ih h5 h
   exact ⟨m',by simp [g1],g2⟩
theorem enS_ok {x v:SV} {u:Value} (hx:Rel ρ x u) (h:enS x st=some (v,st')) (hs:Sim ρ D st w) (hD:∀ x,x∈st'.R∨st.base≤x→D x):Did P ρ D st st' w v (Instr.entry u):=by
 unfold enS at h
 split at h
 ·rename_i q
  rw [Rel] at hx
  obtain ⟨Q,s,hQ,rfl⟩:=hx
  split at h
  ·rename_i m since b seen last hg
   obtain ⟨es,clk,hm,h⟩:=rdMK_some h
   have hc:=(bif_of h).1
   replace h:=(bif_of h).2
   rw [Bool.and_eq_true] at hc
   have hclk:=Nat.eq_of_beq_eq_true hc.1
   split at h
   case h_2=>cases h
   rename_i j e hb
   rw [insK_eq] at h
   simp only [Option.some.injEq,Prod.mk.injEq] at h
   obtain ⟨rfl,rfl⟩:=h
   have hdq:D q:=hD q (ins_has _ _ _)
   have hdm:D m:=hD m (by
    rcases ins_has st.base m st.R with q | q
    ·exact .inl (ins_sub _ _ _ _ q)
    ·exact .inr q)
   obtain ⟨b',s',ob,q1,q2,q3⟩:=hs.live q _ hdq hg
   rw [hQ] at q1;cases q1
   obtain ⟨h0,mb,rfl,M,z,hM,rfl⟩:=q3
   obtain ⟨b2,s2,ms,r1,r2,r3⟩:=hs.mapAt hdm hm
   rw [hM] at r1;cases r1
   obtain ⟨e',he',k1,k2,k3⟩:=bornI_mem r3 hb
   have hQ0:(.pointer (some ⟨Q,s.1+0,none⟩):Value)=.pointer (some ⟨Q,0,none⟩):=by rw [h0]
   rw [hQ0]
   have er:=run_entry_at (P:=P) w Q M since seen.reverse.toArray ms.toArray clk e' (by rw [q2,k3,hclk];simp) r2 (by simpa using he') (by simpa using (nodupB_ok r3 hc.2).1)
   refine ⟨_,w,ρ,er,?_,Step.touch hs (fun x hx=>ins_sub _ _ _ _ (ins_sub _ _ _ _ hx)) fun _ h=>h⟩
   rw [Rel];exact ⟨[e'.key,e'.val],RelL.cons k1 (RelL.cons k2 RelL.nil),rfl⟩
  ·rename_i m since b last hg
   obtain ⟨es,clk,hm,h⟩:=rdMK_some h
   have hc:=(bif_of h).1
   replace h:=(bif_of h).2
   rw [Bool.and_eq_true] at hc
   have hclk:=Nat.eq_of_beq_eq_true hc.1
   split at h
   case h_2=>cases h
   rename_i j e hb
   rw [insK_eq] at h
   simp only [Option.some.injEq,Prod.mk.injEq] at h
   obtain ⟨rfl,rfl⟩:=h
   have hdq:D q:=hD q (ins_has _ _ _)
   have hdm:D m:=hD m (by
    rcases ins_has st.base m st.R with q | q
    ·exact .inl (ins_sub _ _ _ _ q)
    ·exact .inr q)
   obtain ⟨b',s',ob,q1,q2,q3⟩:=hs.live q _ hdq hg
   rw [hQ] at q1;cases q1
   obtain ⟨h0,M,z,l,hM,rfl⟩:=q3
   obtain ⟨b2,s2,ms,r1,r2,r3⟩:=hs.mapAt hdm hm
   rw [hM] at r1;cases r1
   obtain ⟨e',he',k1,k2,k3⟩:=bornI_mem r3 hb
   have hQ0:(.pointer (some ⟨Q,s.1+0,none⟩):Value)=.pointer (some ⟨Q,0,none⟩):=by rw [h0]
   rw [hQ0]
   have er:=run_entry_at (P:=P) w Q M since l.toArray ms.toArray clk e' (by rw [q2,k3,hclk];simp) r2 (by simpa using he') (by simpa using (nodupB_ok r3 hc.2).1)
   refine ⟨_,w,ρ,er,?_,Step.touch hs (fun x hx=>ins_sub _ _ _ _ (ins_sub _ _ _ _ hx)) fun _ h=>h⟩
   rw [Rel];exact ⟨[e'.key,e'.val],RelL.cons k1 (RelL.cons k2 RelL.nil),rfl⟩
  ·cases h
 ·cases h
end
end Go.TX
namespace Go.TX
open Go Go.TH
noncomputable section
def ncS (x:SV):Option SV:=match x with
 | .ptr b o=>some (.ptr b o)
 | .fn f l m=>some (.fn f l m)
 | .yield b=>some (.yield b)
 | .raw (.func f l m)=>match f with
  | .func _=>some (.raw (.func f l m))
  | _=>none
 | _=>none
def pkS (c x y:SV):Option SV:=match c with
 | .raw (.bool true)=>some x
 | .raw (.bool false)=>some y
 | _=>none
def withS (v:Option SV) (st:St):Option (SV × St):=match v with
 | some v=>some (v,st)
 | none=>none
def mxS (P:Program) (mx:Bool) (ats:List TypeId) (ty:TypeId) (xs:List SV):Option SV:=match raws xs with
 | some vs=>match pv P (match mx with | true=>Builtin.max_ ats.toArray ty vs.toArray | false=>Builtin.min_ ats.toArray ty vs.toArray) with
  | some v=>valV v
  | none=>none
 | none=>none
def biS (P:Program) (b:Builtin) (ats:List TypeId) (ty:TypeId) (xs:List SV) (st:St):Option (SV × St):=match b with
 | .len=>match ats with
  | [T]=>match xs with
   | [x]=>lnS P T x st
   | _=>none
  | _=>none
 | .append=>match ats with
  | [T,T']=>match xs with
   | [x,y]=>apS P T T' x y st
   | _=>none
  | _=>none
 | .copy=>match ats with
  | T::_=>match xs with
   | [x,y]=>cpS P T x y st
   | _=>none
  | _=>none
 | .max=>withS (mxS P true ats ty xs) st
 | .min=>withS (mxS P false ats ty xs) st
 | .delete=>match ats with
  | T::_=>match xs with
   | [x,i]=>deS P T x i st
   | _=>none
  | _=>none
 | .clear=>match ats with
  | T::_=>match xs with
   | [x]=>clS P T x st
   | _=>none
  | _=>none
 | _=>none
def opS (P:Program) (env:Tr SV) (op:Op) (st:St):Option (SV × St):=match op with
 | .move x=>some (svOp env x,st)
 | .assign x=>some (svOp env x,st)
 | .pick c x y=>withS (pkS (svOp env c) (svOp env x) (svOp env y)) st
 | .alloc T=>alS P T st
 | .box T x=>bxS T (svOp env x) st
 | .build T parts=>withS (bdS P T (svParts env parts.toList)) st
 | .buildSlice T len parts=>bsS P T len (svParts env parts.toList) st
 | .load T x=>ldS P T (svOp env x) st
 | .store T x v=>stS P T (svOp env x) (svOp env v) st
 | .nilCheck x=>withS (ncS (svOp env x)) st
 | .binOp op T x y _=>withS (boS P op T x y (svOp env x) (svOp env y)) st
 | .unOp op _ x=>withS (unS P op (svOp env x)) st
 | .convert T T' x=>withS (cvS P T T' (svOp env x)) st
 | .makeFunc f first cap=>match f with
  | .func f=>some (.fn f (svOps env first.toList) (svOps env cap.toList),st)
  | _=>none
 | .makeMap _ r=>match r with
  | none=>mmS none st
  | some _=>none
 | .makeSlice T l c=>mkS P T (svOp env l) (svOp env c) st
 | .slice T x lo hi mx=>slS P T (svOp env x) (lo.map (svOp env)) (hi.map (svOp env)) (mx.map (svOp env)) st
 | .fieldAddr T x f=>withS (faS P T f (svOp env x)) st
 | .field T x f=>withS (fdS P T f (svOp env x)) st
 | .indexAddr T x i=>withS (iaS P T (svOp env x) (svOp env i)) st
 | .index T x i=>withS (ixS P T (svOp env x) (svOp env i)) st
 | .lookup T x i ok=>lkS P T (svOp env x) (svOp env i) ok st
 | .mapUpdate T x i v=>muS P T (svOp env x) (svOp env i) (svOp env v) st
 | .insert T x i v=>muS P T (svOp env x) (svOp env i) (svOp env v) st
 | .mapEntry T x i=>meS P T (svOp env x) (svOp env i) st
 | .entryStore _ x i v=>esS (svOp env x) (svOp env i) (svOp env v) st
 | .extract x i=>withS (exS (svOp env x) i) st
 | .range T x=>rgS P T (svOp env x) st
 | .entry x=>enS (svOp env x) st
 | _=>none
def eqL {α:Type} (f:α→α→Bool):List α→List α→Bool
 | [],[]=>true
 | x::l,y::r=>bif f x y then eqL f l r else false
 | _,_=>false
def eqC:Cap→Cap→Bool
 | .kn n,.kn m=>Nat.beq n m
 | .rest n,.rest m=>Nat.beq n m
 | _,_=>false
def eqW:Value→Value→Bool
 | .pointer none,.pointer none=>true
 | .slice none n k,.slice none n' k'=>Nat.beq n n'&&Nat.beq k k'
 | .map none,.map none=>true
 | .nilFunc,.nilFunc=>true
 | .nilIface,.nilIface=>true
 | .tuple ⟨[]⟩,.tuple ⟨[]⟩=>true
 | v,u=>veq v u
mutual
def eqV:SV→SV→Bool
 | .raw v,.raw u=>eqW v u
 | .ptr b o,.ptr b' o'=>Nat.beq b b'&&Nat.beq o o'
 | .sl b o n c,.sl b' o' n' c'=>Nat.beq b b'&&Nat.beq o o'&&Nat.beq n n'&&eqC c c'
 | .sl0,.sl0=>true
 | .map b,.map b'=>Nat.beq b b'
 | .fn f l m,.fn f' l' m'=>Nat.beq f f'&&eqVs l l'&&eqVs m m'
 | .yield b,.yield b'=>Nat.beq b b'
 | .agg l,.agg l'=>eqVs l l'
 | .tup l,.tup l'=>eqVs l l'
 | _,_=>false
def eqVs:List SV→List SV→Bool
 | [],[]=>true
 | x::l,y::r=>bif eqV x y then eqVs l r else false
 | _,_=>false
end
def eqE (x y:SEnt):Bool:=eqV x.key y.key&&eqV x.val y.val&&Nat.beq x.born y.born
def eqB:Bool→Bool→Bool
 | true,true=>true
 | false,false=>true
 | _,_=>false
def eqO:SO→SO→Bool
 | .cells l e op,.cells l' e' op'=>eqVs l l'&&Nat.beq e e'&&eqB op op'
 | .map es c,.map es' c'=>eqL eqE es es'&&Nat.beq c c'
 | .dfr a,.dfr b=>eqB a b
 | .iter (some m) s l t,.iter (some m') s' l' t'=>Nat.beq m m'&&Nat.beq s s'&&eqL Nat.beq l l'&&Nat.beq t t'
 | .iter none s l t,.iter none s' l' t'=>Nat.beq s s'&&eqL Nat.beq l l'&&Nat.beq t t'
 | _,_=>false
def eqS:LoopState→LoopState→Bool
 | .ready,.ready=>true
 | .busy,.busy=>true
 | .done,.done=>true
 | .exhausted,.exhausted=>true
 | _,_=>false
def eqJ:Option Code→Option Code→Bool
 | none,none=>true
 | some (.exit a),some (.exit b)=>Nat.beq a b
 | some (.goto a),some (.goto b)=>Nat.beq a b
 | some .ret,some .ret=>true
 | _,_=>false
def eqLp:SO→SO→Bool
 | .loop r,.loop r'=>eqS r.state r'.state&&eqJ r.pending r'.pending
 | _,_=>false
def meetK {β:Type} (n0:Nat) (h1 h2:Tr SO):Nat→Tr SO→(Tr SO→Option β)→Option β
 | 0,h,k=>k h
 | n+1,h,k=>match h1.get n with
  | some o1=>match h2.get n with
   | some o2=>bif eqO o1 o2||(Nat.blt n n0&&eqLp o1 o2) then h.setK n (some o1) fun h'=>meetK n0 h1 h2 n h' k else (bif Nat.ble n0 n then meetK n0 h1 h2 n h k else none)
   | none=>bif Nat.ble n0 n then meetK n0 h1 h2 n h k else none
  | none=>match h2.get n with
   | some _=>bif Nat.ble n0 n then meetK n0 h1 h2 n h k else none
   | none=>meetK n0 h1 h2 n h k
def join2 (n0:Nat) (p q:SV × St):Option (SV × St):=match p with
 |(v,⟨h,nx,b,R,W⟩)=>match q with
  |(v',⟨h',nx',b',R',W'⟩)=>bif eqV v v' then (bif Nat.beq nx nx' then (bif Nat.beq b b' then meetK n0 h h' nx .lf fun h2=>appK R R' fun R2=>appK W W' fun W2=>some (v,⟨h2,nx,b,R2,W2⟩) else none) else none) else none
def joinA (n0:Nat):SV × St→List (SV × St)→Option (SV × St)
 | p,[]=>some p
 | p,q::r=>match join2 n0 p q with
  | some p'=>joinA n0 p' r
  | none=>none
def joinL (n0:Nat):List (SV × St)→List (SV × St)
 | []=>[]
 | p::l=>match l with
  | []=>[p]
  | q::r=>match joinA n0 p (q::r) with
   | some p'=>[p']
   | none=>p::q::r
inductive Ex where
 | nrm
 | ext (id:Nat)
 | gto (l:Nat)
 | ret
abbrev Out:=Ex × Tr SV × List Nat × St
abbrev Rec:=Option Nat→Nat→Code→Tr SV→List Nat→St→Option (List Out)
abbrev Sums:=FuncId→Option (List SV→St→Option (SV × St))
def mapB {α β:Type} (f:α→Option (List β)):List α→Option (List β)
 | []=>some []
 | x::r=>match f x with
  | some l=>match r with
   | []=>some l
   | y::r'=>match mapB f (y::r') with
    | some l'=>some (l++l')
    | none=>none
  | none=>none
def oneL {α:Type} (r:Option α):Option (List α):=match r with
 | some p=>some [p]
 | none=>none
section
variable (P:Program) (sm:Sums) (rec:Rec)
def envK {β:Type}:List SV→Nat→Tr SV→(Tr SV→Option β)→Option β
 | [],_,env,k=>k env
 | x::r,i,env,k=>env.setK i (some x) fun env'=>envK r (Nat.succ i) env' k
def shutK {β:Type}:List Nat→St→(St→Option β)→Option β
 | [],st,k=>k st
 | d::r,st,k=>match st.h.get d with
  | some (.dfr false)=>wtK st d (.dfr true) fun st'=>shutK r st' k
  | _=>none
def rvK (env:Tr SV) (r:ResultVar) (st:St):Option (SV × St):=match r with
 | .tmp t=>some (svOp env (.tmp t),st)
 | .cell a T=>ldS P T (svOp env (.tmp a)) st
def resK (env:Tr SV):List ResultVar→St→(List SV→St→Option (SV × St))→Option (SV × St)
 | [],st,k=>k [] st
 | r::rs,st,k=>match rvK P env r st with
  | some (v,st')=>resK env rs st' fun vs st2=>k (v::vs) st2
  | none=>none
def oneOf (vs:List SV):SV:=match vs with
 | [v]=>v
 | vs=>.tup vs
def finS (fn:Func) (o:Out):Option (SV × St):=match o with
 |(e,env,ds,st)=>match e with
  | .nrm=>shutK ds st fun st2=>resK P env fn.results.toList st2 fun vs st3=>some (oneOf vs,st3)
  | .ret=>shutK ds st fun st2=>resK P env fn.results.toList st2 fun vs st3=>some (oneOf vs,st3)
  | _=>none
def exF (f:FuncId) (args:List SV) (st:St):Option (List (SV × St)):=match sm f with
 | some s=>oneL (s args st)
 | none=>match P.funcs[f]? with
  | some fn=>match fn.body with
   | some c=>bif Nat.ble (llen args) fn.ntmps then envK args 0 .lf fun env=>match rec none fn.ntmps c env [] st with
    | some L=>match mapB (fun o=>oneL (finS P fn o)) L with
     | some R=>some (joinL st.nx R)
     | none=>none
    | none=>none
    else none
   | none=>none
  | none=>none
def jmpOf:Ex→Option Code
 | .nrm=>none
 | .ext id=>some (.exit id)
 | .gto l=>some (.goto l)
 | .ret=>some .ret
def putsK {β:Type}:List Tmp→List SV→Nat→Tr SV→(Tr SV→Option β)→Option β
 | [],[],_,env,k=>k env
 | t::ts,x::xs,N,env,k=>bif Nat.blt t N then env.setK t (some x) fun env'=>putsK ts xs N env' k else none
 | _,_,_,_,_=>none
def yEnd (l:Nat) (o:Out):Option (SV × St):=match o with
 |(e3,_,_,st3)=>match st3.h.get l with
  | some (.loop r3)=>match jmpOf e3 with
   | none=>wtK st3 l (.loop { r3 with state:=.ready,pending:=none }) fun st4=>some (.raw (.bool true),st4)
   | some c=>wtK st3 l (.loop { r3 with state:=.done,pending:=some c }) fun st4=>some (.raw (.bool false),st4)
  | _=>none
def exYb (l:Nat) (r:SLoop) (env:Tr SV) (st:St):Option (List (SV × St)):=match rec (some l) r.N r.assign env [] st with
 | some [(e,env1,ds1,st1)]=>match e with
  | .nrm=>match st1.h.get l with
   | some (.loop r1)=>match r1.state with
    | .ready=>wtK st1 l (.loop { r1 with state:=.busy }) fun st2=>match rec (some l) r.N r.body env1 ds1 st2 with
     | some L=>mapB (fun o=>oneL (yEnd l o)) L
     | none=>none
    | _=>none
   | _=>none
  | _=>none
 | _=>none
def exY (l:Nat) (args:List SV) (st:St):Option (List (SV × St)):=match st.h.get l with
 | some (.loop r)=>putsK r.params.toList args r.N r.tmps fun env=>exYb rec l r env st
 | _=>none
def appS:List SV→List SV→List SV
 | [],r=>r
 | x::l,r=>x::appS l r
def exO (env:Tr SV) (o:Oper) (st:St):Option (List (SV × St)):=match o.op with
 | .call c=>match c.callee with
  | .builtin b=>oneL (biS P b c.argTypes.toList o.type (svOps env c.args.toList) st)
  | .value x=>match svOp env x with
   | .fn f first cap=>exF P sm rec f (appS first (appS (svOps env c.args.toList) cap)) st
   | .yield l=>exY rec l (svOps env c.args.toList) st
   | _=>none
  | _=>none
 | .next x s=>match s with
  | false=>nxS (svOp env x) st
  | true=>none
 | op=>oneL (opS P env op st)
def putK {β:Type} (N:Nat) (env:Tr SV) (d:Option Tmp) (v:SV) (k:Tr SV→Option β):Option β:=match d with
 | none=>k env
 | some d=>bif Nat.blt d N then env.setK d (some v) k else none
def beqB:Bool→Bool→Bool
 | true,true=>true
 | false,false=>true
 | _,_=>false
def wantS (ops:List Oper) (env:Tr SV) (o:Oper):Option Bool:=match o.guard with
 | none=>some true
 | some (j,want)=>match nth ops j with
  | some oj=>match oj.dst with
   | some d=>match env.get d with
    | some (.raw v)=>match v with
     | .bool b=>some (beqB b want)
     | _=>some false
    | some (.tup _)=>some false
    | _=>none
   | none=>none
  | none=>none
def exL (N:Nat) (ops:List Oper):List Oper→Tr SV→St→Option (List (Tr SV × St))
 | [],env,st=>some [(env,st)]
 | o::r,env,st=>match wantS ops env o with
  | some true=>match exO P sm rec env o st with
   | some L=>mapB (fun p=>putK N env o.dst p.1 fun env'=>exL N ops r env' p.2) L
   | none=>none
  | some false=>putK N env o.dst (.raw undef) fun env'=>exL N ops r env' st
  | none=>none
structure Tc where
 R:List Nat
 W:List Nat
 a:Nat
 b:Nat
 /-- nothing is written or made -/
 q:Bool
def quietB:List Nat→Nat→Nat→Bool
 | [],a,b=>Nat.beq a b
 | _::_,_,_=>false
def mrgK {β:Type} (h':Tr SO):List Nat→Tr SO→(Tr SO→Option β)→Option β
 | [],h,k=>k h
 | x::r,h,k=>match h'.get x with
  | some o=>h.setK x (some o) fun h2=>mrgK h' r h2 k
  | none=>h.setK x none fun h2=>mrgK h' r h2 k
def rngK {β:Type} (h':Tr SO):Nat→Nat→Tr SO→(Tr SO→Option β)→Option β
 | 0,_,h,k=>k h
 | n+1,x,h,k=>match h'.get x with
  | some o=>h.setK x (some o) fun h2=>natK (Nat.succ x) fun x'=>rngK h' n x' h2 k
  | none=>h.setK x none fun h2=>natK (Nat.succ x) fun x'=>rngK h' n x' h2 k
def okW (nx:Nat) (R:List Nat):List Nat→Bool
 | []=>true
 | x::r=>bif Nat.blt x nx then (bif memb x R then okW nx R r else false) else false
def endK {β:Type} (h:Tr SO) (nx:Nat) (st':St) (k:Tr SO→Nat→Tc→Option β):Option β:=match st' with
 | ⟨h',nx',_,R,W⟩=>bif quietB W nx nx' then k h nx ⟨R,[],nx,nx,true⟩ else
  (bif Nat.ble nx nx' then (bif okW nx R W then mrgK h' W h fun h1=>rngK h' (nx'-nx) nx h1 fun h2=>k h2 nx' ⟨R,W,nx,nx',false⟩ else none) else none)
def exR (N:Nat) (ops:List Oper):List Oper→Tr SV→Tr SO→Nat→List Tc→Option (Tr SV × Tr SO × Nat × List Tc)
 | [],env,h,nx,acc=>some (env,h,nx,acc)
 | o::r,env,h,nx,acc=>match wantS ops env o with
  | some true=>match exO P sm rec env o ⟨h,nx,nx,[],[]⟩ with
   | some [(v,st')]=>endK h nx st' fun h2 nx2 t=>putK N env o.dst v fun env'=>exR N ops r env' h2 nx2 (t::acc)
   | _=>none
  | some false=>putK N env o.dst (.raw undef) fun env'=>exR N ops r env' h nx (⟨[],[],nx,nx,true⟩::acc)
  | none=>none
def disj:List Nat→List Nat→Bool
 | [],_=>true
 | x::r,l=>bif memb x l then false else disj r l
def outR (a b:Nat):List Nat→Bool
 | []=>true
 | x::r=>bif Nat.ble a x&&Nat.blt x b then false else outR a b r
def sepF (t u:Tc):Bool:=disj t.W u.R&&disj t.W u.W&&disj t.R u.W&&outR t.a t.b u.R
def sepT (t u:Tc):Bool:=match t.q with
 | true=>match u.q with
  | true=>true
  | false=>sepF t u
 | false=>sepF t u
def allQ:List Tc→Bool
 | []=>true
 | t::r=>match t.q with
  | true=>allQ r
  | false=>false
def bitB (m i:Nat):Bool:=Nat.beq (Nat.land (Nat.shiftRight m i) 1) 1
def cloB:List (List Nat)→List Nat→List Nat
 | [],acc=>acc
 | af::r,acc=>cloB r (natK (go acc (llen acc) af 0) fun m=>m::acc)
where
 /-- the bits of those that it names, and of theirs -/
 go (acc:List Nat) (n:Nat):List Nat→Nat→Nat
  | [],m=>m
  | j::js,m=>match nth acc (n-1-j) with
   | some mj=>go acc n js (Nat.lor m (Nat.lor mj (Nat.shiftLeft 1 j)))
   | none=>go acc n js m
def sepAll:List Tc→List Nat→Bool
 | [],_=>true
 | u::r,m::ms=>sepU u m r (llen r)&&sepAll r ms
 | _::_,[]=>false
where
 sepU (u:Tc) (m:Nat):List Tc→Nat→Bool
  | [],_=>true
  | t::r,n=>bif sepT t u then sepU u m r (n-1) else (bif bitB m (n-1) then sepU u m r (n-1) else false)
def afsL (o:Oper):List Nat:=go o.after.toList
where
 go:List Edge→List Nat
  | []=>[]
  | e::r=>match e.ground with
   | .textOnly _=>go r
   | .gcOnly _=>go r
   | _=>e.on::go r
def afsAll:List Oper→List (List Nat)
 | []=>[]
 | o::r=>afsL o::afsAll r
def cloO (ops:List Oper):List Nat:=cloB (afsAll ops) []
def apAll (ops:Array Oper):List Oper→List Nat→Bool
 | [],_=>true
 | u::r,m::ms=>apU u m r (llen r)&&apAll ops r ms
 | _::_,[]=>false
where
 apU (u:Oper) (m:Nat):List Oper→Nat→Bool
  | [],_=>true
  | t::r,n=>bif bitB m (n-1) then apU u m r (n-1) else (bif t.apart ops u then apU u m r (n-1) else false)
def ltAll:List Nat→Nat→Bool
 | [],_=>true
 | j::r,i=>bif Nat.blt j i then ltAll r i else false
def backAll:List (List Nat)→Nat→Bool
 | [],_=>true
 | a::r,i=>bif ltAll a i then backAll r (Nat.succ i) else false
def revK {α:Type}:List α→List α→List α
 | [],acc=>acc
 | x::r,acc=>revK r (x::acc)
def statD (ops:Array Oper):Bool:=backAll (afsAll ops.toList) 0&&apAll ops (revK ops.toList []) (cloO ops.toList)
def insAllK {β:Type} (b:Nat):List Nat→List Nat→(List Nat→β)→β
 | [],R,k=>k R
 | x::r,R,k=>insK b x R fun R'=>insAllK b r R' k
def tellK {β:Type} (b:Nat):List Tc→List Nat→List Nat→(List Nat→List Nat→β)→β
 | [],R,W,k=>k R W
 | t::r,R,W,k=>insAllK b t.R R fun R'=>insAllK b t.W W fun W'=>tellK b r R' W' k
def exD (N:Nat) (ops:Array Oper) (env:Tr SV) (st:St):Option (Tr SV × St):=match st with
 | ⟨h,nx,b,R,W⟩=>bif statD ops then (match exR P sm rec N ops.toList ops.toList env h nx [] with
  | some (env',h',nx',ts)=>bif allQ ts||sepAll ts (cloO ops.toList) then tellK b ts R W fun R' W'=>some (env',⟨h',nx',b,R',W'⟩) else none
  | none=>none) else none
def rfE (ro:Option Nat) (N:Nat) (env:Tr SV) (ds0:List Nat) (l:Nat) (st3:St):Option (List Out):=match st3.h.get l with
 | some (.loop r)=>match r.state with
  | .busy=>none
  | _=>wtK st3 l (.loop { r with state:=.exhausted }) fun st4=>match r.pending with
   | none=>some [(.nrm,env,ds0,st4)]
   | some c=>rec ro N c env ds0 st4
 | _=>none
def rfB (ro:Option Nat) (N:Nat) (g:Operand) (env:Tr SV) (ds0:List Nat) (l:Nat) (st2:St):Option (List Out):=match svOp env g with
 | .fn f first cap=>match exF P sm rec f (appS first (.yield l::cap)) st2 with
  | some L=>mapB (fun p=>rfE rec ro N env ds0 l p.2) L
  | none=>none
 | _=>none
def rfS (ro:Option Nat) (N:Nat) (g:Operand) (ps:Array Tmp) (assign body:Code) (env:Tr SV) (ds:List Nat) (st:St):Option (List Out):=match ro with
 | none=>newK st (.dfr false) fun d st1=>newK st1 (.loop ⟨.ready,none,N,env,ps,assign,body,d⟩) fun l st2=>rfB P sm rec none N g env (d::ds) l st2
 | some l0=>match st.h.get l0 with
  | some (.loop r0)=>insK st.base l0 st.R fun R'=>newK ⟨st.h,st.nx,st.base,R',st.W⟩ (.loop ⟨.ready,none,N,env,ps,assign,body,r0.defers⟩) fun l st2=>rfB P sm rec (some l0) N g env ds l st2
  | _=>none
def thnS (ro:Option Nat) (N:Nat) (y:Code) (o:Out):Option (List Out):=match o with
 |(e,env',ds',st')=>match e with
  | .nrm=>rec ro N y env' ds' st'
  | e=>some [(e,env',ds',st')]
def blkS (id:Nat) (o:Out):Option (List Out):=match o with
 |(e,env',ds',st')=>match e with
  | .ext i=>bif Nat.beq i id then some [(.nrm,env',ds',st')] else some [(.ext i,env',ds',st')]
  | e=>some [(e,env',ds',st')]
def scoS (o:Out):Option (List Out):=match o with
 |(e,env',ds',st')=>match e with
  | .gto _=>none
  | e=>some [(e,env',ds',st')]
def nrmS (ds:List Nat) (p:Tr SV × St):Option (List Out):=some [(.nrm,p.1,ds,p.2)]
def stepC (ro:Option Nat) (N:Nat) (c:Code) (env:Tr SV) (ds:List Nat) (st:St):Option (List Out):=match c with
 | .skip=>some [(.nrm,env,ds,st)]
 | .region _ ops draw=>match draw with
  | false=>match exL P sm rec N ops.toList ops.toList env st with
   | some L=>mapB (nrmS ds) L
   | none=>none
  | true=>match exD P sm rec N ops env st with
   | some p=>nrmS ds p
   | none=>none
 | .seq x y=>match rec ro N x env ds st with
  | some L=>mapB (thnS rec ro N y) L
  | none=>none
 | .cond c x y=>match svOp env c with
  | .raw (.bool true)=>rec ro N x env ds st
  | .raw (.bool false)=>rec ro N y env ds st
  | _=>none
 | .block id b=>match rec ro N b env ds st with
  | some L=>mapB (blkS id) L
  | none=>none
 | .loop b=>match rec ro N b env ds st with
  | some L=>mapB (thnS rec ro N (.loop b)) L
  | none=>none
 | .rangeFunc g ps assign body=>rfS P sm rec ro N g ps assign body env ds st
 | .exit id=>some [(.ext id,env,ds,st)]
 | .scope b=>match rec ro N b env ds st with
  | some L=>mapB scoS L
  | none=>none
 | .label _=>some [(.nrm,env,ds,st)]
 | .goto l=>some [(.gto l,env,ds,st)]
 | .ret=>some [(.ret,env,ds,st)]
 | _=>none
end
def exC (P:Program) (sm:Sums) (n:Nat):Rec:=Nat.rec (motive:=fun _=>Rec) (fun _ _ _ _ _ _=>none) (fun _ ih=>stepC P sm ih) n
def st0:St:=⟨.lf,0,0,[],[]⟩
def allT:List (SV × St)→Bool
 | []=>true
 | p::r=>match p.1 with
  | .raw (.bool true)=>allT r
  | _=>false
def yes (P:Program) (sm:Sums) (n:Nat) (f:FuncId):Bool:=match exF P sm (exC P sm n) f [] st0 with
 | some L=>allT L
 | _=>false
end
end Go.TX
namespace Go.TX
open Go Go.TH
noncomputable section
variable {ρ:Ren} {N:Nat} {env:Tr SV} {a:Act} {P:Program} {D:Nat→Prop} {st st':St} {w:World}
def OpDid (P:Program) (ρ:Ren) (D:Nat→Prop) (st st':St) (w:World) (v:SV) (s:Sem Next):Prop :=
 ∃ u w' ρ',(s.run P w=.ok (.value u) w'∨(s.run P w=.ok .skip w'∧u=undef))∧Rel ρ' v u∧Step ρ ρ' D st st' w w'
theorem OpDid.of {v:SV} {s:Sem Value} (h:Did P ρ D st st' w v s):OpDid P ρ D st st' w v (do pure (.value (← s))):=by
 obtain ⟨u,w',ρ',h1,h2,h3⟩:=h
 exact ⟨u,w',ρ',.inl (by simp [h1]),h2,h3⟩
theorem OpDid.pure (hs:Sim ρ D st w) {v:SV} {u:Value} (h:Rel ρ v u):OpDid P ρ D st st w v (Pure.pure (.value u)):=⟨u,w,ρ,.inl rfl,h,Step.refl hs⟩
theorem OpDid.unit {v:SV} {s:Sem Unit} (h:v=.raw undef∧∃ w',s.run P w=.ok () w'∧Step ρ ρ D st st' w w'):OpDid P ρ D st st' w v (do s;Pure.pure .skip):=by
 obtain ⟨rfl,w',h1,h2⟩:=h
 exact ⟨undef,w',ρ,.inr ⟨by simp [h1],rfl⟩,by rw [Rel],h2⟩
theorem withS_some {x:Option SV} {v:SV} (h:withS x st=some (v,st')):x=some v∧st=st':=by
 unfold withS at h
 split at h
 ·simp only [Option.some.injEq,Prod.mk.injEq] at h
  obtain ⟨rfl,rfl⟩:=h
  exact ⟨rfl,rfl⟩
 ·cases h
theorem Did.read (hs:Sim ρ D st w) {v:SV} {s:Sem Value} (h:∃ u,s.run P w=.ok u w∧Rel ρ v u):Did P ρ D st st w v s:=by
 obtain ⟨u,h1,h2⟩:=h
 exact Did.pure hs h1 h2
theorem ncS_ok {x v:SV} {u:Value} (hx:Rel ρ x u) (h:ncS x=some v):v=x∧((∃ b o,u=.pointer (some ⟨b,o,none⟩))∨(∃ f l m,u=.func (.func f) l m)∨∃ b,u=.func (.yield b) #[] #[]):=by
 unfold ncS at h
 split at h
 ·simp only [Option.some.injEq] at h;subst h
  rw [Rel] at hx;obtain ⟨b,s,_,rfl⟩:=hx
  exact ⟨rfl,.inl ⟨_,_,rfl⟩⟩
 ·simp only [Option.some.injEq] at h;subst h
  rw [Rel] at hx;obtain ⟨us,vs,_,_,rfl⟩:=hx
  exact ⟨rfl,.inr (.inl ⟨_,_,_,rfl⟩)⟩
 ·simp only [Option.some.injEq] at h;subst h
  rw [Rel] at hx;obtain ⟨b,s,_,rfl⟩:=hx
  exact ⟨rfl,.inr (.inr ⟨_,rfl⟩)⟩
 ·split at h
  ·simp only [Option.some.injEq] at h;subst h
   rw [Rel] at hx;subst hx
   exact ⟨rfl,.inr (.inl ⟨_,_,_,rfl⟩)⟩
  ·cases h
 ·cases h
theorem pkS_ok {c x y v:SV} {uc ux uy:Value} (hc:Rel ρ c uc) (hx:Rel ρ x ux) (hy:Rel ρ y uy) (h:pkS c x y=some v):∃ b:Bool,uc=.bool b∧Rel ρ v (if b then ux else uy):=by
 unfold pkS at h
 split at h
 ·simp only [Option.some.injEq] at h;subst h
  rw [Rel] at hc;exact ⟨true,hc,hx⟩
 ·simp only [Option.some.injEq] at h;subst h
  rw [Rel] at hc;exact ⟨false,hc,hy⟩
 ·cases h
theorem mxS_ok {mx:Bool} {ats:List TypeId} {ty:TypeId} {xs:List SV} {us:List Value} {v:SV} (hx:RelL ρ xs us) (h:mxS P mx ats ty xs=some v):∃ r,(match mx with | true=>Builtin.max_ ats.toArray ty us.toArray | false=>Builtin.min_ ats.toArray ty us.toArray).run P w=.ok r w∧Rel ρ v r:=by
 unfold mxS at h
 split at h
 ·rename_i vs hv
  have:=raws_rel hv hx
  subst this
  split at h
  ·rename_i r hr
   exact ⟨r,pv_run hr w,valV_rel h⟩
  ·cases h
 ·cases h
theorem fn_ok (he:EnvR ρ N env a.tmps) {f:FuncId} {xs ys:List Operand}:∃ u,(Instr.makeFunc (.func f) (xs.toArray.map a.eval) (ys.toArray.map a.eval)).run P w=.ok u w∧Rel ρ (.fn f (svOps env xs) (svOps env ys)) u:=by
 refine ⟨.func (.func f) (xs.toArray.map a.eval) (ys.toArray.map a.eval),by simp [Instr.makeFunc],?_⟩
 rw [Rel]
 exact ⟨_,_,svOps_rel he xs,svOps_rel he ys,by simp⟩
theorem biS_ok {b:Builtin} {ats:List TypeId} {ty:TypeId} {xs:List SV} {us:List Value} {cs:Array Bool} {v:SV} (hx:RelL ρ xs us) (h:biS P b ats ty xs st=some (v,st')) (hs:Sim ρ D st w) (hD:∀ x,x∈st'.R∨st.base≤x→D x) (hf:Free ρ st.nx st'.nx) :
 OpDid P ρ D st st' w v (builtin b ats.toArray ty cs us.toArray):=by
 unfold biS at h
 split at h
 ·split at h
  ·split at h
   ·rename_i x
    rw [RelL] at hx;obtain ⟨u,r,rfl,h1,h2⟩:=hx
    rw [RelL] at h2;subst h2
    exact OpDid.of (lnS_ok h1 h hs hD)
   ·cases h
  ·cases h
 ·split at h
  ·split at h
   ·rename_i x y
    rw [RelL] at hx;obtain ⟨u,r,rfl,h1,h2⟩:=hx
    rw [RelL] at h2;obtain ⟨u2,r2,rfl,h3,h4⟩:=h2
    rw [RelL] at h4;subst h4
    exact OpDid.of (apS_ok h1 h3 h hs hD hf)
   ·cases h
  ·cases h
 ·split at h
  ·split at h
   ·rename_i x y
    rw [RelL] at hx;obtain ⟨u,r,rfl,h1,h2⟩:=hx
    rw [RelL] at h2;obtain ⟨u2,r2,rfl,h3,h4⟩:=h2
    rw [RelL] at h4;subst h4
    exact OpDid.of (cpS_ok h1 h3 h hs hD)
   ·cases h
  ·cases h
 ·obtain ⟨hw,rfl⟩:=withS_some h
  exact OpDid.of (Did.read hs (mxS_ok (mx:=true) hx hw))
 ·obtain ⟨hw,rfl⟩:=withS_some h
  exact OpDid.of (Did.read hs (mxS_ok (mx:=false) hx hw))
 ·split at h
  ·split at h
   ·rename_i x i
    rw [RelL] at hx;obtain ⟨u,r,rfl,h1,h2⟩:=hx
    rw [RelL] at h2;obtain ⟨u2,r2,rfl,h3,h4⟩:=h2
    rw [RelL] at h4;subst h4
    exact OpDid.of (deS_ok h1 h3 h hs hD)
   ·cases h
  ·cases h
 ·split at h
  ·split at h
   ·rename_i x
    rw [RelL] at hx;obtain ⟨u,r,rfl,h1,h2⟩:=hx
    rw [RelL] at h2;subst h2
    exact OpDid.of (clS_ok h1 h hs hD)
   ·cases h
  ·cases h
 ·cases h
theorem opS_ok {o:Oper} {v:SV} (he:EnvR ρ N env a.tmps) (h:opS P env o.op st=some (v,st')) (hs:Sim ρ D st w) (hD:∀ x,x∈st'.R∨st.base≤x→D x) (hf:Free ρ st.nx st'.nx):OpDid P ρ D st st' w v (execOp a.eval o):=by
 obtain ⟨dst,op,ty,pos,af,g⟩:=o
 cases op <;> simp only [opS] at h <;> try (cases h;done)
 ·rename_i x
  simp only [Option.some.injEq,Prod.mk.injEq] at h
  obtain ⟨rfl,rfl⟩:=h
  exact OpDid.pure hs (svOp_rel he x)
 ·rename_i x
  simp only [Option.some.injEq,Prod.mk.injEq] at h
  obtain ⟨rfl,rfl⟩:=h
  exact OpDid.pure hs (svOp_rel he x)
 ·rename_i c x y
  obtain ⟨hw,rfl⟩:=withS_some h
  obtain ⟨b,h1,h2⟩:=pkS_ok (svOp_rel he c) (svOp_rel he x) (svOp_rel he y) hw
  refine ⟨_,w,ρ,.inl ?_,h2,Step.refl hs⟩
  simp [execOp,h1,asBool]
 ·exact OpDid.of (alS_ok h hs hf)
 ·rename_i T x
  exact OpDid.of (bxS_ok (svOp_rel he x) h hs hf)
 ·rename_i T ps
  obtain ⟨hw,rfl⟩:=withS_some h
  exact OpDid.of (Did.read hs (bdS_ok (parts:=ps.toList) he hw))
 ·rename_i T n ps
  exact OpDid.of (bsS_ok (parts:=ps.toList) he h hs hf)
 ·rename_i T x i v'
  exact OpDid.unit (muS_ok (svOp_rel he x) (svOp_rel he i) (svOp_rel he v') h hs hD)
 ·rename_i T x
  exact OpDid.of (ldS_ok (svOp_rel he x) h hs hD)
 ·rename_i T x v'
  exact OpDid.unit (stS_ok (svOp_rel he x) (svOp_rel he v') h hs hD)
 ·rename_i x
  obtain ⟨hw,rfl⟩:=withS_some h
  have hx:=svOp_rel he x
  obtain ⟨rfl,h1⟩:=ncS_ok hx hw
  refine ⟨a.eval x,w,ρ,.inl ?_,hx,Step.refl hs⟩
  rcases h1 with ⟨b,o,e⟩ | ⟨f,l,m,e⟩ | ⟨b,e⟩ <;> simp [execOp,e]
 ·rename_i op T x y yt
  obtain ⟨hw,rfl⟩:=withS_some h
  exact OpDid.of (Did.read hs (boS_ok (svOp_rel he x) (svOp_rel he y) hw))
 ·rename_i op T x
  obtain ⟨hw,rfl⟩:=withS_some h
  exact OpDid.of (Did.read hs (unS_ok (svOp_rel he x) hw))
 ·rename_i T T' x
  obtain ⟨hw,rfl⟩:=withS_some h
  exact OpDid.of (Did.read hs (cvS_ok (svOp_rel he x) hw))
 ·rename_i f xs ys
  split at h
  ·simp only [Option.some.injEq,Prod.mk.injEq] at h
   obtain ⟨rfl,rfl⟩:=h
   exact OpDid.of (Did.read hs (fn_ok (xs:=xs.toList) (ys:=ys.toList) he))
  ·cases h
 ·rename_i T r
  split at h
  ·exact OpDid.of (mmS_ok (r:=none) (env:=env) h hs hf)
  ·cases h
 ·rename_i T l c
  exact OpDid.of (mkS_ok (svOp_rel he l) (svOp_rel he c) h hs hf)
 ·rename_i T x lo hi mx
  exact OpDid.of (slS_ok he (svOp_rel he x) h hs hD)
 ·rename_i T x f
  obtain ⟨hw,rfl⟩:=withS_some h
  exact OpDid.of (Did.read hs (faS_ok (svOp_rel he x) hw))
 ·rename_i T x f
  obtain ⟨hw,rfl⟩:=withS_some h
  exact OpDid.of (Did.read hs (fdS_ok (svOp_rel he x) hw))
 ·rename_i T x i
  obtain ⟨hw,rfl⟩:=withS_some h
  exact OpDid.of (Did.read hs (iaS_ok (svOp_rel he x) (svOp_rel he i) hw))
 ·rename_i T x i
  obtain ⟨hw,rfl⟩:=withS_some h
  exact OpDid.of (Did.read hs (ixS_ok (svOp_rel he x) (svOp_rel he i) hw))
 ·rename_i T x i ok
  exact OpDid.of (lkS_ok (svOp_rel he x) (svOp_rel he i) h hs hD)
 ·rename_i T x i v'
  exact OpDid.unit (muS_ok (svOp_rel he x) (svOp_rel he i) (svOp_rel he v') h hs hD)
 ·rename_i T x i
  exact OpDid.of (meS_ok (svOp_rel he x) (svOp_rel he i) h hs hD)
 ·rename_i T x i v'
  exact OpDid.unit (esS_ok (svOp_rel he x) (svOp_rel he i) (svOp_rel he v') h hs hD)
 ·rename_i T x
  exact OpDid.of (rgS_ok (svOp_rel he x) h hs hD hf)
 ·rename_i x
  exact OpDid.of (enS_ok (svOp_rel he x) h hs hD)
 ·rename_i x i
  obtain ⟨hw,rfl⟩:=withS_some h
  exact OpDid.of (Did.read hs (exS_ok (svOp_rel he x) hw))
end
end Go.TX
