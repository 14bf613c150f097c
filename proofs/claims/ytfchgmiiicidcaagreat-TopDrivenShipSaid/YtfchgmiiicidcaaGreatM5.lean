/-
  What is proved here: where a propeller meets a need (no program in sight). Conditions: none; each theorem states its own.
-/
import Derived.Test.YtfchgmiiicidcaaGreatM4
import Derived.Test.YtfchgmiiicidcaaGreatM2
set_option linter.unusedVariables false
set_option linter.unusedSimpArgs false
namespace Go.Proofs.YtfchgmiiicidcaaGreat
open Go Go.TH
inductive MeR (A:List Int) (s:Nat→Int) (n:Nat):Bool→Int × Int→Prop
 | here (j:Nat):j<n→(∀ k,k<j→0<s k)→s j=0→MeR A s n true (A.getD j 0,1)
 | mid (j:Nat):j+1<n→(∀ k,k<j+1→0<s k)→s (j+1)<0→MeR A s n true (Ch.red (A.getD j 0 * -s (j+1)+A.getD (j+1) 0*s j) (s j + -s (j+1)))
 | high:(∀ k,k<n→0<s k)→MeR A s n false (0,0)
 | low:0<n→s 0<0→MeR A s n false (0,0)
def Dk (A:List Int) (s:Nat→Int) (k:Nat) (u v:Int):Int:=(A.getD (k+1) 0*v-u)*s k+(u-A.getD k 0*v)*s (k+1)
structure Mt (A:List Int) (s:Nat→Int) (n:Nat) (num den:Int):Prop where
 dp:0<den
 ins:∃ k,k+1<n∧A.getD k 0*den≤num∧num≤A.getD (k+1) 0*den
 pos:∀ k u v,k+1<n→0<v→A.getD k 0*v≤u→u≤A.getD (k+1) 0*v→(0<Dk A s k u v↔u*den<num*v)∧(Dk A s k u v<0↔num*v<u*den)
theorem seg_lo {p q sk sk1 x0 x1 d1 d2:Int} (hp:0≤p) (hq:0≤q) (hpq:0<p+q) (h1:p≤sk1) (h2:sk1<sk) (hx0:0≤x0) (hx1:0≤x1) (hx:0<x0+x1) (hd1:x1≤d1) (hd2:d1<d2) (hc:x1=0→p=0→(d1=0↔sk1=0)) :
 (0<x1*sk+x0*sk1↔0<q*d1+p*d2)∧0≤x1*sk+x0*sk1∧0≤q*d1+p*d2:=by
 have a1:=Int.mul_nonneg hx1 (show 0≤sk by omega)
 have a2:=Int.mul_nonneg hx0 (show 0≤sk1 by omega)
 have a3:=Int.mul_nonneg hq (show 0≤d1 by omega)
 have a4:=Int.mul_nonneg hp (show 0≤d2 by omega)
 refine ⟨?_,by omega,by omega⟩
 rcases Int.lt_or_le 0 p with c | c
 ·have b1:=Int.mul_pos c (show 0<d2 by omega)
  rcases Int.lt_or_le 0 x1 with e | e
  ·have:=Int.mul_pos e (show 0<sk by omega);omega
  ·have:=Int.mul_pos (show 0<x0 by omega) (show 0<sk1 by omega);omega
 ·obtain rfl:p=0:=by omega
  rcases Int.lt_or_le 0 x1 with e | e
  ·have b1:=Int.mul_pos e (show 0<sk by omega)
   have b2:=Int.mul_pos (show 0<q by omega) (show 0<d1 by omega)
   omega
  ·obtain rfl:x1=0:=by omega
   have hi:=hc rfl rfl
   rcases Int.lt_or_le 0 sk1 with f | f
   ·have b1:=Int.mul_pos (show 0<x0 by omega) f
    have b2:=Int.mul_pos (show 0<q by omega) (show 0<d1 by omega)
    omega
   ·have z1:sk1=0:=by omega
    have z2:=hi.2 z1
    rw [z1,z2];omega
section
variable {A:List Int} {s:Nat→Int} {n:Nat}
theorem dec_lt (hs:∀ k,k+1<n→s (k+1)<s k):∀ {i j:Nat},i<j→j<n→s j<s i
 | i,0,h,_=>by omega
 | i,j+1,h,hj=>by
  have h1:=hs j hj
  rcases Nat.lt_or_ge i j with g | g
  ·have:=dec_lt hs g (by omega);omega
  ·obtain rfl:i=j:=by omega
   exact h1
theorem inc_le (hA:∀ i j,i<j→j<n→A.getD i 0<A.getD j 0) {i j:Nat} (h:i≤j) (hj:j<n):A.getD i 0≤A.getD j 0:=by
 rcases Nat.lt_or_ge i j with g | g
 ·exact Int.le_of_lt (hA i j g hj)
 ·obtain rfl:i=j:=by omega
  exact Int.le_refl _
theorem dec_le (hs:∀ k,k+1<n→s (k+1)<s k) {i j:Nat} (h:i≤j) (hj:j<n):s j≤s i:=by
 rcases Nat.lt_or_ge i j with g | g
 ·exact Int.le_of_lt (dec_lt hs g hj)
 ·obtain rfl:i=j:=by omega
  exact Int.le_refl _
theorem mt_of (hA:∀ i j,i<j→j<n→A.getD i 0<A.getD j 0) (hs:∀ k,k+1<n→s (k+1)<s k) {a:Nat} (ha:a+1<n) (h0:0≤s a) (h1:s (a+1)≤0):Mt A s n (A.getD a 0 * -s (a+1)+A.getD (a+1) 0*s a) (s a + -s (a+1)):=by
 have hsa:=hs a ha
 have hAa:=hA a (a+1) (by omega) ha
 refine ⟨by omega,⟨a,ha,?_,?_⟩,fun k u v hk hv hu1 hu2=>?_⟩
 ·have:=Int.mul_le_mul_of_nonneg_right (Int.le_of_lt hAa) h0
  rw [Int.mul_add];omega
 ·have:=Int.mul_le_mul_of_nonneg_right (Int.le_of_lt hAa) (show 0 ≤ -s (a+1) by omega)
  rw [Int.mul_add];omega
 have hAk:=hA k (k+1) (by omega) hk
 have hsk:=hs k hk
 have hvk:=Int.mul_lt_mul_of_pos_right hAk hv
 have hva:=Int.mul_lt_mul_of_pos_right hAa hv
 have eE:(A.getD a 0 * -s (a+1)+A.getD (a+1) 0*s a)*v-u*(s a + -s (a+1)) = -s (a+1)*(A.getD a 0*v-u)+s a*(A.getD (a+1) 0*v-u):=by grind
 rcases Nat.lt_or_ge k a with g | g
 ·have m1:=Int.mul_le_mul_of_nonneg_right (inc_le hA (show k+1≤a by omega) (by omega)) (Int.le_of_lt hv)
  have hl:=seg_lo (p:=s a) (q := -s (a+1)) (sk:=s k) (sk1:=s (k+1)) (x0:=u-A.getD k 0*v) (x1:=A.getD (k+1) 0*v-u) (d1:=A.getD a 0*v-u) (d2:=A.getD (a+1) 0*v-u) h0 (by omega) (by omega) (dec_le hs (by omega) (by omega)) hsk (by omega) (by omega) (by omega) (by omega) (by omega) (fun c1 c2=>by
   rcases Nat.lt_or_ge (k+1) a with q | q
   ·have q1:=dec_lt hs q (by omega)
    have q2:=Int.mul_lt_mul_of_pos_right (hA _ _ q (by omega)) hv
    constructor
    ·intro;omega
    ·intro;omega
   ·obtain rfl:k+1=a:=by omega
    constructor
    ·intro;omega
    ·intro;omega)
  unfold Dk
  rw [← eE] at hl
  constructor
  ·constructor
   ·intro c;have:=hl.1.1 c;omega
   ·intro c;exact hl.1.2 (by omega)
  ·constructor
   ·intro c;omega
   ·intro c;omega
 ·rcases Nat.lt_or_ge a k with c | c
  ·have m1:=Int.mul_le_mul_of_nonneg_right (inc_le hA (show a+1≤k by omega) (by omega)) (Int.le_of_lt hv)
   have hl:=seg_lo (p := -s (a+1)) (q:=s a) (sk := -s (k+1)) (sk1 := -s k) (x0:=A.getD (k+1) 0*v-u) (x1:=u-A.getD k 0*v) (d1:=u-A.getD (a+1) 0*v) (d2:=u-A.getD a 0*v) (by omega) h0 (by omega) (by have:=dec_le hs (show a+1≤k by omega) (by omega);omega) (by omega) (by omega) (by omega) (by omega) (by omega) (by omega) (fun c1 c2=>by
    rcases Nat.lt_or_ge (a+1) k with q | q
    ·have q1:=dec_lt hs q (by omega)
     have q2:=Int.mul_lt_mul_of_pos_right (hA _ _ q (by omega)) hv
     constructor
     ·intro;omega
     ·intro;omega
    ·obtain rfl:a+1=k:=by omega
     constructor
     ·intro;omega
     ·intro;omega)
   have eD:(u-A.getD k 0*v) * -s (k+1)+(A.getD (k+1) 0*v-u) * -s k = -Dk A s k u v:=by unfold Dk;grind
   have e2:s a*(u-A.getD (a+1) 0*v) + -s (a+1)*(u-A.getD a 0*v) = -((A.getD a 0 * -s (a+1)+A.getD (a+1) 0*s a)*v-u*(s a + -s (a+1))):=by grind
   rw [eD,e2] at hl
   constructor
   ·constructor
    ·intro c;omega
    ·intro c;omega
   ·constructor
    ·intro c;have:=hl.1.1 (by omega);omega
    ·intro c;have:=hl.1.2 (by omega);omega
  ·obtain rfl:k=a:=by omega
   have eD:Dk A s k u v=(A.getD k 0 * -s (k+1)+A.getD (k+1) 0*s k)*v-u*(s k + -s (k+1)):=by unfold Dk;grind
   rw [eD]
   constructor
   ·constructor
    ·intro c;omega
    ·intro c;omega
   ·constructor
    ·intro c;omega
    ·intro c;omega
theorem red_one (x:Int):Ch.red x 1=(x,1):=by
 unfold Ch.red
 have:Ch.gcd2 (Ch.ab x) 1=1:=by unfold Ch.gcd2;simp
 rw [this];simp
theorem red_at {x d:Int} (hd:0<d):Ch.red (x*d) d=(x,1):=by
 rw [← red_one x,← red_mul (k:=d) hd (show (0:Int)<1 by omega),Int.mul_comm x d,Int.mul_one]
theorem MeR.mt (hn:2≤n) (hA:∀ i j,i<j→j<n→A.getD i 0<A.getD j 0) (hs:∀ k,k+1<n→s (k+1)<s k) {x:Int × Int} (h:MeR A s n true x):∃ num den,x=Ch.red num den∧Mt A s n num den:=by
 cases h with
 | here j hj hp h0 =>
  rcases Nat.eq_zero_or_pos j with g | g
  ·subst g
   have h1:=hs 0 (by omega)
   refine ⟨_,_,?_,mt_of hA hs (a:=0) (by omega) (by omega) (by omega)⟩
   rw [h0,Int.mul_zero,Int.add_zero,Int.zero_add,red_at (by omega)]
  ·obtain ⟨a,rfl⟩:∃ a,j=a+1:=⟨j-1,by omega⟩
   have h1:=hp a (by omega)
   refine ⟨_,_,?_,mt_of hA hs (a:=a) (by omega) (by omega) (by omega)⟩
   rw [h0,Int.neg_zero,Int.mul_zero,Int.add_zero,Int.zero_add,red_at (by omega)]
 | mid j hj hp h0=>exact ⟨_,_,rfl,mt_of hA hs (a:=j) hj (Int.le_of_lt (hp j (by omega))) (by omega)⟩
theorem MeR.ends (hs:∀ k,k+1<n→s (k+1)<s k) {x:Int × Int} (h:MeR A s n true x):0≤s 0∧s (n-1)≤0:=by
 cases h with
 | here j hj hp h0 =>
  refine ⟨?_,?_⟩
  ·rcases Nat.eq_zero_or_pos j with g | g
   ·subst g;omega
   ·exact Int.le_of_lt (hp 0 g)
  ·have:=dec_le hs (show j≤n-1 by omega) (by omega);omega
 | mid j hj hp h0 =>
  refine ⟨Int.le_of_lt (hp 0 (by omega)),?_⟩
  have:=dec_le hs (show j+1≤n-1 by omega) (by omega);omega
theorem MeR.yes {b:Bool} {x:Int × Int} (h:MeR A s n b x) (hn:0<n) (h0:0≤s 0) (h1:s (n-1)≤0):b=true:=by
 cases h with
 | here=>rfl
 | mid=>rfl
 | high hp=>have:=hp (n-1) (by omega);omega
 | low _ g=>omega
end
theorem Dk_mono {A:List Int} {s s':Nat→Int} {k:Nat} {u v:Int} (h0:s k≤s' k) (h1:s (k+1)≤s' (k+1)) (hu:A.getD k 0*v≤u) (hv:u≤A.getD (k+1) 0*v):Dk A s k u v≤Dk A s' k u v:=by
 have a1:=Int.mul_le_mul_of_nonneg_left h0 (show 0≤A.getD (k+1) 0*v-u by omega)
 have a2:=Int.mul_le_mul_of_nonneg_left h1 (show 0≤u-A.getD k 0*v by omega)
 unfold Dk;omega
theorem mt_mono {A:List Int} {s s':Nat→Int} {n:Nat} {a b c d:Int} (h:∀ k,k<n→s k≤s' k) (m:Mt A s n a b) (m':Mt A s' n c d):a*d≤c*b:=by
 obtain ⟨k,hk,k1,k2⟩:=m.ins
 have p1:=(m.pos k a b hk m.dp k1 k2).2
 have p2:=(m'.pos k a b hk m.dp k1 k2).2
 have hd:=Dk_mono (h k (by omega)) (h (k+1) hk) k1 k2
 rcases Int.lt_or_le (c*b) (a*d) with g | g
 ·have q:=p2.2 g
  have:=p1.1 (by omega)
  omega
 ·exact g
theorem red_lt {n d m e:Int} (hd:0<d) (he:0<e):(Ch.red n d).1*(Ch.red m e).2<(Ch.red m e).1*(Ch.red n d).2↔n*e<m*d:=by
 obtain ⟨g,hg,g1,g2⟩:=red_pt n hd
 obtain ⟨k,hk,k1,k2⟩:=red_pt m he
 generalize (Ch.red n d).1=a at *
 generalize (Ch.red n d).2=b at *
 generalize (Ch.red m e).1=u at *
 generalize (Ch.red m e).2=v at *
 have e1:n*e=a*v*(g*k):=by rw [← g1,← k2];grind
 have e2:m*d=u*b*(g*k):=by rw [← k1,← g2];grind
 rw [e1,e2]
 exact (Int.mul_lt_mul_right (Int.mul_pos hg hk)).symm
def abv (P A:List Int) (T:Nat→Nat→Int) (x base slope:Int) (k:Nat):Int:=Ch.fr1 P x*T (Ch.nbI P x) k+Ch.fr0 P x*T (Ch.nbI P x+1) k-(Ch.fr1 P x+Ch.fr0 P x)*(base+slope*A.getD k 0)
theorem abv_dec {P A:List Int} {R:Ch.Rws} {T:Nat→Nat→Int} {x base slope:Int} (hc:Ch.OkC P A R) (hx:Ch.On P x) (hs:1≤slope) (hT:∀ i,i<P.length→∀ k,k+1<A.length→T i (k+1)≤T i k):∀ k,k+1<A.length→abv P A T x base slope (k+1)<abv P A T x base slope k:=fun k hk=>by
 have hf:=Ch.fr_bd hc.up hc.np.1 hx
 have hb:=Ch.on_bd hc.up hc.np.1 hx
 have h1:=Int.mul_le_mul_of_nonneg_left (hT _ (show Ch.nbI P x<P.length by omega) k hk) hf.1.1
 have h2:=Int.mul_le_mul_of_nonneg_left (hT _ hb.1 k hk) hf.2.1.1
 have h3:=hc.ua.1.lt (show k<k+1 by omega) hk
 have h4:=Int.mul_lt_mul_of_pos_left h3 (show 0<slope by omega)
 have h5:=Int.mul_lt_mul_of_pos_left (show base+slope*A.getD k 0<base+slope*A.getD (k+1) 0 by omega) hf.2.2
 unfold abv
 omega
end Go.Proofs.YtfchgmiiicidcaaGreat
namespace Go.Proofs.YtfchgmiiicidcaaGreat
open Go Go.TH
attribute [local irreducible] W WO pt
set_option maxRecDepth 10000
set_option maxHeartbeats 2000000
def OkN (base slope:Int):Prop:=(0≤base∧base≤100000)∧1≤slope∧slope≤1000
theorem one_in {x t:Int} (h:0≤x∧x≤t):∀ y∈[x],0≤y∧y≤t:=fun y hy=>by obtain rfl:=List.mem_singleton.1 hy;exact h
theorem c_checkNeed (w:World) (vp va o:Value) (P A:List Int) (R:Ch.Rws) (x base slope:Int) (hc:Ch.OkC P A R) (hx:Ch.On P x) (hn:OkN base slope) (ho:o.oneCell'=true) (hP:RdF encI 1 w.heap.size w vp P) (hA:RdF encI 1 w.heap.size w va A):Ret Tryz.prog 59 [.agg #[vp,va,o],.int .i64 x,.agg #[.int .i64 base,.int .i64 slope]].toArray w (.int .i64 0):=by
 refine Ret.of mixed tyTab Tryz.func59 rfl rfl ?_
 replace hP:RdF encI 1 (fnCx mixed tyTab Tryz.f59.ntmps w).B (fnCx mixed tyTab Tryz.f59.ntmps w).w0 vp P:=hP
 replace hA:RdF encI 1 (fnCx mixed tyTab Tryz.f59.ntmps w).B (fnCx mixed tyTab Tryz.f59.ntmps w).w0 va A:=hA
 have hop:=hP.sl.oc
 have hoa:=hA.sl.oc
 have hnp:=hc.np
 unfold OkN at hn
 refine W.sreg (WO.boxA rfl rfl (fun b1 hb1=>(WO.boxA rfl rfl (fun b2 hb2=>(WO.p rfl rfl (WO.nil (W.seq (W.sreg (WO.field0 rfl rfl rfl (WO.load rfl rfl (Cell.own Pick.head rfl) rfl (WO.buildSl rfl rfl rfl rfl rfl rfl rfl rfl rfl (fun v3=>(WO.callR (r:=.bool true) rfl Tryz.call120 (fun L w hi=>by have h:=Ch.c_within w _ [base] 100000 (RdF.of_ow (e:=2) encI_ok (by repeat exact .head) hi);rw [bl_t.2 (one_in (by omega))] at h;exact h) rfl ?_)))))))))))))
 refine WO.p rfl rfl (WO.p rfl rfl (WO.go' rfl (WO.fieldL rfl rfl rfl (WO.go' rfl (WO.load rfl rfl (Cell.own (Pick.tail (Pick.head)) rfl) rfl (WO.go' rfl (WO.ar rfl rfl rfl (by unfold in64;omega) rfl (WO.go' rfl (WO.buildSl rfl rfl rfl rfl rfl rfl rfl rfl rfl (fun v4=>(WO.go' rfl (WO.callR (r:=.bool true) rfl Tryz.call120 (fun L w hi=>by have h:=Ch.c_within w _ [slope-1] 999 (RdF.of_ow (e:=2) encI_ok (by repeat exact .head) hi);rw [bl_t.2 (one_in (by omega))] at h;exact h) rfl (WO.pg rfl rfl rfl (WO.p rfl rfl (WO.nil (W.cond_f rfl (W.skip (W.seq (W.sreg ?_)))))))))))))))))))
 refine WO.field0 rfl rfl rfl (WO.field0 rfl rfl rfl (WO.load rfl rfl (Cell.own (Pick.tail (Pick.tail (Pick.tail (Pick.head)))) rfl) rfl (WO.p rfl rfl (WO.callR (r:=.tuple #[.int .i64 (Ch.nbI P x:Int),.bool true]) rfl Tryz.call121 (fun L w hi=>by have h:=Ch.c_neighbour w vp P x hc.up.1 (by omega) (by omega) (hP.later hi);rw [bl_t.2 hx] at h;exact h) rfl (WO.p rfl rfl (WO.p rfl rfl (WO.p rfl rfl (WO.p rfl rfl (WO.p rfl rfl (WO.nil (W.sreg (WO.p rfl rfl (WO.p rfl rfl (WO.nil (W.cond_f rfl (W.skip (W.sreg (WO.p rfl rfl (WO.nil (W.ret ?_))))))))))))))))))))
 exact fin.ret (Res.one rfl (RV.tmp rfl)) rfl
def mkL (g:Nat→Int) (k n:Nat):List Int:=(List.range k).map g++List.replicate (n-k) 0
theorem mkL_0 (g:Nat→Int) (n:Nat):List.replicate n 0=mkL g 0 n:=by simp [mkL]
theorem mkL_len {g:Nat→Int} {k n:Nat} (h:k≤n):(mkL g k n).length=n:=by simp [mkL];omega
theorem mkL_n (g:Nat→Int) (n:Nat):mkL g n n=(List.range n).map g:=by simp [mkL]
theorem mkL_set {g:Nat→Int} {k n:Nat} (h:k<n):(mkL g k n).set k (g k)=mkL g (k+1) n:=by
 unfold mkL
 obtain ⟨m,hm⟩:∃ m,n-k=m+1:=⟨n-k-1,by omega⟩
 rw [List.set_append_right _ _ (by simp),hm,show n-(k+1)=m by omega,List.replicate_succ,List.range_succ,List.map_append]
 simp
theorem ran_get {g:Nat→Int} {k n:Nat} (h:k<n):((List.range n).map g).getD k 0=g k:=by
 rw [List.getD_eq_getElem?_getD,List.getElem?_map,List.getElem?_range h];rfl
theorem Lcell {C:Cx Tryz.prog} {H:List HP} {v:Value} {g:Nat→Int} {n k j:Nat} (s:Sub H [OwE encI 2 1 v ((List.range n).map g)]) (hk:k<n) (hj:j=k):Cell C H (elt v j 1) (.int .i64 (g k)):=by
 subst hj
 cases s with
 | cons p _=>rw [← ran_get (g:=g) hk];exact OwE.cell0 encI_ok p (by simp;exact hk) 0 rfl
theorem abv_bd {P A:List Int} {R:Ch.Rws} {T:Nat→Nat→Int} {x base slope:Int} {k:Nat} (hc:Ch.OkC P A R) (hx:Ch.On P x) (hn:OkN base slope) (hT:∀ i k,i<P.length→k<A.length→0≤T i k∧T i k≤100000) (hk:k<A.length) :
 (0≤Ch.fr1 P x*T (Ch.nbI P x) k∧Ch.fr1 P x*T (Ch.nbI P x) k≤200000000)∧(0≤Ch.fr0 P x*T (Ch.nbI P x+1) k∧Ch.fr0 P x*T (Ch.nbI P x+1) k≤200000000)∧(0≤slope*A.getD k 0∧slope*A.getD k 0≤2000000)∧(0≤(Ch.fr1 P x+Ch.fr0 P x)*(base+slope*A.getD k 0)∧(Ch.fr1 P x+Ch.fr0 P x)*(base+slope*A.getD k 0)≤4200000000):=by
 have hf:=Ch.fr_bd hc.up hc.np.1 hx
 have hb:=Ch.on_bd hc.up hc.np.1 hx
 have hA:=hc.ua.2 _ (getD_mem hk 0)
 have q1:Ch.fr1 P x+Ch.fr0 P x≤2000:=by unfold Ch.fr1 Ch.fr0;omega
 unfold OkN at hn
 have m0:=Int.mul_nonneg (show 0≤slope by omega) hA.1
 have m1:=Int.mul_le_mul hn.2.2 hA.2 hA.1 (by omega)
 have t1:=hT _ k (show Ch.nbI P x<P.length by omega) hk
 have t2:=hT _ k hb.1 hk
 have m2:=Int.mul_nonneg hf.1.1 t1.1
 have m3:=Int.mul_le_mul hf.1.2 t1.2 t1.1 (by omega)
 have m4:=Int.mul_nonneg hf.2.1.1 t2.1
 have m5:=Int.mul_le_mul hf.2.1.2 t2.2 t2.1 (by omega)
 have m6:=Int.mul_nonneg (Int.le_of_lt hf.2.2) (show 0≤base+slope*A.getD k 0 by omega)
 have m7:=Int.mul_le_mul q1 (show base+slope*A.getD k 0≤2100000 by omega) (by omega) (by omega)
 omega
theorem mid_bd {a b p q:Int} (ha:0≤a∧a≤2000) (hb:0≤b∧b≤2000) (hp:0<p∧p≤5000000000) (hq:0<q∧q≤5000000000):(0≤a*q∧a*q≤10000000000000)∧(0≤b*p∧b*p≤10000000000000):=by
 have m0:=Int.mul_nonneg ha.1 (show 0≤q by omega)
 have m1:=Int.mul_le_mul ha.2 hq.2 (by omega) (by omega)
 have m2:=Int.mul_nonneg hb.1 (show 0≤p by omega)
 have m3:=Int.mul_le_mul hb.2 hp.2 (by omega) (by omega)
 omega
theorem c_meet (w:World) (vp va o u:Value) (tv:List Value) (P A:List Int) (R:Ch.Rws) (T:List (List Int)) (x base slope:Int) (hc:Ch.OkC P A R) (hx:Ch.On P x) (hn:OkN base slope) (ho:o.oneCell'=true) (hl:T.length=P.length) (hr:∀ i,i<T.length→(T.getD i []).length=A.length) (hb:∀ i k,i<P.length→k<A.length→0≤Ch.tAt T i k∧Ch.tAt T i k≤100000) (hP:RdF encI 1 w.heap.size w vp P) (hA:RdF encI 1 w.heap.size w va A) (hT:RdR encI 1 w.heap.size w u tv T):RetE Tryz.prog 60 [.agg #[vp,va,o],u,.int .i64 x,.agg #[.int .i64 base,.int .i64 slope]].toArray w (fun r=>∃ (b:Bool) (z:Int × Int),r=.tuple #[Ch.raV z,.bool b]∧MeR A (abv P A (Ch.tAt T) x base slope) A.length b z):=by
 refine RetE.of mixed tyTab Tryz.func60 rfl rfl ?_
 replace hT:RdR encI 1 (fnCx mixed tyTab Tryz.f60.ntmps w).B (fnCx mixed tyTab Tryz.f60.ntmps w).w0 u tv T:=hT
 replace hP:RdF encI 1 (fnCx mixed tyTab Tryz.f60.ntmps w).B (fnCx mixed tyTab Tryz.f60.ntmps w).w0 vp P:=hP
 replace hA:RdF encI 1 (fnCx mixed tyTab Tryz.f60.ntmps w).B (fnCx mixed tyTab Tryz.f60.ntmps w).w0 va A:=hA
 have hop:=hP.sl.oc
 have hoa:=hA.sl.oc
 have hnp:=hc.np
 have hna:=hc.na
 have hfx:=Ch.fr_bd hc.up hnp.1 hx
 have hbp:=Ch.on_bd hc.up hnp.1 hx
 have hn2:=hn
 unfold OkN at hn2
 refine W.sreg (WO.boxA rfl rfl (fun b1 hb1=>(WO.boxA rfl rfl (fun b2 hb2=>(WO.alloc rfl rfl rfl (fun b3 hb3=>(WO.p rfl rfl (WO.nil (W.scope (W.sreg (WO.field0 rfl rfl rfl (WO.field0 rfl rfl rfl (WO.load rfl rfl (Cell.own (Pick.tail (Pick.tail (Pick.head))) rfl) rfl (WO.p rfl rfl (WO.callR (r:=.tuple #[.int .i64 (Ch.nbI P x:Int),.bool true]) rfl Tryz.call121 (fun L w hi=>by have h:=Ch.c_neighbour w vp P x hc.up.1 (by omega) (by omega) (hP.later hi);rw [bl_t.2 hx] at h;exact h) rfl (WO.p rfl rfl (WO.p rfl rfl (WO.p rfl rfl (WO.p rfl rfl (WO.p rfl rfl (WO.nil (W.seq ?_))))))))))))))))))))))
 refine W.drawD 18 [.r 0 [],.r 1 [],.b 2 [],.r 3 [],.r 4 [],.r 5 [],.b 6 [],.r 7 [],.r 8 [],.r 9 [],.r 10 [],.r 11 [],.b 12 [],.r 13 [],.r 14 [],.b 15 [],.r 16 [],.r 17 []] [] (A0:=[]) (Sub.refl _) (by kernel_rfl) ?_ ?_
 ·repeat constructor
 refine DT.r rfl rfl rfl (WO.field0 rfl rfl rfl (WO.nil ⟨rfl,rfl⟩)) (DT.r rfl rfl rfl (WO.field0 rfl rfl rfl (WO.nil ⟨rfl,rfl⟩)) (DT.b rfl rfl rfl (WO.load rfl rfl (Cell.own (Pick.tail (Pick.tail (Pick.head))) rfl) rfl (WO.nil ⟨rfl,rfl⟩)) (DT.r rfl rfl rfl (WO.p rfl rfl (WO.nil ⟨rfl,rfl⟩)) (DT.r rfl rfl rfl (WO.ar rfl rfl rfl (by unfold in64;omega) rfl (WO.nil ⟨rfl,rfl⟩)) ?_))))
 refine' DT.r rfl rfl rfl ?hq ?_
 case hq =>
  refine' WO.indexAddrZ (n:=_) rfl rfl rfl ?hs ?h00 ?h1 rfl ?_
  case hs=>exact hP.sl
  case h00=>omega
  case h1=>(omega)
  exact WO.nil ⟨rfl,rfl⟩
 refine' DT.b rfl rfl rfl ?hq ?_
 case hq =>
  refine' WO.load (v:=_) rfl rfl ?hc rfl ?_
  case hc=>(first | (refine hP.cell0 (i:=Ch.nbI P x+1) ?_ 0 ?_ <;> first | rfl | omega))
  exact WO.nil ⟨rfl,rfl⟩
 refine DT.r rfl rfl rfl (WO.p rfl rfl (WO.nil ⟨rfl,rfl⟩)) (DT.r rfl rfl rfl (WO.ar rfl rfl rfl (by unfold in64;omega) rfl (WO.nil ⟨rfl,rfl⟩)) (DT.r rfl rfl rfl (WO.p rfl rfl (WO.nil ⟨rfl,rfl⟩)) (DT.r rfl rfl rfl (WO.field0 rfl rfl rfl (WO.nil ⟨rfl,rfl⟩)) (DT.r rfl rfl rfl (WO.field0 rfl rfl rfl (WO.nil ⟨rfl,rfl⟩)) (DT.b rfl rfl rfl (WO.load rfl rfl (Cell.own (Pick.tail (Pick.tail (Pick.head))) rfl) rfl (WO.nil ⟨rfl,rfl⟩)) (DT.r rfl rfl rfl (WO.p rfl rfl (WO.nil ⟨rfl,rfl⟩)) (DT.r rfl rfl rfl (WO.indexAddr rfl rfl rfl hP.sl (by omega) rfl (WO.nil ⟨rfl,rfl⟩)) ?_)))))))
 refine' DT.b rfl rfl rfl ?hq ?_
 case hq =>
  refine' WO.load (v:=_) rfl rfl ?hc rfl ?_
  case hc=>(first | (refine hP.cell0 (i:=Ch.nbI P x) ?_ 0 ?_ <;> first | rfl | omega))
  exact WO.nil ⟨rfl,rfl⟩
 refine DT.r rfl rfl rfl (WO.ar rfl rfl rfl (by unfold in64;omega) rfl (WO.nil ⟨rfl,rfl⟩)) (DT.r rfl rfl rfl (WO.p rfl rfl (WO.nil ⟨rfl,rfl⟩)) (DT.nil [_,_,_] rfl (WO.p rfl rfl (WO.nil (W.sreg (WO.p rfl rfl (WO.p rfl rfl (WO.ar rfl rfl rfl (by unfold in64;omega) rfl (WO.p rfl rfl (WO.nil (W.sreg (WO.field0 rfl rfl rfl (WO.fieldL rfl rfl rfl (WO.load rfl rfl (Cell.own (Pick.tail (Pick.tail (Pick.head))) rfl) rfl (WO.len rfl rfl hA.sl rfl (WO.makeI rfl rfl rfl rfl (by omega) (by omega) rfl (fun lb=>?_)))))))))))))))))
 rw [mkL_0 (abv P A (Ch.tAt T) x base slope)]
 have hlb:IsSl (.slice (some ⟨lb,0,none⟩) A.length A.length) A.length:=isSl_lit (by omega) (fun _=>⟨_,_,rfl⟩)
 refine WO.p rfl rfl (WO.nil (W.seq (W.sreg (WO.field0 rfl rfl rfl (WO.fieldL rfl rfl rfl (WO.load rfl rfl (Cell.own (Pick.tail (Pick.tail (Pick.tail (Pick.head)))) rfl) rfl (WO.len rfl rfl hA.sl rfl (WO.p rfl rfl (WO.nil (W.block ?_))))))))))
 refine W.loop (fun (k:Nat)=>k≤A.length)
  (fun (k:Nat)=>[(60,.int .i64 (k:Int)),(59,.int .i64 (A.length:Int)),(58,va),(15,.slice (some ⟨lb,0,none⟩) A.length A.length),(14,.int .i64 (Ch.fr1 P x+Ch.fr0 P x)),(13,.int .i64 (Ch.fr0 P x)),(12,.int .i64 (Ch.fr1 P x)),(10,.int .i64 (Ch.nbI P x:Int)),(9,.bool false),(8,.pointer (some ⟨b3,0,none⟩)),(7,.pointer (some ⟨b2,0,none⟩)),(4,.pointer (some ⟨b1,0,none⟩)),(1,u)])
  (fun (k:Nat)=>[pt b1 (.cells #[vp,va,o] 94 (0,0)),pt b2 (.cells #[.int .i64 base,.int .i64 slope] 71 (0,0)),pt b3 (.cells #[.int .i64 0,.int .i64 0] 38 (0,0)),OwE encI 2 1 (.slice (some ⟨lb,0,none⟩) A.length A.length) (mkL (abv P A (Ch.tAt T) x base slope) k A.length)])
  (fun (k:Nat)=>A.length-k) 0
  (by omega) ⟨rfl,rfl,rfl,rfl,rfl,rfl,rfl,rfl,rfl,rfl,rfl,rfl,rfl,trivial⟩ (by repeat (first | exact Sub.nil | refine Sub.cons (by repeat first | exact .head | apply Pick.tail) ?_)) ?_
 rintro k hk0
 refine W.sreg (WO.p rfl rfl (WO.nil (W.seq ?_)))
 refine W.cond_bl rfl (fun c1=>?_) (fun c1=>?_)
 ·refine W.skip (W.seq (W.block (W.sreg (WO.p rfl rfl (WO.indexAddr rfl rfl rfl hA.sl (by omega) rfl ?_)))))
  refine' WO.load (v:=_) rfl rfl ?hc rfl ?_
  case hc=>(first | (refine hA.cell0 (i:=k) ?_ 0 ?_ <;> first | rfl | omega))
  refine WO.p rfl rfl (WO.p rfl rfl (WO.nil ?_))
  have hbd:=abv_bd (k:=k) hc hx hn hb (by omega)
  unfold Ch.tAt at hbd
  have hr1:=hr (Ch.nbI P x) (by omega)
  have hr2:=hr (Ch.nbI P x+1) (by omega)
  refine W.drawD 32 [.r 0 [],.r 1 [],.r 2 [],.r 3 [],.r 4 [],.r 5 [],.b 6 [],.r 7 [],.r 8 [],.b 9 [],.r 10 [],.r 11 [],.r 12 [],.r 13 [],.r 14 [],.r 15 [],.b 16 [],.r 17 [],.r 18 [],.b 19 [],.r 20 [],.r 21 [],.r 22 [],.r 23 [],.b 24 [],.r 25 [],.b 26 [],.r 27 [],.r 28 [],.r 29 [],.r 30 [],.r 31 []] [] (A0:=[_]) (H0:=[_,_,_]) (.cons (Pick.tail (Pick.tail (Pick.tail .head))) (.cons .head (.cons .head (.cons .head .nil)))) (by kernel_rfl) ?_ ?_
  ·repeat constructor
  refine DT.r rfl rfl rfl (WO.p rfl rfl (WO.nil ⟨rfl,rfl⟩)) (DT.r rfl rfl rfl (WO.p rfl rfl (WO.nil ⟨rfl,rfl⟩)) (DT.r rfl rfl rfl (WO.p rfl rfl (WO.nil ⟨rfl,rfl⟩)) (DT.r rfl rfl rfl (WO.p rfl rfl (WO.nil ⟨rfl,rfl⟩)) (DT.r rfl rfl rfl (WO.p rfl rfl (WO.nil ⟨rfl,rfl⟩)) (DT.r rfl rfl rfl (WO.indexAddr rfl rfl rfl hT.sl (by omega) rfl (WO.nil ⟨rfl,rfl⟩)) ?_)))))
  refine' DT.b rfl rfl rfl ?hq ?_
  case hq =>
   refine' WO.load (v:=_) rfl rfl ?hc rfl ?_
   case hc=>((refine hT.cellV (i:=Ch.nbI P x) ?_;omega))
   exact WO.nil ⟨rfl,rfl⟩
  refine DT.r rfl rfl rfl (WO.p rfl rfl (WO.nil ⟨rfl,rfl⟩)) ?_
  refine' DT.r rfl rfl rfl ?hq ?_
  case hq =>
   refine' WO.indexAddr (n:=_) (i:=_) rfl rfl rfl ?hs ?h1 rfl ?_
   case hs=>((refine (hT.row _ ?_).sl;omega))
   case h1=>(omega)
   exact WO.nil ⟨rfl,rfl⟩
  refine' DT.b rfl rfl rfl ?hq ?_
  case hq =>
   refine' WO.load (v:=_) rfl rfl ?hc rfl ?_
   case hc=>(first | (refine (hT.row (Ch.nbI P x) ?_).cell0 (i:=k) ?_ 0 ?_ <;> first | rfl | omega))
   exact WO.nil ⟨rfl,rfl⟩
  refine DT.r rfl rfl rfl (WO.ar rfl rfl rfl (by unfold in64;omega) rfl (WO.nil ⟨rfl,rfl⟩)) (DT.r rfl rfl rfl (WO.p rfl rfl (WO.nil ⟨rfl,rfl⟩)) (DT.r rfl rfl rfl (WO.p rfl rfl (WO.nil ⟨rfl,rfl⟩)) (DT.r rfl rfl rfl (WO.p rfl rfl (WO.nil ⟨rfl,rfl⟩)) (DT.r rfl rfl rfl (WO.ar rfl rfl rfl (by unfold in64;omega) rfl (WO.nil ⟨rfl,rfl⟩)) ?_))))
  refine' DT.r rfl rfl rfl ?hq ?_
  case hq =>
   refine' WO.indexAddrZ (n:=_) rfl rfl rfl ?hs ?h00 ?h1 rfl ?_
   case hs=>exact hT.sl
   case h00=>omega
   case h1=>(omega)
   exact WO.nil ⟨rfl,rfl⟩
  refine' DT.b rfl rfl rfl ?hq ?_
  case hq =>
   refine' WO.load (v:=_) rfl rfl ?hc rfl ?_
   case hc=>((refine hT.cellV (i:=Ch.nbI P x+1) ?_;omega))
   exact WO.nil ⟨rfl,rfl⟩
  refine DT.r rfl rfl rfl (WO.p rfl rfl (WO.nil ⟨rfl,rfl⟩)) ?_
  refine' DT.r rfl rfl rfl ?hq ?_
  case hq =>
   refine' WO.indexAddr (n:=_) (i:=_) rfl rfl rfl ?hs ?h1 rfl ?_
   case hs=>((refine (hT.row _ ?_).sl;omega))
   case h1=>(omega)
   exact WO.nil ⟨rfl,rfl⟩
  refine' DT.b rfl rfl rfl ?hq ?_
  case hq =>
   refine' WO.load (v:=_) rfl rfl ?hc rfl ?_
   case hc=>(first | (refine (hT.row (Ch.nbI P x+1) ?_).cell0 (i:=k) ?_ 0 ?_ <;> first | rfl | omega))
   exact WO.nil ⟨rfl,rfl⟩
  refine DT.r rfl rfl rfl (WO.ar rfl rfl rfl (by unfold in64;omega) rfl (WO.nil ⟨rfl,rfl⟩)) (DT.r rfl rfl rfl (WO.ar rfl rfl rfl (by unfold in64;omega) rfl (WO.nil ⟨rfl,rfl⟩)) (DT.r rfl rfl rfl (WO.p rfl rfl (WO.nil ⟨rfl,rfl⟩)) (DT.r rfl rfl rfl (WO.field0 rfl rfl rfl (WO.nil ⟨rfl,rfl⟩)) (DT.b rfl rfl rfl (WO.load rfl rfl (Cell.own (Pick.tail (Pick.head)) rfl) rfl (WO.nil ⟨rfl,rfl⟩)) (DT.r rfl rfl rfl (WO.fieldL rfl rfl rfl (WO.nil ⟨rfl,rfl⟩)) (DT.b rfl rfl rfl (WO.load rfl rfl (Cell.own (Pick.tail (Pick.head)) rfl) rfl (WO.nil ⟨rfl,rfl⟩)) (DT.r rfl rfl rfl (WO.p rfl rfl (WO.nil ⟨rfl,rfl⟩)) ?_)))))))
  refine DT.r rfl rfl rfl (WO.ar rfl rfl rfl (by unfold in64;omega) rfl (WO.nil ⟨rfl,rfl⟩)) (DT.r rfl rfl rfl (WO.ar rfl rfl rfl (by unfold in64;omega) rfl (WO.nil ⟨rfl,rfl⟩)) (DT.r rfl rfl rfl (WO.ar rfl rfl rfl (by unfold in64;omega) rfl (WO.nil ⟨rfl,rfl⟩)) (DT.r rfl rfl rfl (WO.ar rfl rfl rfl (by unfold in64;omega) rfl (WO.nil ⟨rfl,rfl⟩)) (DT.nil [_,_,_,_] rfl (WO.indexAddr rfl rfl rfl hlb (by omega) rfl (WO.storeE (n:=abv P A (Ch.tAt T) x base slope k) encI_ok rfl rfl rfl rfl (by repeat exact .head) (by rw [mkL_len (by omega)];omega) ?_))))))
  rw [mkL_set (by omega)]
  refine WO.nil (W.region (WO.ar rfl rfl rfl (by unfold in64;omega) rfl (WO.p rfl rfl (WO.nil ?_))))
  refine' ⟨k+1,?hp,?hmu,⟨rfl,rfl,rfl,rfl,rfl,rfl,rfl,rfl,rfl,rfl,rfl,rfl,rfl,trivial⟩,?hS⟩
  case hS=>repeat (first | exact Sub.nil | refine Sub.cons (by repeat first | exact .head | apply Pick.tail) ?_)
  case hp=>omega
  case hmu=>omega
 ·refine W.exit (blk_same ?_)
  obtain rfl:k=A.length:=by omega
  rw [mkL_n]
  refine W.sreg (WO.p rfl rfl (WO.nil (W.seq (W.label (W.seq (W.sreg (WO.p rfl rfl (WO.len rfl rfl hlb rfl (WO.p rfl rfl (WO.nil (W.block ?_)))))))))))
  refine W.loop2 (fun (j:Nat) (a:Int)=>j≤A.length∧a=(j:Int)-1∧∀ i,i<j→0<abv P A (Ch.tAt T) x base slope i)
   (fun (j:Nat) (a:Int)=>[(101,.int .i64 (j:Int)),(100,.int .i64 (A.length:Int)),(18,.int .i64 a),(15,.slice (some ⟨lb,0,none⟩) A.length A.length),(14,.int .i64 (Ch.fr1 P x+Ch.fr0 P x)),(13,.int .i64 (Ch.fr0 P x)),(12,.int .i64 (Ch.fr1 P x)),(10,.int .i64 (Ch.nbI P x:Int)),(9,.bool false),(8,.pointer (some ⟨b3,0,none⟩)),(7,.pointer (some ⟨b2,0,none⟩)),(4,.pointer (some ⟨b1,0,none⟩)),(1,u)])
   (fun (j:Nat) (a:Int)=>[pt b1 (.cells #[vp,va,o] 94 (0,0)),pt b2 (.cells #[.int .i64 base,.int .i64 slope] 71 (0,0)),pt b3 (.cells #[.int .i64 0,.int .i64 0] 38 (0,0)),OwE encI 2 1 (.slice (some ⟨lb,0,none⟩) A.length A.length) ((List.range A.length).map (abv P A (Ch.tAt T) x base slope))])
   (fun (j:Nat) (a:Int)=>A.length-j) 0 (-1)
   (by exact ⟨by omega,by omega,fun i hi=>by omega⟩) ⟨rfl,rfl,rfl,rfl,rfl,rfl,rfl,rfl,rfl,rfl,rfl,rfl,rfl,trivial⟩ (by repeat (first | exact Sub.nil | refine Sub.cons (by repeat exact .head) ?_)) ?_
  rintro j a ⟨hj0,hja,hpos⟩
  refine W.sreg (WO.p rfl rfl (WO.nil (W.seq ?_)))
  refine W.cond_bl rfl (fun c2=>?_) (fun c2=>?_)
  ·refine W.skip (W.seq (W.block (W.sreg (WO.p rfl rfl (WO.p rfl rfl (WO.nil (W.block (W.sreg (WO.p rfl rfl (WO.p rfl rfl (WO.indexAddr rfl rfl rfl hlb (by omega) rfl ?_)))))))))))
   refine' WO.load (v:=_) rfl rfl ?hc rfl ?_
   case hc=>(first | (refine Lcell (n:=A.length) (k:=j) (g:=abv P A (Ch.tAt T) x base slope) ?_ (by omega) rfl;exact (by repeat (first | exact Sub.nil | refine Sub.cons (by repeat first | exact .head | apply Pick.tail) ?_))))
   refine WO.p rfl rfl (WO.p rfl rfl (WO.nil ?_))
   refine W.cond_bl rfl (fun c3=>?_) (fun c3=>?_)
   ·refine W.region (WO.p rfl rfl (WO.p rfl rfl (WO.nil (W.region (WO.ar rfl rfl rfl (by unfold in64;omega) rfl (WO.p rfl rfl (WO.nil ?_)))))))
    refine' ⟨j+1,_,?hp,?hmu,⟨rfl,rfl,rfl,rfl,rfl,rfl,rfl,rfl,rfl,rfl,rfl,rfl,rfl,trivial⟩,?hS⟩
    case hS=>repeat (first | exact Sub.nil | refine Sub.cons (by repeat exact .head) ?_)
    case hp=>exact ⟨by omega,by omega,fun i hi=>by rcases Nat.lt_or_ge i j with q | q;exact hpos i q;obtain rfl:i=j:=(by omega);assumption⟩
    case hmu=>omega
   ·refine W.sreg (WO.p rfl rfl (WO.p rfl rfl (WO.indexAddr rfl rfl rfl hlb (by omega) rfl ?_)))
    refine' WO.load (v:=_) rfl rfl ?hc rfl ?_
    case hc=>(first | (refine Lcell (n:=A.length) (k:=j) (g:=abv P A (Ch.tAt T) x base slope) ?_ (by omega) rfl;exact (by repeat (first | exact Sub.nil | refine Sub.cons (by repeat first | exact .head | apply Pick.tail) ?_))))
    refine WO.p rfl rfl (WO.p rfl rfl (WO.nil ?_))
    refine W.cond_bl rfl (fun c4=>?_) (fun c4=>?_)
    ·refine W.sreg (WO.field0 rfl rfl rfl (WO.fieldL rfl rfl rfl (WO.load rfl rfl (Cell.own Pick.head rfl) rfl (WO.p rfl rfl (WO.indexAddr rfl rfl rfl hA.sl (by omega) rfl ?_)))))
     refine' WO.load (v:=_) rfl rfl ?hc rfl ?_
     case hc=>(first | (refine hA.cell0 (i:=j) ?_ 0 ?_ <;> first | rfl | omega))
     refine WO.build rfl rfl rfl rfl rfl (WO.storeA rfl rfl rfl rfl (Pick.tail (Pick.tail (Pick.head))) rfl rfl (WO.p rfl rfl (WO.nil (W.ret ?_))))
     refine fin.ret (Res.two rfl (RV.cell rfl rfl rfl (Cells.own (by repeat exact .head))) (RV.tmp rfl)) ⟨_,(_,_),rfl,?_⟩
     exact MeR.here j (by omega) hpos (by omega)
    ·refine W.exit (blk_other rfl (blk_other rfl (blk_same (W.seq (W.sreg (WO.p rfl rfl (WO.p rfl rfl (WO.p rfl rfl ?_))))))))
     refine WO.guard_bl rfl rfl (fun c5=>?_) (fun c5=>?_)
     ·refine WO.no rfl rfl (WO.no rfl rfl (WO.no rfl rfl (WO.no rfl rfl (WO.no rfl rfl (WO.p rfl rfl (WO.nil (W.cond_t rfl (W.sreg (WO.build rfl rfl rfl rfl rfl (WO.storeA rfl rfl rfl rfl (Pick.tail (Pick.tail (Pick.head))) rfl rfl (WO.p rfl rfl (WO.nil (W.ret ?_)))))))))))))
      refine fin.ret (Res.two rfl (RV.cell rfl rfl rfl (Cells.own (by repeat exact .head))) (RV.tmp rfl)) ⟨_,(_,_),rfl,?_⟩
      (obtain rfl:j=0:=(by omega);exact MeR.low (by omega) (by omega))
     ·refine WO.pg rfl rfl rfl (WO.pg rfl rfl rfl (WO.go' rfl (WO.len rfl rfl hlb rfl (WO.go' rfl (WO.ar rfl rfl rfl (by unfold in64;omega) rfl (WO.pg rfl rfl rfl (WO.p rfl rfl (WO.nil ?_))))))))
      refine W.cond_bl rfl (fun c6=>?_) (fun c6=>?_)
      ·exfalso;omega
      ·refine W.skip (W.seq ?_)
       obtain ⟨i,rfl⟩:∃ i:Nat,j=i+1:=⟨j-1,by omega⟩
       obtain rfl:a=(i:Int):=by omega
       have hb1:=abv_bd (k:=i) hc hx hn hb (by omega)
       have hb2:=abv_bd (k:=i+1) hc hx hn hb (by omega)
       have hA1:=hc.ua.2 _ (getD_mem (show i<A.length by omega) 0)
       have hA2:=hc.ua.2 _ (getD_mem (show i+1<A.length by omega) 0)
       have hp0:=hpos i (by omega)
       have hp1:abv P A (Ch.tAt T) x base slope i≤5000000000:=by unfold abv;omega
       have hq1 : -5000000000≤abv P A (Ch.tAt T) x base slope (i+1):=by unfold abv;omega
       have hmd:=mid_bd (a:=A.getD i 0) (b:=A.getD (i+1) 0) (p:=abv P A (Ch.tAt T) x base slope i) (q := -abv P A (Ch.tAt T) x base slope (i+1)) (by omega) (by omega) (by omega) (by omega)
       refine W.drawD 11 [.r 0 [],.r 1 [],.r 2 [],.b 3 [],.r 4 [],.r 5 [],.r 6 [],.r 7 [],.b 8 [],.r 9 [],.r 10 []] [] (A0:=[]) (Sub.refl _) (by kernel_rfl) ?_ ?_
       ·repeat constructor
       refine DT.r rfl rfl rfl (WO.p rfl rfl (WO.nil ⟨rfl,rfl⟩)) (DT.r rfl rfl rfl (WO.p rfl rfl (WO.nil ⟨rfl,rfl⟩)) (DT.r rfl rfl rfl (WO.indexAddr rfl rfl rfl hlb (by omega) rfl (WO.nil ⟨rfl,rfl⟩)) ?_))
       refine' DT.b rfl rfl rfl ?hq ?_
       case hq =>
        refine' WO.load (v:=_) rfl rfl ?hc rfl ?_
        case hc=>(first | (refine Lcell (n:=A.length) (k:=i) (g:=abv P A (Ch.tAt T) x base slope) ?_ (by omega) rfl;exact (by repeat (first | exact Sub.nil | refine Sub.cons (by repeat first | exact .head | apply Pick.tail) ?_))))
        exact WO.nil ⟨rfl,rfl⟩
       refine DT.r rfl rfl rfl (WO.p rfl rfl (WO.nil ⟨rfl,rfl⟩)) (DT.r rfl rfl rfl (WO.p rfl rfl (WO.nil ⟨rfl,rfl⟩)) (DT.r rfl rfl rfl (WO.ar rfl rfl rfl (by unfold in64;omega) rfl (WO.nil ⟨rfl,rfl⟩)) ?_))
       refine' DT.r rfl rfl rfl ?hq ?_
       case hq =>
        refine' WO.indexAddrZ (n:=_) rfl rfl rfl ?hs ?h00 ?h1 rfl ?_
        case hs=>exact hlb
        case h00=>omega
        case h1=>(omega)
        exact WO.nil ⟨rfl,rfl⟩
       refine' DT.b rfl rfl rfl ?hq ?_
       case hq =>
        refine' WO.load (v:=_) rfl rfl ?hc rfl ?_
        case hc=>(first | (refine Lcell (n:=A.length) (k:=i+1) (j:=((i:Int)+1).toNat) (g:=abv P A (Ch.tAt T) x base slope) ?_ (by omega) (by omega);exact (by repeat (first | exact Sub.nil | refine Sub.cons (by repeat first | exact .head | apply Pick.tail) ?_))))
        exact WO.nil ⟨rfl,rfl⟩
       refine DT.r rfl rfl rfl (WO.neg rfl (by unfold in64;omega) rfl (WO.nil ⟨rfl,rfl⟩)) (DT.r rfl rfl rfl (WO.p rfl rfl (WO.nil ⟨rfl,rfl⟩)) (DT.nil [_,_,_,_] rfl (WO.p rfl rfl (WO.nil (W.sreg (WO.loadA rfl rfl (Cells.own Pick.head) rfl rfl (WO.p rfl rfl (WO.p rfl rfl (WO.nil (W.seq ?_))))))))))
       refine W.drawD 22 [.r 0 [],.r 1 [],.r 2 [],.b 3 [],.r 4 [],.r 5 [],.b 6 [],.r 7 [],.r 8 [],.r 9 [],.r 10 [],.b 11 [],.r 12 [],.r 13 [],.r 14 [],.b 15 [],.r 16 [],.r 17 [],.r 18 [],.r 19 [],.r 20 [],.r 21 []] [] (A0:=[_]) (H0:=[_,_,_]) (.cons (Pick.tail (Pick.tail .head)) (.cons .head (.cons .head (.cons .head .nil)))) (by kernel_rfl) ?_ ?_
       ·repeat constructor
       refine DT.r rfl rfl rfl (WO.p rfl rfl (WO.nil ⟨rfl,rfl⟩)) (DT.r rfl rfl rfl (WO.field0 rfl rfl rfl (WO.nil ⟨rfl,rfl⟩)) (DT.r rfl rfl rfl (WO.fieldL rfl rfl rfl (WO.nil ⟨rfl,rfl⟩)) (DT.b rfl rfl rfl (WO.load rfl rfl (Cell.own Pick.head rfl) rfl (WO.nil ⟨rfl,rfl⟩)) (DT.r rfl rfl rfl (WO.p rfl rfl (WO.nil ⟨rfl,rfl⟩)) (DT.r rfl rfl rfl (WO.indexAddr rfl rfl rfl hA.sl (by omega) rfl (WO.nil ⟨rfl,rfl⟩)) ?_)))))
       refine' DT.b rfl rfl rfl ?hq ?_
       case hq =>
        refine' WO.load (v:=_) rfl rfl ?hc rfl ?_
        case hc=>(first | (refine hA.cell0 (i:=i) ?_ 0 ?_ <;> first | rfl | omega))
        exact WO.nil ⟨rfl,rfl⟩
       refine DT.r rfl rfl rfl (WO.p rfl rfl (WO.nil ⟨rfl,rfl⟩)) (DT.r rfl rfl rfl (WO.ar rfl rfl rfl (by unfold in64;omega) rfl (WO.nil ⟨rfl,rfl⟩)) (DT.r rfl rfl rfl (WO.field0 rfl rfl rfl (WO.nil ⟨rfl,rfl⟩)) (DT.r rfl rfl rfl (WO.fieldL rfl rfl rfl (WO.nil ⟨rfl,rfl⟩)) (DT.b rfl rfl rfl (WO.load rfl rfl (Cell.own Pick.head rfl) rfl (WO.nil ⟨rfl,rfl⟩)) (DT.r rfl rfl rfl (WO.p rfl rfl (WO.nil ⟨rfl,rfl⟩)) (DT.r rfl rfl rfl (WO.ar rfl rfl rfl (by unfold in64;omega) rfl (WO.nil ⟨rfl,rfl⟩)) ?_))))))
       refine' DT.r rfl rfl rfl ?hq ?_
       case hq =>
        refine' WO.indexAddrZ (n:=_) rfl rfl rfl ?hs ?h00 ?h1 rfl ?_
        case hs=>exact hA.sl
        case h00=>omega
        case h1=>(omega)
        exact WO.nil ⟨rfl,rfl⟩
       refine' DT.b rfl rfl rfl ?hq ?_
       case hq =>
        refine' WO.load (v:=_) rfl rfl ?hc rfl ?_
        case hc=>(first | (refine hA.cell0 (i:=i+1) ?_ 0 ?_ <;> first | rfl | omega))
        exact WO.nil ⟨rfl,rfl⟩
       refine DT.r rfl rfl rfl (WO.p rfl rfl (WO.nil ⟨rfl,rfl⟩)) (DT.r rfl rfl rfl (WO.ar rfl rfl rfl (by unfold in64;omega) rfl (WO.nil ⟨rfl,rfl⟩)) (DT.r rfl rfl rfl (WO.ar rfl rfl rfl (by unfold in64;omega) rfl (WO.nil ⟨rfl,rfl⟩)) (DT.r rfl rfl rfl (WO.p rfl rfl (WO.nil ⟨rfl,rfl⟩)) (DT.r rfl rfl rfl (WO.p rfl rfl (WO.nil ⟨rfl,rfl⟩)) (DT.r rfl rfl rfl (WO.ar rfl rfl rfl (by unfold in64;omega) rfl (WO.nil ⟨rfl,rfl⟩)) (DT.nil [_,_,_,_] rfl ?_))))))
       refine WO.callCR (first:=[.agg #[vp,va,o]]) (captured:=[]) rfl rfl Tryz.call101 (fun L w hi=>Ch.c_fraction w vp va o (A.getD i 0 * -abv P A (Ch.tAt T) x base slope (i+1)+A.getD (i+1) 0*abv P A (Ch.tAt T) x base slope i) (abv P A (Ch.tAt T) x base slope i + -abv P A (Ch.tAt T) x base slope (i+1)) (by omega) (by omega) hop hoa ho) rfl (WO.storeA rfl rfl rfl rfl Pick.head rfl rfl (WO.p rfl rfl (WO.nil (W.ret ?_))))
       refine fin.ret (Res.two rfl (RV.cell rfl rfl rfl (Cells.own (by repeat exact .head))) (RV.tmp rfl)) ⟨_,(_,_),rfl,?_⟩
       exact MeR.mid i (by omega) hpos (by omega)
  ·refine W.exit (blk_same (W.seq (W.sreg (WO.p rfl rfl (WO.p rfl rfl (WO.p rfl rfl ?_))))))
   refine WO.guard_bl rfl rfl (fun c7=>?_) (fun c7=>?_)
   ·exfalso;omega
   ·refine WO.pg rfl rfl rfl (WO.pg rfl rfl rfl (WO.go' rfl (WO.len rfl rfl hlb rfl (WO.go' rfl (WO.ar rfl rfl rfl (by unfold in64;omega) rfl (WO.pg rfl rfl rfl (WO.p rfl rfl (WO.nil ?_))))))))
    refine W.cond_bl rfl (fun c8=>?_) (fun c8=>?_)
    ·refine W.sreg (WO.build rfl rfl rfl rfl rfl (WO.storeA rfl rfl rfl rfl (Pick.tail (Pick.tail (Pick.head))) rfl rfl (WO.p rfl rfl (WO.nil (W.ret ?_)))))
     refine fin.ret (Res.two rfl (RV.cell rfl rfl rfl (Cells.own (by repeat exact .head))) (RV.tmp rfl)) ⟨_,(_,_),rfl,?_⟩
     exact MeR.high (fun k hk=>hpos k (by omega))
    ·exfalso;omega
end Go.Proofs.YtfchgmiiicidcaaGreat
namespace Go.Proofs.YtfchgmiiicidcaaGreat
open Go Go.TH
attribute [local irreducible] W WO pt
set_option maxRecDepth 10000
set_option maxHeartbeats 2000000
theorem c_isNaN64 (w:World) (x:Int):Ret Tryz.prog 205 [.int .i64 x].toArray w (.bool false):=by
 refine Ret.of mixed tyTab Tryz.func205 rfl rfl (W.sreg (WO.p rfl rfl (WO.nil (W.sreg (WO.p rfl rfl (WO.p rfl rfl (WO.p rfl rfl (WO.p rfl rfl (WO.nil (W.ret ?_))))))))))
 exact fin.ret (Res.one rfl (RV.tmp rfl)) (congrArg Value.bool (bl_f.2 (by omega)))
theorem c_Less64 (w:World) (x y:Int):Ret Tryz.prog 122 [.int .i64 x,.int .i64 y].toArray w (.bool (bl (x<y))):=by
 refine Ret.of mixed tyTab Tryz.func122 rfl rfl (W.sreg (WO.p rfl rfl (WO.nil (W.sreg (WO.p rfl rfl (WO.callR rfl Tryz.call205 (fun L w hi=>c_isNaN64 w _) rfl (WO.p rfl rfl (WO.no rfl rfl (WO.no rfl rfl (WO.no rfl rfl (WO.p rfl rfl (WO.p rfl rfl (WO.pg rfl rfl rfl (WO.pg rfl rfl rfl (WO.pg rfl rfl rfl (WO.p rfl rfl (WO.p rfl rfl (WO.nil (W.ret (fin.ret (Res.one rfl (RV.tmp rfl)) (congrArg Value.bool ?_)))))))))))))))))))))
 rfl
def RevI (xs zs:List Int) (i:Nat):Prop:=zs.length=xs.length∧∀ k,k<xs.length→zs.getD k 0=if k<i∨xs.length-1-i<k then xs.getD (xs.length-1-k) 0 else xs.getD k 0
theorem set_get2 {zs:List Int} {i j k:Nat} {a b:Int} (hi:i<zs.length) (hj:j<zs.length):((zs.set i a).set j b).getD k 0=if k=j then b else if k=i then a else zs.getD k 0:=by
 rw [List.getD_eq_getElem?_getD,List.getElem?_set,List.getElem?_set,List.getD_eq_getElem?_getD]
 by_cases h1:j=k
 ·subst h1;simp [hj]
 ·by_cases h2:i=k
  ·subst h2;rw [if_neg h1,if_pos rfl,if_pos hi,if_neg (fun h=>h1 h.symm),if_pos rfl];rfl
  ·rw [if_neg h1,if_neg h2,if_neg (fun h=>h1 h.symm),if_neg (fun h=>h2 h.symm)]
theorem RevI.next {xs zs:List Int} {i j:Nat} (h:RevI xs zs i) (hj:j=xs.length-1-i) (hij:i<j):RevI xs ((zs.set i (zs.getD j 0)).set j (zs.getD i 0)) (i+1):=by
 refine ⟨by simp only [List.length_set];exact h.1,fun k hk=>?_⟩
 have h1:=h.1
 rw [set_get2 (by omega) (by omega)]
 have hi:=h.2 i (by omega)
 have hjj:=h.2 j (by omega)
 rw [if_neg (by omega)] at hi hjj
 rcases Nat.lt_trichotomy k j with g | g | g
 ·rw [if_neg (by omega)]
  rcases Nat.lt_trichotomy k i with q | q | q
  ·rw [if_neg (by omega),h.2 k hk,if_pos (by omega),if_pos (by omega)]
  ·rw [if_pos q,hjj,if_pos (by omega),hj,q]
  ·rw [if_neg (by omega),h.2 k hk,if_neg (by omega),if_neg (by omega)]
 ·rw [if_pos g,hi,if_pos (by omega),show xs.length-1-k=i by omega]
 ·rw [if_neg (by omega),if_neg (by omega),h.2 k hk,if_pos (by omega),if_pos (by omega)]
theorem RevI.all {xs zs:List Int} {i:Nat} (h:RevI xs zs i) (hi:xs.length-1-i≤i):∀ k,k<xs.length→zs.getD k 0=xs.getD (xs.length-1-k) 0:=fun k hk=>by
 rw [h.2 k hk]
 by_cases g:k<i∨xs.length-1-i<k
 ·rw [if_pos g]
 ·rw [if_neg g,show xs.length-1-k=k by omega]
theorem Icell {C:Cx Tryz.prog} {H:List HP} {v:Value} {l:List Int} {i j:Nat} (s:Sub H [OwE encI 2 1 v l]) (hi:i<l.length) (hj:j=i):Cell C H (elt v j 1) (.int .i64 (l.getD i 0)):=by
 subst hj
 cases s with
 | cons p _=>exact OwE.cell0 encI_ok p hi 0 rfl
theorem c_Reverse (B:Nat) (w:World) (v:Value) (xs:List Int) (hB:B≤w.heap.size) (hn:1≤xs.length) (hl:xs.length≤1000) :
 CtH Tryz.prog 63 [v] w [OwE encI 2 1 v xs] B (fun r Hq=>∃ ys:List Int,(ys.length=xs.length∧∀ k,k<xs.length→ys.getD k 0=xs.getD (xs.length-1-k) 0)∧Hq=[OwE encI 2 1 v ys]):=by
 refine CtH.ofI (X:=List Int) (p:=fun ys r=>ys.length=xs.length∧∀ k,k<xs.length→ys.getD k 0=xs.getD (xs.length-1-k) 0) (Hx:=fun ys=>[OwE encI 2 1 v ys]) mixed tyTab hB Tryz.func63 rfl rfl (fun M hM=>(W.fact (OwE.sl (enc:=encI) (e:=2) (sz:=1) (v:=v) (xs:=xs) Pick.head) (fun hbs=>(W.sreg (WO.p rfl rfl (WO.len rfl rfl hbs rfl (WO.ar rfl rfl rfl (by unfold in64;omega) rfl (WO.p rfl rfl (WO.p rfl rfl (WO.nil (W.block ?_)))))))))))
 refine W.loop3 (fun (i:Nat) (j:Int) (zs:List Int)=>i≤xs.length∧j=(xs.length:Int)-1-i∧RevI xs zs i)
  (fun (i:Nat) (j:Int) (zs:List Int)=>[(2,.int .i64 (i:Int)),(3,.int .i64 j),(0,v)])
  (fun (i:Nat) (j:Int) (zs:List Int)=>[OwE encI 2 1 v zs])
  (fun (i:Nat) (j:Int) (zs:List Int)=>xs.length-i) 0 _ xs
  (by exact ⟨by omega,by omega,rfl,fun k hk=>by rw [if_neg (by omega)]⟩) ⟨rfl,rfl,rfl,trivial⟩ (by repeat (first | exact Sub.nil | refine Sub.cons (by repeat exact .head) ?_)) ?_
 rintro i j zs ⟨hi0,hj,hR⟩
 refine W.seq (W.sreg (WO.p rfl rfl (WO.p rfl rfl (WO.p rfl rfl (WO.nil ?_)))))
 refine W.cond_bl rfl (fun c1=>?_) (fun c1=>?_)
 ·refine W.skip (W.seq (W.block ?_))
  have hzl:=hR.1
  obtain ⟨b,rfl⟩:∃ b:Nat,j=(b:Int):=⟨j.toNat,by omega⟩
  refine W.drawD 14 [.r 0 [],.r 1 [],.r 2 [],.r 3 [],.r 4 [],.r 5 [],.r 6 [],.f 7 [],.r 8 [],.r 9 [],.r 10 [],.f 11 [],.r 12 [],.s 13 []] [] (A0:=[_]) (H0:=[]) (.cons .head .nil) (by kernel_rfl) ?_ ?_
  ·exact (ALok.r (ALok.r (ALok.r (ALok.r (ALok.r (ALok.r (ALok.r (ALok.f (ALok.r (ALok.r (ALok.r (ALok.f (ALok.r (ALok.s ALok.nil))))))))))))))
  refine DT.r rfl rfl rfl (WO.p rfl rfl (WO.nil ⟨rfl,rfl⟩)) (DT.r rfl rfl rfl (WO.p rfl rfl (WO.nil ⟨rfl,rfl⟩)) (DT.r rfl rfl rfl (WO.p rfl rfl (WO.nil ⟨rfl,rfl⟩)) (DT.r rfl rfl rfl (WO.p rfl rfl (WO.nil ⟨rfl,rfl⟩)) (DT.r rfl rfl rfl (WO.p rfl rfl (WO.nil ⟨rfl,rfl⟩)) (DT.r rfl rfl rfl (WO.p rfl rfl (WO.nil ⟨rfl,rfl⟩)) (DT.r rfl rfl rfl (WO.indexAddr rfl rfl rfl hbs (by omega) rfl (WO.nil ⟨rfl,rfl⟩)) ?_))))))
  refine' DT.f [_] rfl rfl rfl rfl ?hq ?_
  case hq =>
   refine' WO.load (v:=_) rfl rfl ?hc rfl ?_
   case hc=>(first | (refine Icell (l:=zs) (i:=b) ?_ (by omega) rfl;exact (by repeat (first | exact Sub.nil | refine Sub.cons (by repeat exact .head) ?_))))
   exact WO.nil ⟨rfl,rfl⟩
  refine DT.r rfl rfl rfl (WO.p rfl rfl (WO.nil ⟨rfl,rfl⟩)) (DT.r rfl rfl rfl (WO.p rfl rfl (WO.nil ⟨rfl,rfl⟩)) (DT.r rfl rfl rfl (WO.indexAddr rfl rfl rfl hbs (by omega) rfl (WO.nil ⟨rfl,rfl⟩)) ?_))
  refine' DT.f [_] rfl rfl rfl rfl ?hq ?_
  case hq =>
   refine' WO.load (v:=_) rfl rfl ?hc rfl ?_
   case hc=>(first | (refine Icell (l:=zs) (i:=i) ?_ (by omega) rfl;exact (by repeat (first | exact Sub.nil | refine Sub.cons (by repeat exact .head) ?_))))
   exact WO.nil ⟨rfl,rfl⟩
  refine DT.r rfl rfl rfl (WO.indexAddr rfl rfl rfl hbs (by omega) rfl (WO.nil ⟨rfl,rfl⟩)) (DT.s [_] rfl rfl rfl (WO.storeE (enc:=encI) encI_ok rfl rfl rfl rfl (by repeat exact .head) (by omega) ?_))
  refine WO.nil ⟨[_],rfl,rfl,(Keep.r (Keep.f (Keep.r (Keep.r (Keep.r (Keep.f (Keep.r (Keep.r (Keep.r (Keep.r (Keep.r (Keep.r (Keep.r Keep.nil))))))))))))),?_⟩
  refine DT.nil [_] rfl (WO.indexAddr rfl rfl rfl hbs (by omega) rfl (WO.storeE (enc:=encI) encI_ok rfl rfl rfl rfl (by repeat exact .head) (by (simp only [List.length_set];omega)) (WO.nil (W.region (WO.p rfl rfl (WO.ar rfl rfl rfl (by unfold in64;omega) rfl (WO.p rfl rfl (WO.ar rfl rfl rfl (by unfold in64;omega) rfl (WO.p rfl rfl (WO.p rfl rfl (WO.nil ?_)))))))))))
  refine' ⟨i+1,_,_,?hp,?hmu,⟨rfl,rfl,rfl,trivial⟩,?hS⟩
  case hS=>repeat (first | exact Sub.nil | refine Sub.cons (by repeat exact .head) ?_)
  case hp=>exact ⟨by omega,by omega,hR.next (by omega) (by omega)⟩
  case hmu=>omega
 ·refine W.exit (blk_same ?_)
  exact fin.normal (Res.none rfl) ⟨zs,⟨hR.1,hR.all (by omega)⟩,fun h hs=>Sub.sat (by repeat (first | exact Sub.nil | refine Sub.cons (by repeat exact .head) ?_)) hs⟩
theorem c_IsSorted (w:World) (v:Value) (l:List Int) (hn:l.length≤1000) (hs:∀ k,k+1<l.length→l.getD k 0≤l.getD (k+1) 0) (hR:RdF encI 1 w.heap.size w v l):Ret Tryz.prog 64 [v].toArray w (.bool true):=by
 refine Ret.of mixed tyTab Tryz.func64 rfl rfl ?_
 replace hR:RdF encI 1 (fnCx mixed tyTab Tryz.f64.ntmps w).B (fnCx mixed tyTab Tryz.f64.ntmps w).w0 v l:=hR
 refine W.sreg (WO.p rfl rfl (WO.nil (W.seq (W.sreg (WO.p rfl rfl (WO.len rfl rfl hR.sl rfl (WO.ar rfl rfl rfl (by unfold in64;omega) rfl (WO.p rfl rfl (WO.nil (W.block ?_))))))))))
 refine W.loop (fun (j:Int)=>j≤(l.length:Int)-1 ∧ -1≤j)
  (fun (j:Int)=>[(3,.int .i64 j),(0,v)])
  (fun (j:Int)=>[])
  (fun (j:Int)=>(j+1).toNat) _
  (by omega) ⟨rfl,rfl,trivial⟩ (by repeat (first | exact Sub.nil | refine Sub.cons (by repeat first | exact .head | apply Pick.tail) ?_)) ?_
 rintro j ⟨hj0,hj1⟩
 refine W.seq (W.sreg (WO.p rfl rfl (WO.p rfl rfl (WO.nil ?_))))
 refine W.cond_bl rfl (fun c1=>?_) (fun c1=>?_)
 ·refine W.skip (W.seq (W.block (W.seq ?_)))
  obtain ⟨b,rfl⟩:∃ b:Nat,j=(b:Int):=⟨j.toNat,by omega⟩
  have hsb:=hs (b-1) (by omega)
  rw [show b-1+1=b by omega,show b-1=((b:Int)-1).toNat by omega] at hsb
  refine W.drawD 9 [.r 0 [],.r 1 [],.r 2 [],.b 3 [],.r 4 [],.r 5 [],.r 6 [],.r 7 [],.b 8 []] [] (A0:=[]) (Sub.refl _) (by kernel_rfl) ?_ ?_
  ·repeat constructor
  refine DT.r rfl rfl rfl (WO.p rfl rfl (WO.nil ⟨rfl,rfl⟩)) (DT.r rfl rfl rfl (WO.p rfl rfl (WO.nil ⟨rfl,rfl⟩)) (DT.r rfl rfl rfl (WO.indexAddr rfl rfl rfl hR.sl (by omega) rfl (WO.nil ⟨rfl,rfl⟩)) ?_))
  refine' DT.b rfl rfl rfl ?hq ?_
  case hq =>
   refine' WO.load (v:=_) rfl rfl ?hc rfl ?_
   case hc=>(first | (refine hR.cell0 (i:=b) ?_ 0 ?_ <;> first | rfl | omega))
   exact WO.nil ⟨rfl,rfl⟩
  refine DT.r rfl rfl rfl (WO.p rfl rfl (WO.nil ⟨rfl,rfl⟩)) (DT.r rfl rfl rfl (WO.p rfl rfl (WO.nil ⟨rfl,rfl⟩)) (DT.r rfl rfl rfl (WO.ar rfl rfl rfl (by unfold in64;omega) rfl (WO.nil ⟨rfl,rfl⟩)) ?_))
  refine' DT.r rfl rfl rfl ?hq ?_
  case hq =>
   refine' WO.indexAddrZ (n:=_) rfl rfl rfl ?hs ?h00 ?h1 rfl ?_
   case hs=>exact hR.sl
   case h00=>omega
   case h1=>(omega)
   exact WO.nil ⟨rfl,rfl⟩
  refine' DT.b rfl rfl rfl ?hq ?_
  case hq =>
   refine' WO.load (v:=_) rfl rfl ?hc rfl ?_
   case hc=>(first | (refine hR.cell0 (i:=((b:Int)-1).toNat) ?_ 0 ?_ <;> first | rfl | omega))
   exact WO.nil ⟨rfl,rfl⟩
  refine DT.nil [] rfl (WO.callR (r:=.bool false) rfl Tryz.call122 (fun L w hi=>by have h:=c_Less64 w (l.getD b 0) (l.getD ((b:Int)-1).toNat 0);rw [bl_f.2 (by omega)] at h;exact h) rfl (WO.nil (W.cond_f rfl (W.skip (W.region (WO.p rfl rfl (WO.ar rfl rfl rfl (by unfold in64;omega) rfl (WO.p rfl rfl (WO.nil ?_)))))))))
  refine' ⟨(b:Int)-1,?hp,?hmu,⟨rfl,rfl,trivial⟩,?hS⟩
  case hS=>repeat (first | exact Sub.nil | refine Sub.cons (by repeat first | exact .head | apply Pick.tail) ?_)
  case hp=>omega
  case hmu=>omega
 ·refine W.exit (blk_same (W.sreg (WO.p rfl rfl (WO.nil (W.ret ?_)))))
  exact fin.ret (Res.one rfl (RV.tmp rfl)) rfl
theorem c_rises (w:World) (v:Value) (l:List Int) (hn:1≤l.length∧l.length≤1000) (hs:∀ k,k+1<l.length→l.getD (k+1) 0≤l.getD k 0) (hR:RdF encI 1 w.heap.size w v l):Ret Tryz.prog 62 [v].toArray w (.bool false):=by
 refine Ret.of mixed tyTab Tryz.func62 rfl rfl ?_
 replace hR:RdF encI 1 (fnCx mixed tyTab Tryz.f62.ntmps w).B (fnCx mixed tyTab Tryz.f62.ntmps w).w0 v l:=hR
 refine W.sreg (WO.p rfl rfl (WO.nil (W.sreg (WO.p rfl rfl (WO.len rfl rfl hR.sl rfl (WO.makeI rfl rfl rfl rfl (by omega) (by omega) rfl (fun lb=>(WO.p rfl rfl (WO.nil (W.sreg (WO.p rfl rfl (WO.p rfl rfl (WO.copyE (xs:=List.replicate l.length (0:Int)) (ys:=l) encI_ok rfl rfl rfl (by repeat exact .head) (by simp;exact hR.sl) (by simp;omega) (by simp) (hR.flat encI_ok) rfl (WO.nil (W.sreg (WO.p rfl rfl (WO.callH1 (A:=OwE encI 2 1 (.slice (some ⟨lb,0,none⟩) l.length l.length) l) rfl Tryz.call63 (by repeat exact .head) (fun L w' hi hB2=>c_Reverse _ w' _ l hB2 (by omega) (by omega)) rfl ?_)))))))))))))))))
 rintro _ _ ⟨ys,⟨hy1,hy2⟩,rfl⟩
 refine WO.nil (W.sreg (WO.p rfl rfl (WO.callR rfl Tryz.call64 (fun L w hi=>c_IsSorted w _ ys (by omega) (fun k hk=>by rw [hy2 k (by omega),hy2 (k+1) (by omega)];have:=hs (l.length-1-(k+1)) (by omega);rw [show l.length-1-(k+1)+1=l.length-1-k by omega] at this;exact this) (RdF.of_ow (e:=2) encI_ok (by repeat exact .head) hi)) rfl (WO.p rfl rfl (WO.p rfl rfl (WO.nil (W.ret ?_)))))))
 exact fin.ret (Res.one rfl (RV.tmp rfl)) rfl
theorem c_IndexT (w:World) (u:Value) (tv:List Value) (T:List (List Int)) (hr:∀ i,i<T.length→1≤(T.getD i []).length∧(T.getD i []).length≤1000) (hs:∀ i,i<T.length→∀ k,k+1<(T.getD i []).length→(T.getD i []).getD (k+1) 0≤(T.getD i []).getD k 0) (hT:RdR encI 1 w.heap.size w u tv T):Ret Tryz.prog 123 [u,.func (.func 62) #[] #[]].toArray w (.int .i64 (-1)):=by
 refine Ret.of mixed tyTab Tryz.func123 rfl rfl ?_
 replace hT:RdR encI 1 (fnCx mixed tyTab Tryz.f123.ntmps w).B (fnCx mixed tyTab Tryz.f123.ntmps w).w0 u tv T:=hT
 have hle:=hT.sl.le
 refine W.sreg (WO.p rfl rfl (WO.nil (W.seq (W.sreg (WO.p rfl rfl (WO.len rfl rfl hT.sl rfl (WO.p rfl rfl (WO.nil (W.block ?_)))))))))
 refine W.loop (fun (i:Nat)=>i≤T.length)
  (fun (i:Nat)=>[(8,.int .i64 (i:Int)),(7,.int .i64 (T.length:Int)),(0,u),(1,.func (.func 62) #[] #[])])
  (fun (i:Nat)=>[])
  (fun (i:Nat)=>T.length-i) 0
  (by omega) ⟨rfl,rfl,rfl,rfl,trivial⟩ (by repeat (first | exact Sub.nil | refine Sub.cons (by repeat first | exact .head | apply Pick.tail) ?_)) ?_
 rintro i hi0
 refine W.sreg (WO.p rfl rfl (WO.nil (W.seq ?_)))
 refine W.cond_bl rfl (fun c1=>?_) (fun c1=>?_)
 ·refine W.skip (W.seq (W.block (W.sreg (WO.p rfl rfl (WO.p rfl rfl (WO.nil (W.sreg (WO.p rfl rfl (WO.p rfl rfl (WO.p rfl rfl (WO.indexAddr rfl rfl rfl hT.sl (by omega) rfl ?_)))))))))))
  refine' WO.load (v:=_) rfl rfl ?hc rfl ?_
  case hc=>((refine hT.cellV ?_;omega))
  refine WO.callCR (r:=.bool false) (first:=[]) (captured:=[]) rfl rfl Tryz.call62 (fun L w hi'=>c_rises w _ (T.getD i []) (hr i (by omega)) (hs i (by omega)) ((hT.later hi').row i (by omega))) rfl (WO.nil (W.cond_f rfl (W.skip (W.region (WO.ar rfl rfl rfl (by unfold in64;omega) rfl (WO.p rfl rfl (WO.nil ?_)))))))
  refine' ⟨i+1,?hp,?hmu,⟨rfl,rfl,rfl,rfl,trivial⟩,?hS⟩
  case hS=>repeat (first | exact Sub.nil | refine Sub.cons (by repeat first | exact .head | apply Pick.tail) ?_)
  case hp=>omega
  case hmu=>omega
 ·refine W.exit (blk_same (W.sreg (WO.p rfl rfl (WO.nil (W.ret ?_)))))
  exact fin.ret (Res.one rfl (RV.tmp rfl)) rfl
theorem c_ContT (w:World) (u:Value) (tv:List Value) (T:List (List Int)) (hr:∀ i,i<T.length→1≤(T.getD i []).length∧(T.getD i []).length≤1000) (hs:∀ i,i<T.length→∀ k,k+1<(T.getD i []).length→(T.getD i []).getD (k+1) 0≤(T.getD i []).getD k 0) (hT:RdR encI 1 w.heap.size w u tv T):Ret Tryz.prog 65 [u,.func (.func 62) #[] #[]].toArray w (.bool false):=by
 refine Ret.of mixed tyTab Tryz.func65 rfl rfl ?_
 replace hT:RdR encI 1 (fnCx mixed tyTab Tryz.f65.ntmps w).B (fnCx mixed tyTab Tryz.f65.ntmps w).w0 u tv T:=hT
 refine W.sreg (WO.p rfl rfl (WO.nil (W.sreg (WO.p rfl rfl (WO.p rfl rfl (WO.callR rfl Tryz.call123 (fun L w hi=>c_IndexT w u tv T hr hs (hT.later hi)) rfl (WO.p rfl rfl (WO.p rfl rfl (WO.nil (W.ret ?_))))))))))
 exact fin.ret (Res.one rfl (RV.tmp rfl)) (congrArg Value.bool (bl_f.2 (by omega)))
structure FlT (P A:List Int) (R:Ch.Rws) (T:List (List Int)):Prop where
 tr:Ch.OkTr R T
 fl:∀ i,i<P.length→∀ k,k+1<A.length→Ch.tAt T i (k+1)≤Ch.tAt T i k
theorem FlT.row {P A:List Int} {R:Ch.Rws} {T:List (List Int)} (h:FlT P A R T) (hc:Ch.OkC P A R) {i:Nat} (hi:i<T.length):(T.getD i []).length=A.length:=by
 have h1:=h.tr.n
 rw [h.tr.m i (by omega),hc.row (by omega)]
theorem c_Meet (w:World) (vp va o u:Value) (rv tv:List Value) (P A:List Int) (R:Ch.Rws) (T:List (List Int)) (x base slope:Int) (hc:Ch.OkC P A R) (ht:FlT P A R T) (hx:Ch.On P x) (hn:OkN base slope) (hP:RdF encI 1 w.heap.size w vp P) (hA:RdF encI 1 w.heap.size w va A) (hR:RdR encP 2 w.heap.size w o rv R) (hT:RdR encI 1 w.heap.size w u tv T):RetE Tryz.prog 21 [.agg #[vp,va,o],u,.int .i64 x,.agg #[.int .i64 base,.int .i64 slope]].toArray w (fun r=>∃ (b:Bool) (z:Int × Int),r=.tuple #[Ch.raV z,.int .i64 (if b then 0 else 5)]∧MeR A (abv P A (Ch.tAt T) x base slope) A.length b z):=by
 refine RetE.of mixed tyTab Tryz.func21 rfl rfl ?_
 replace hR:RdR encP 2 (fnCx mixed tyTab Tryz.f21.ntmps w).B (fnCx mixed tyTab Tryz.f21.ntmps w).w0 o rv R:=hR
 replace hT:RdR encI 1 (fnCx mixed tyTab Tryz.f21.ntmps w).B (fnCx mixed tyTab Tryz.f21.ntmps w).w0 u tv T:=hT
 replace hP:RdF encI 1 (fnCx mixed tyTab Tryz.f21.ntmps w).B (fnCx mixed tyTab Tryz.f21.ntmps w).w0 vp P:=hP
 replace hA:RdF encI 1 (fnCx mixed tyTab Tryz.f21.ntmps w).B (fnCx mixed tyTab Tryz.f21.ntmps w).w0 va A:=hA
 have hop:=hP.sl.oc
 have hoa:=hA.sl.oc
 have hoo:=hR.sl.oc
 have hnp:=hc.np
 have hna:=hc.na
 have hnr:=hc.nr
 have hnt:=ht.tr.n
 refine W.sreg (WO.boxA rfl rfl (fun b1 hb1=>(WO.boxA rfl rfl (fun b2 hb2=>(WO.alloc rfl rfl rfl (fun b3 hb3=>(WO.p rfl rfl (WO.nil (W.seq (W.sreg (WO.loadA rfl rfl (Cells.own (Pick.tail (Pick.tail (Pick.head)))) rfl rfl (WO.p rfl rfl (WO.callR rfl Tryz.call26 (fun L w hi=>Ch.c_CheckTrue w vp va o u rv tv P A R T hc ht.tr (hP.later hi) (hA.later hi) (hR.later hi) (hT.later hi)) rfl (WO.p rfl rfl (WO.nil (W.sreg (WO.p rfl rfl (WO.p rfl rfl (WO.nil ?_)))))))))))))))))))
 refine W.cond_bl rfl (fun c1=>?_) (fun c1=>?_)
 ·exfalso;omega
 ·refine W.skip (W.sreg (WO.loadA rfl rfl (Cells.own (Pick.tail (Pick.tail (Pick.head)))) rfl rfl (WO.build rfl rfl rfl rfl rfl (WO.alloc rfl rfl rfl (fun b4 hb4=>(WO.storeA rfl rfl rfl rfl Pick.head rfl (Ch.oc3 hop hoa hoo) (WO.nil (W.seq (W.sreg (WO.loadA rfl rfl (Cells.own Pick.head) rfl rfl (WO.p rfl rfl (WO.loadA rfl rfl (Cells.own (Pick.tail (Pick.tail (Pick.head)))) rfl rfl (WO.callR rfl Tryz.call59 (fun L w hi=>c_checkNeed w vp va o P A R x base slope hc hx hn hoo (hP.later hi) (hA.later hi)) rfl (WO.p rfl rfl (WO.nil (W.sreg (WO.p rfl rfl (WO.p rfl rfl (WO.nil ?_)))))))))))))))))))
  refine W.cond_bl rfl (fun c2=>?_) (fun c2=>?_)
  ·exfalso;omega
  ·refine W.skip (W.sreg (WO.p rfl rfl (WO.nil (W.seq (W.sreg (WO.p rfl rfl (WO.p rfl rfl (WO.callR rfl Tryz.call65 (fun L w hi=>c_ContT w u tv T (fun i h1=>by rw [ht.row hc h1];omega) (fun i h1 k h2=>ht.fl i (by omega) k (by rw [ht.row hc h1] at h2;exact h2)) (hT.later hi)) rfl (WO.nil (W.cond_f rfl (W.skip (W.sreg (WO.loadA rfl rfl (Cells.own Pick.head) rfl rfl (WO.p rfl rfl (WO.p rfl rfl (WO.loadA rfl rfl (Cells.own (Pick.tail (Pick.tail (Pick.head)))) rfl rfl ?_))))))))))))))))
   refine WO.callE rfl Tryz.call60 (fun L w hi=>c_meet w vp va o u tv P A R T x base slope hc hx hn hoo (by omega) (fun i h1=>ht.row hc h1) (fun i k h1 h2=>Ch.OkTr.bd hc ht.tr h1 h2) (hP.later hi) (hA.later hi) (hT.later hi)) rfl ?_
   rintro _ ⟨bv,⟨z1,z2⟩,rfl,hz⟩
   refine WO.p rfl rfl (WO.p rfl rfl (WO.p rfl rfl (WO.alloc rfl rfl rfl (fun b5 hb5=>(WO.storeA rfl rfl rfl rfl Pick.head rfl rfl (WO.p rfl rfl (WO.nil (W.seq (W.sreg (WO.p rfl rfl (WO.p rfl rfl (WO.nil ?_))))))))))))
   refine W.cond rfl (fun c3=>?_) (fun c3=>?_)
   ·refine W.sreg (WO.build rfl rfl rfl rfl rfl (WO.storeA rfl rfl rfl rfl (Pick.tail (Pick.tail (Pick.head))) rfl rfl (WO.p rfl rfl (WO.nil (W.ret (fin.ret (Res.two rfl (RV.cell rfl rfl rfl (Cells.own (by repeat exact .head))) (RV.tmp rfl)) ?_))))))
    (obtain rfl:bv=false:=(by cases bv <;> simp_all);exact ⟨false,(0,0),rfl,by cases hz with | high h=>exact .high h | low h g=>exact .low h g⟩)
   ·refine W.skip (W.sreg (WO.loadA rfl rfl (Cells.own Pick.head) rfl rfl (WO.storeA rfl rfl rfl rfl (Pick.tail (Pick.tail (Pick.head))) rfl rfl (WO.p rfl rfl (WO.nil (W.ret (fin.ret (Res.two rfl (RV.cell rfl rfl rfl (Cells.own (by repeat exact .head))) (RV.tmp rfl)) ?_)))))))
    (obtain rfl:bv=true:=(by cases bv <;> simp_all);exact ⟨true,(_,_),rfl,hz⟩)
end Go.Proofs.YtfchgmiiicidcaaGreat
namespace Go.Proofs.YtfchgmiiicidcaaGreat
open Go Go.TH
attribute [local irreducible] W WO pt
set_option maxRecDepth 10000
set_option maxHeartbeats 2000000
def encU4 (n:Int):List Value:=[.int .u32 n]
def RowI (R:Ch.Rws) (i:Nat) (row:List Int) (k:Nat):Prop:=row.length=k∧∀ j,j<k→((R.getD i []).getD j (0,0)).1≤row.getD j 0∧row.getD j 0≤((R.getD i []).getD j (0,0)).2
theorem app_get {α:Type} {l:List α} {x d:α} {j:Nat} (h:j<l.length+1):(l++[x]).getD j d=if j<l.length then l.getD j d else x:=by
 by_cases g:j<l.length
 ·rw [if_pos g,List.getD_eq_getElem?_getD,List.getElem?_append_left g,← List.getD_eq_getElem?_getD]
 ·rw [if_neg g,List.getD_eq_getElem?_getD,List.getElem?_append_right (by omega),show j-l.length=0 by omega];rfl
theorem RowI.next {R:Ch.Rws} {i k:Nat} {row:List Int} {x:Int} (h:RowI R i row k) (h1:((R.getD i []).getD k (0,0)).1≤x∧x≤((R.getD i []).getD k (0,0)).2):RowI R i (row++[x]) (k+1):=by
 obtain ⟨rfl,g⟩:=h
 refine ⟨by simp,fun j hj=>?_⟩
 rw [app_get hj]
 by_cases q:j<row.length
 ·rw [if_pos q];exact g j q
 ·obtain rfl:j=row.length:=by omega
  rw [if_neg q];exact h1
def TabI (R:Ch.Rws) (T:List (List Int)) (n:Nat):Prop:=T.length=n∧∀ i,i<n→RowI R i (T.getD i []) (R.getD i []).length
theorem TabI.next {R:Ch.Rws} {T:List (List Int)} {n:Nat} {row:List Int} (h:TabI R T n) (h1:RowI R n row (R.getD n []).length):TabI R (T++[row]) (n+1):=by
 obtain ⟨rfl,g⟩:=h
 refine ⟨by simp,fun j hj=>?_⟩
 rw [app_get hj]
 by_cases q:j<T.length
 ·rw [if_pos q];exact g j q
 ·obtain rfl:j=T.length:=by omega
  rw [if_neg q];exact h1
theorem TabI.tr {R:Ch.Rws} {T:List (List Int)} (h:TabI R T R.length):Ch.OkTr R T:=⟨h.1,fun i hi=>(h.2 i hi).1,fun i hi k hk=>(h.2 i hi).2 k hk⟩
abbrev TZ:=Value × List Value × List (List Int)
def tzP (n:Nat) (Z:TZ):List HP:=[OwC 22 1 Z.1 n Z.2.1,RowsE encI 2 1 Z.2.1 Z.2.2]
theorem c_True (w:World) (vp va o u:Value) (rv:List Value) (P A:List Int) (R:Ch.Rws) (bs:List Int) (hc:Ch.OkC P A R) (hbl:bs.length≤100) (hbs:∀ x∈bs,0≤x∧x≤4294967295) (hP:RdF encI 1 w.heap.size w vp P) (hA:RdF encI 1 w.heap.size w va A) (hR:RdR encP 2 w.heap.size w o rv R) (hB:RdF encU4 1 w.heap.size w u bs):Ct Tryz.prog 66 [.agg #[vp,va,o],u].toArray w fun r w'=>∃ Hq,(∃ Z:TZ,(r=Z.1∧Ch.OkTr R Z.2.2)∧Hq=tzP R.length Z)∧Inv w [] Hq w':=by
 refine Ct.ofI (X:=TZ) (p:=fun Z r=>r=Z.1∧Ch.OkTr R Z.2.2) (Hx:=tzP R.length) mixed tyTab Tryz.func66 rfl rfl ?_
 replace hR:RdR encP 2 (fnCx mixed tyTab Tryz.f66.ntmps w).B (fnCx mixed tyTab Tryz.f66.ntmps w).w0 o rv R:=hR
 replace hB:RdF encU4 1 (fnCx mixed tyTab Tryz.f66.ntmps w).B (fnCx mixed tyTab Tryz.f66.ntmps w).w0 u bs:=hB
 replace hP:RdF encI 1 (fnCx mixed tyTab Tryz.f66.ntmps w).B (fnCx mixed tyTab Tryz.f66.ntmps w).w0 vp P:=hP
 replace hA:RdF encI 1 (fnCx mixed tyTab Tryz.f66.ntmps w).B (fnCx mixed tyTab Tryz.f66.ntmps w).w0 va A:=hA
 have hop:=hP.sl.oc
 have hoa:=hA.sl.oc
 have hoo:=hR.sl.oc
 have hnp:=hc.np
 have hna:=hc.na
 have hnr:=hc.nr
 refine W.sreg (WO.boxA rfl rfl (fun b1 hb1=>(WO.p rfl rfl (WO.nil (W.sreg (WO.p rfl rfl (WO.nil (W.sreg (WO.p rfl rfl (WO.nil (W.seq (W.sreg (WO.p rfl rfl (WO.nil (W.block (W.chg (owcNil (e:=22) (sz:=1)) (W.chg (rowsNil (enc:=encI) (e:=2) (sz:=1)) ?_)))))))))))))))))
 refine W.loop5 (fun (i:Nat) (a:Nat) (tv:Value) (rvT:List Value) (T:List (List Int))=>i≤R.length∧a≤10*i∧TabI R T i)
  (fun (i:Nat) (a:Nat) (tv:Value) (rvT:List Value) (T:List (List Int))=>[(7,.int .i64 (i:Int)),(6,.int .i64 (a:Int)),(5,tv),(2,.pointer (some ⟨b1,0,none⟩)),(1,u)])
  (fun (i:Nat) (a:Nat) (tv:Value) (rvT:List Value) (T:List (List Int))=>[pt b1 (.cells #[vp,va,o] 25 (0,0)),OwC 22 1 tv i rvT,RowsE encI 2 1 rvT T])
  (fun (i:Nat) (a:Nat) (tv:Value) (rvT:List Value) (T:List (List Int))=>R.length-i) 0 0 (.slice none 0 0) [] []
  (by exact ⟨by omega,by omega,rfl,fun j hj=>by omega⟩) ⟨rfl,rfl,rfl,rfl,rfl,trivial⟩ (by repeat (first | exact Sub.nil | refine Sub.cons (by repeat first | exact .head | apply Pick.tail) ?_)) ?_
 rintro i a tv rvT T ⟨hi0,ha0,hT⟩
 refine W.seq (W.sreg (WO.p rfl rfl (WO.fieldL rfl rfl rfl (WO.load rfl rfl (Cell.own Pick.head rfl) rfl (WO.len rfl rfl hR.sl rfl (WO.p rfl rfl (WO.nil ?_)))))))
 refine W.cond_bl rfl (fun c1=>?_) (fun c1=>?_)
 ·refine W.skip (W.seq (W.block (W.sreg (WO.p rfl rfl (WO.nil (W.seq ?_))))))
  have hrw:=hc.row (show i<R.length by omega)
  refine W.sreg (WO.p rfl rfl (WO.nil (W.block (W.chg (owNil (enc:=encI) (e:=2) (sz:=1)) ?_))))
  refine W.loop4 (fun (k:Nat) (a:Nat) (ru:Value) (row:List Int)=>k≤(R.getD i []).length∧a≤10*i+k∧RowI R i row k)
   (fun (k:Nat) (a:Nat) (ru:Value) (row:List Int)=>[(9,.int .i64 (k:Int)),(8,ru),(7,.int .i64 (i:Int)),(6,.int .i64 (a:Int)),(5,tv),(2,.pointer (some ⟨b1,0,none⟩)),(1,u)])
   (fun (k:Nat) (a:Nat) (ru:Value) (row:List Int)=>[pt b1 (.cells #[vp,va,o] 25 (0,0)),OwC 22 1 tv i rvT,RowsE encI 2 1 rvT T,OwE encI 2 1 ru row])
   (fun (k:Nat) (a:Nat) (ru:Value) (row:List Int)=>(R.getD i []).length-k) 0 a (.slice none 0 0) []
   (by exact ⟨by omega,by omega,rfl,fun j hj=>by omega⟩) ⟨rfl,rfl,rfl,rfl,rfl,rfl,rfl,trivial⟩ (by repeat (first | exact Sub.nil | refine Sub.cons (by repeat first | exact .head | apply Pick.tail) ?_)) ?_
  rintro k a ru row ⟨hk0,hka,hrow⟩
  refine W.seq (W.sreg (WO.p rfl rfl (WO.fieldL rfl rfl rfl (WO.load rfl rfl (Cell.own Pick.head rfl) rfl (WO.p rfl rfl (WO.indexAddr rfl rfl rfl hR.sl (by omega) rfl ?_))))))
  refine' WO.load (v:=_) rfl rfl ?hc rfl ?_
  case hc=>((refine hR.cellV ?_;omega))
  refine' WO.len (n:=_) rfl rfl ?hs rfl ?_
  case hs=>((refine (hR.row i ?_).sl;omega))
  refine WO.p rfl rfl (WO.nil ?_)
  refine W.cond_bl rfl (fun c2=>?_) (fun c2=>?_)
  ·refine W.skip (W.seq (W.block ?_))
   have hat:=hc.at_ (show i<R.length by omega) (show k<(R.getD i []).length by omega)
   have hrw:=hc.row (show i<R.length by omega)
   refine W.sreg (WO.fieldL rfl rfl rfl (WO.load rfl rfl (Cell.own Pick.head rfl) rfl (WO.p rfl rfl (WO.indexAddr rfl rfl rfl hR.sl (by omega) rfl ?_))))
   refine' WO.load (v:=_) rfl rfl ?hc rfl ?_
   case hc=>((refine hR.cellV ?_;omega))
   refine WO.p rfl rfl ?_
   refine' WO.indexAddr (n:=_) (i:=_) rfl rfl rfl ?hs ?h1 rfl ?_
   case hs=>((refine (hR.row i ?_).sl;omega))
   case h1=>(omega)
   refine WO.loadA rfl rfl ((RdF.cells (hR.row i (by omega)) (i:=k) (by omega) (0,0):Cells _ _ (elt (rv.getD i undef) k 2) [.int .i64 ((R.getD i []).getD k (0,0)).1,.int .i64 ((R.getD i []).getD k (0,0)).2])) rfl rfl (WO.alloc rfl rfl rfl (fun b2 hb2=>(WO.storeA rfl rfl rfl rfl Pick.head rfl rfl (WO.nil (W.sreg (WO.field0 rfl rfl rfl (WO.load rfl rfl (Cell.own Pick.head rfl) rfl (WO.p rfl rfl (WO.nil (W.seq (W.sreg (WO.p rfl rfl (WO.len rfl rfl hB.sl rfl (WO.p rfl rfl (WO.nil ?_)))))))))))))))
   refine W.cond_bl rfl (fun c3=>?_) (fun c3=>?_)
   ·have hm:=Ch.tmod_lt (a:=(a:Int)) (b:=(bs.length:Int)) (by omega) (by omega)
    have hbv:=hbs _ (getD_mem (show ((a:Int).tmod (bs.length:Int)).toNat<bs.length by omega) 0)
    have hm2:=Ch.tmod_lt (a:=bs.getD ((a:Int).tmod (bs.length:Int)).toNat 0) (b:=((R.getD i []).getD k (0,0)).2-((R.getD i []).getD k (0,0)).1+1) hbv.1 (by omega)
    refine W.drawD 16 [.r 0 [],.r 1 [],.r 2 [],.r 3 [],.r 4 [],.r 5 [],.r 6 [],.b 7 [],.r 8 [],.r 9 [],.b 10 [],.r 11 [],.b 12 [],.r 13 [],.r 14 [],.r 15 []] [] (A0:=[]) (Sub.refl _) (by kernel_rfl) ?_ ?_
    ·repeat constructor
    refine DT.r rfl rfl rfl (WO.p rfl rfl (WO.nil ⟨rfl,rfl⟩)) (DT.r rfl rfl rfl (WO.p rfl rfl (WO.nil ⟨rfl,rfl⟩)) (DT.r rfl rfl rfl (WO.p rfl rfl (WO.nil ⟨rfl,rfl⟩)) (DT.r rfl rfl rfl (WO.p rfl rfl (WO.nil ⟨rfl,rfl⟩)) (DT.r rfl rfl rfl (WO.len rfl rfl hB.sl rfl (WO.nil ⟨rfl,rfl⟩)) (DT.r rfl rfl rfl (WO.rem rfl rfl (by omega) rfl (WO.nil ⟨rfl,rfl⟩)) ?_)))))
    refine' DT.r rfl rfl rfl ?hq ?_
    case hq =>
     refine' WO.indexAddrZ (n:=_) rfl rfl rfl ?hs ?h00 ?h1 rfl ?_
     case hs=>exact hB.sl
     case h00=>omega
     case h1=>(omega)
     exact WO.nil ⟨rfl,rfl⟩
    refine' DT.b rfl rfl rfl ?hq ?_
    case hq =>
     refine' WO.load (v:=_) rfl rfl ?hc rfl ?_
     case hc=>(first | (refine hB.cell0 (i:=((a:Int).tmod (bs.length:Int)).toNat) ?_ 0 ?_ <;> first | rfl | omega))
     exact WO.nil ⟨rfl,rfl⟩
    refine DT.r rfl rfl rfl (WO.conv64 rfl rfl rfl (by unfold in64;omega) rfl (WO.nil ⟨rfl,rfl⟩)) (DT.r rfl rfl rfl (WO.fieldL rfl rfl rfl (WO.nil ⟨rfl,rfl⟩)) (DT.b rfl rfl rfl (WO.load rfl rfl (Cell.own Pick.head rfl) rfl (WO.nil ⟨rfl,rfl⟩)) (DT.r rfl rfl rfl (WO.field0 rfl rfl rfl (WO.nil ⟨rfl,rfl⟩)) (DT.b rfl rfl rfl (WO.load rfl rfl (Cell.own Pick.head rfl) rfl (WO.nil ⟨rfl,rfl⟩)) (DT.r rfl rfl rfl (WO.ar rfl rfl rfl (by unfold in64;omega) rfl (WO.nil ⟨rfl,rfl⟩)) (DT.r rfl rfl rfl (WO.ar rfl rfl rfl (by unfold in64;omega) rfl (WO.nil ⟨rfl,rfl⟩)) (DT.r rfl rfl rfl (WO.rem rfl rfl (by omega) rfl (WO.nil ⟨rfl,rfl⟩)) ?_)))))))
    refine DT.nil [_,_,_,_,_] rfl (WO.ar rfl rfl rfl (by unfold in64;omega) rfl (WO.p rfl rfl (WO.nil ?_)))
    have hrl:=hrow.1
    have hrw:=hc.row (show i<R.length by omega)
    refine W.sreg (WO.p rfl rfl (WO.p rfl rfl (WO.buildSl rfl rfl rfl rfl rfl rfl rfl rfl rfl (fun v3=>?_))))
    refine' WO.appendE (enc:=encI) (m:=1) (xs:=row) (ys:=[_]) encI_ok rfl rfl rfl rfl rfl (by repeat first | exact .head | apply Pick.tail) (isSl_lit (by omega) (fun _=>⟨_,_,rfl⟩)) (by omega) rfl (OwC.cells .head) (by omega) (by omega) rfl (fun g c=>?_)
    refine WO.p rfl rfl (WO.nil (W.region (WO.p rfl rfl (WO.ar rfl rfl rfl (by unfold in64;omega) rfl (WO.p rfl rfl (WO.nil (W.region (WO.p rfl rfl (WO.ar rfl rfl rfl (by unfold in64;omega) rfl (WO.p rfl rfl (WO.nil ?_)))))))))))
    refine' ⟨k+1,a+1,_,_,?hp,?hmu,⟨rfl,rfl,rfl,rfl,rfl,rfl,rfl,trivial⟩,?hS⟩
    case hS=>repeat (first | exact Sub.nil | refine Sub.cons (by repeat first | exact .head | apply Pick.tail) ?_)
    case hp=>exact ⟨by omega,by omega,hrow.next (by omega)⟩
    case hmu=>omega
   ·refine W.skip ?_
    have hrl:=hrow.1
    have hrw:=hc.row (show i<R.length by omega)
    refine W.sreg (WO.p rfl rfl (WO.p rfl rfl (WO.buildSl rfl rfl rfl rfl rfl rfl rfl rfl rfl (fun v4=>?_))))
    refine' WO.appendE (enc:=encI) (m:=1) (xs:=row) (ys:=[_]) encI_ok rfl rfl rfl rfl rfl (by repeat first | exact .head | apply Pick.tail) (isSl_lit (by omega) (fun _=>⟨_,_,rfl⟩)) (by omega) rfl (OwC.cells .head) (by omega) (by omega) rfl (fun g c=>?_)
    refine WO.p rfl rfl (WO.nil (W.region (WO.p rfl rfl (WO.ar rfl rfl rfl (by unfold in64;omega) rfl (WO.p rfl rfl (WO.nil (W.region (WO.p rfl rfl (WO.ar rfl rfl rfl (by unfold in64;omega) rfl (WO.p rfl rfl (WO.nil ?_)))))))))))
    refine' ⟨k+1,a+1,_,_,?hp,?hmu,⟨rfl,rfl,rfl,rfl,rfl,rfl,rfl,trivial⟩,?hS⟩
    case hS=>repeat (first | exact Sub.nil | refine Sub.cons (by repeat first | exact .head | apply Pick.tail) ?_)
    case hp=>exact ⟨by omega,by omega,hrow.next (by omega)⟩
    case hmu=>omega
  ·refine W.exit (blk_same ?_)
   obtain rfl:k=(R.getD i []).length:=by omega
   refine W.fact (OwE.form (enc:=encI) (e:=2) (sz:=1) (v:=ru) (xs:=row) (by repeat first | exact .head | apply Pick.tail)) ?_
   rintro ⟨ta,tc,rfl⟩
   refine W.region (WO.p rfl rfl (WO.p rfl rfl (WO.buildSl rfl rfl rfl rfl rfl rfl rfl rfl rfl (fun v5=>?_))))
   refine' WO.append (m:=1) (news:=[.slice ta row.length tc]) rfl rfl rfl rfl rfl (by repeat first | exact .head | apply Pick.tail) (isSl_lit (by omega) (fun _=>⟨_,_,rfl⟩)) (by omega) (OwC.cells (by repeat exact .head)) rfl (by simp [Value.oneCell']) (by omega) (by omega) rfl (fun g' c'=>?_)
   refine WO.chg (H':=OwC 22 1 (.slice (some ⟨g',0,none⟩) (i+1) c') (i+1) (rvT++[.slice ta row.length tc])::RowsE encI 2 1 rvT T::OwE encI 2 1 (.slice ta row.length tc) row::pt b1 (.cells #[vp,va,o] 25 (0,0))::[]) (fun h hs=>Sub.sat (by repeat (first | exact Sub.nil | refine Sub.cons (by repeat first | exact .head | apply Pick.tail) ?_)) hs) ?_
   refine WO.chg (rowsSnoc (enc:=encI) (e:=2) (sz:=1) (rv:=rvT) (xss:=T) (xs:=row) (r:=.slice ta row.length tc) (.tail .head) (.tail .head)) (WO.p rfl rfl (WO.nil (W.region (WO.p rfl rfl (WO.ar rfl rfl rfl (by unfold in64;omega) rfl (WO.p rfl rfl (WO.nil ?_)))))))
   refine' ⟨i+1,_,_,_,_,?hp,?hmu,⟨rfl,rfl,rfl,rfl,rfl,trivial⟩,?hS⟩
   case hS=>repeat (first | exact Sub.nil | refine Sub.cons (by repeat first | exact .head | apply Pick.tail) ?_)
   case hp=>exact ⟨by omega,by omega,hT.next hrow⟩
   case hmu=>omega
 ·refine W.exit (blk_same ?_)
  obtain rfl:i=R.length:=by omega
  refine W.sreg (WO.p rfl rfl (WO.p rfl rfl (WO.nil (W.ret ?_))))
  exact fin.ret (Res.one rfl (RV.tmp rfl)) ⟨(tv,rvT,T),⟨rfl,hT.tr⟩,fun h hs=>Sub.sat (by repeat (first | exact Sub.nil | refine Sub.cons (by repeat first | exact .head | apply Pick.tail) ?_)) hs⟩
end Go.Proofs.YtfchgmiiicidcaaGreat
namespace Go.Proofs.YtfchgmiiicidcaaGreat
open Go Go.TH Go.ChangeShapes Go.WideShapes Go.ChangeAt Go.RowKit
set_option maxRecDepth 100000
section
variable {H:Type} {enc:TypeId × Value→H} {w:World}
theorem cells52:Tryz.prog.cellsOf 52=1:=by kernel_rfl
theorem cells65:Tryz.prog.cellsOf 65=2:=by kernel_rfl
theorem cells50:Tryz.prog.cellsOf 50=16:=by kernel_rfl
theorem cells53:Tryz.prog.cellsOf 53=6:=by kernel_rfl
theorem open_sl {α:Type} {en:α→List Value} {sz T e:Nat} {Q:α→Prop} {base:Nat} {v:Value} {d:DataW H} {ps:List MemPlace} (hT:Tryz.prog.underlying T=some (.slice e)) (hc:Tryz.prog.cellsOf e=sz) (hz:0<sz) (hd:∀ n c y,c.length=sz→DataW.trod enc Tryz.prog w 0 (fun _=>true) true n e c=some y→∃ z,c=en z∧Q z) (hv:Value.okWide Tryz.prog w .any base T v) (h:DataW.Trod enc Tryz.prog w 0 (fun _=>true) true T v d ps):∃ xs,RdF en sz w.heap.size w v xs∧∀ x∈xs,Q x:=by
  obtain ⟨a0,len,cap,rfl⟩:=okWide_slice hT hv
  obtain ⟨fuel,hf⟩:=h
  obtain ⟨o,xs,ho,hr,hq⟩:=open_rd (en:=en) (Q:=Q) hT hc hz hd hf
  simp [Value.cells] at ho
  subst ho
  exact ⟨xs,hr,hq⟩
theorem rd_u32 {n:Nat} {c:List Value} {y:DataW H × List MemPlace} (h:DataW.trod enc Tryz.prog w 0 (fun _=>true) true n 52 c=some y):∃ z:Int,c=encU4 z∧0≤z∧z≤4294967295:=by
  obtain ⟨z,rfl,_,hw⟩:=DataW.trod_int Tryz.underlying52 h
  simp [Lit.wf,IntKind.min,IntKind.max,IntKind.signed,IntKind.bits] at hw
  exact ⟨z,rfl,by omega,by omega⟩
theorem open_truly {base:Nat} {v:Value} {d:DataW H} {ps:List MemPlace} (hv:Value.okWide Tryz.prog w .any base 54 v) (h:DataW.Trod enc Tryz.prog w 0 (fun _=>true) true 54 v d ps):∃ xs:List Int,RdF encU4 1 w.heap.size w v xs∧∀ x∈xs,0≤x∧x≤4294967295 :=
  open_sl (Q:=fun x:Int=>0≤x∧x≤4294967295) Tryz.underlying54 cells52 (by omega) (fun n c y hl hy=>rd_u32 hy) hv h
theorem open_u16 {base:Nat} {v:Value} {d:DataW H} {ps:List MemPlace} (hv:Value.okWide Tryz.prog w .any base 55 v) (h:DataW.Trod enc Tryz.prog w 0 (fun _=>true) true 55 v d ps):∃ z:Int,v=.int .u16 z∧0≤z∧z≤65535:=by
  obtain ⟨z,rfl,h1,h2⟩:=open_kind Tryz.underlying55 hv h
  simp [IntKind.min,IntKind.max,IntKind.signed,IntKind.bits] at h1 h2
  exact ⟨z,rfl,by omega,by omega⟩
theorem ex_rows {α β:Type} {R:α→β→Prop} {a0:α} {b0:β}:∀ (l:List α),(∀ z∈l,∃ y,R z y)→∃ ys:List β,l.length=ys.length∧∀ i,i<ys.length→R (l.getD i a0) (ys.getD i b0)
  | [],_=>⟨[],rfl,fun i h=>by simp at h⟩
  | x::xs,h=>by
    obtain ⟨y,hy⟩:=h x (by simp)
    obtain ⟨ys,h1,h2⟩:=ex_rows (a0:=a0) (b0:=b0) xs (fun z hz=>h z (by simp [hz]))
    refine ⟨y::ys,by simp [h1],fun i hi=>?_⟩
    cases i with
    | zero=>exact hy
    | succ i=>exact h2 i (by simpa using hi)
theorem rd_line {n:Nat} {c:List Value} {y:DataW H × List MemPlace} (hl:c.length=2) (h:DataW.trod enc Tryz.prog w 0 (fun _=>true) true n 65 c=some y):∃ z:VV,c=encVV z∧∃ l:Ln,RdF encI 1 w.heap.size w z.1 l.1∧RdF encI 1 w.heap.size w z.2 l.2:=by
  obtain ⟨y0,y1,m,_,_,h0,h1⟩:=trod_struct2 Tryz.underlying65 h
  rw [cells22] at h0 h1
  match c,hl with
  | [a,b],_ =>
    obtain ⟨o,xs,ho,hr,hq⟩:=open_rd (en:=encI) (Q:=in64) Tryz.underlying22 cells2 (by omega) (fun n c y hl hy=>rd_int hy) h0
    obtain ⟨u,ys,hu,hr2,hq2⟩:=open_rd (en:=encI) (Q:=in64) Tryz.underlying22 cells2 (by omega) (fun n c y hl hy=>rd_int hy) h1
    simp at ho hu
    subst ho;subst hu
    exact ⟨(a,b),rfl,(xs,ys),hr,hr2⟩
theorem open_lines {base:Nat} {v:Value} {d:DataW H} {ps:List MemPlace} (hv:Value.okWide Tryz.prog w .any base 51 v) (h:DataW.Trod enc Tryz.prog w 0 (fun _=>true) true 51 v d ps):∃ (vs:List VV) (ls:List Ln),RdL w.heap.size w v vs ls:=by
  obtain ⟨vs,hr,hq⟩:=open_sl (en:=encVV) (Q:=fun z:VV=>∃ l:Ln,RdF encI 1 w.heap.size w z.1 l.1∧RdF encI 1 w.heap.size w z.2 l.2) Tryz.underlying51 cells65 (by omega) (fun n c y hl hy=>rd_line hl hy) hv h
  obtain ⟨ls,h1,h2⟩:=ex_rows (a0:=vv0) (b0:=ln0) vs hq
  exact ⟨vs,ls,hr,h1,fun i hi=>(h2 i hi).1,fun i hi=>(h2 i hi).2⟩
theorem open_test {base:Nat} {v:Value} {d:DataW H} {ps:List MemPlace} (hv:Value.okWide Tryz.prog w .any base 50 v) (h:DataW.Trod enc Tryz.prog w 0 (fun _=>true) true 50 v d ps):∃ t:Tst,v=tstV t:=by
  unfold Value.okWide at hv
  rw [Tryz.underlying50] at hv
  obtain ⟨cs,rfl,hs,_⟩:=hv
  obtain ⟨fuel,hf⟩:=h
  obtain ⟨xs,n,_,_,hl,hx,he⟩:=DataW.trod_struct Tryz.underlying50 hf
  rw [cells50] at hl
  obtain ⟨l,hcs⟩:∃ l,cs=List.toArray l:=⟨cs.toList,by simp⟩
  subst hcs
  simp only [Value.cells] at hl he
  match l,hl with
  | [a0,a1,a2,a3,a4,a5,a6,a7,a8,a9,a10,a11,a12,a13,a14,a15],_ =>
    have g0:∀ (i:Nat),i<10→∃ y,xs[i]?=some y:=fun i hi=>⟨xs[i]'(by rw [hx];exact hi),by simp [hx,hi]⟩
    have g:∀ (i:Nat) (a:Value),i<10→(DataW.trod enc Tryz.prog w 0 (fun _=>true) true n 2 [a]=xs[i]?)→∃ z:Int,a=.int .i64 z:=fun i a hi h3=>by
      obtain ⟨y,hy⟩:=g0 i hi
      rw [hy] at h3
      obtain ⟨u,hu,_⟩:=rd_int h3
      simp [encI] at hu
      exact ⟨u,hu⟩
    have r:∀ (i:Nat) (a b:Value),i<10→(DataW.trod enc Tryz.prog w 0 (fun _=>true) true n 30 [a,b]=xs[i]?)→∃ y z:Int,a=.int .i64 y∧b=.int .i64 z:=fun i a b hi h3=>by
      obtain ⟨y,hy⟩:=g0 i hi
      rw [hy] at h3
      obtain ⟨⟨u,x⟩,hu,_⟩:=rd_rng rfl h3
      simp [encP] at hu
      exact ⟨u,x,hu⟩
    have e0:=he 0 _ rfl
    have e1:=he 1 _ rfl
    have e2:=he 2 _ rfl
    have e3:=he 3 _ rfl
    have e4:=he 4 _ rfl
    have e5:=he 5 _ rfl
    have e6:=he 6 _ rfl
    have e7:=he 7 _ rfl
    have e8:=he 8 _ rfl
    have e9:=he 9 _ rfl
    simp [cells2,cells30] at e0 e1 e2 e3 e4 e5 e6 e7 e8 e9
    obtain ⟨z0,rfl⟩:=g 0 a0 (by omega) (by simpa using e0)
    obtain ⟨z1,rfl⟩:=g 1 a1 (by omega) (by simpa using e1)
    obtain ⟨z2,rfl⟩:=g 2 a2 (by omega) (by simpa using e2)
    obtain ⟨z3,rfl⟩:=g 3 a3 (by omega) (by simpa using e3)
    obtain ⟨z4,z5,rfl,rfl⟩:=r 4 a4 a5 (by omega) (by simpa using e4)
    obtain ⟨z6,z7,rfl,rfl⟩:=r 5 a6 a7 (by omega) (by simpa using e5)
    obtain ⟨z8,z9,rfl,rfl⟩:=r 6 a8 a9 (by omega) (by simpa using e6)
    obtain ⟨z10,z11,rfl,rfl⟩:=r 7 a10 a11 (by omega) (by simpa using e7)
    obtain ⟨z12,z13,rfl,rfl⟩:=r 8 a12 a13 (by omega) (by simpa using e8)
    obtain ⟨z14,z15,rfl,rfl⟩:=r 9 a14 a15 (by omega) (by simpa using e9)
    exact ⟨⟨z0,z1,z2,z3,z4,z5,z6,z7,z8,z9,z10,z11,z12,z13,z14,z15⟩,rfl⟩
theorem open_six {base:Nat} {v:Value} {d:DataW H} {ps:List MemPlace} (hv:Value.okWide Tryz.prog w .any base 53 v) (h:DataW.Trod enc Tryz.prog w 0 (fun _=>true) true 53 v d ps) :
    ∃ y0 y1 y2 y3 y4 y5:Int,v=.agg #[.int .u32 y0,.int .u32 y1,.int .u32 y2,.int .u32 y3,.int .u32 y4,.int .u32 y5]∧(0≤y0∧y0≤4294967295)∧(0≤y1∧y1≤4294967295)∧(0≤y2∧y2≤4294967295)∧(0≤y3∧y3≤4294967295)∧(0≤y4∧y4≤4294967295)∧0≤y5∧y5≤4294967295:=by
  unfold Value.okWide at hv
  rw [Tryz.underlying53] at hv
  obtain ⟨cs,rfl,hs,_⟩:=hv
  obtain ⟨fuel,hf⟩:=h
  obtain ⟨xs,m,_,_,hl,hx,he⟩:=DataW.trod_array Tryz.underlying53 hf
  rw [cells53] at hl
  obtain ⟨l,hcs⟩:∃ l,cs=List.toArray l:=⟨cs.toList,by simp⟩
  subst hcs
  simp only [Value.cells] at hl he
  match l,hl with
  | [a0,a1,a2,a3,a4,a5],_ =>
    have g:∀ (i:Nat) (a:Value),i<6→(DataW.trod enc Tryz.prog w 0 (fun _=>true) true m 52 [a]=xs[i]?)→∃ z:Int,a=.int .u32 z∧0≤z∧z≤4294967295:=fun i a hi h3=>by
      obtain ⟨y,hy⟩:∃ y,xs[i]?=some y:=⟨xs[i]'(by rw [hx];exact hi),by simp [hx,hi]⟩
      rw [hy] at h3
      obtain ⟨z,hz,i1,i2⟩:=rd_u32 h3
      simp [encU4] at hz
      exact ⟨z,hz,i1,i2⟩
    have e0:=he 0 (by omega)
    have e1:=he 1 (by omega)
    have e2:=he 2 (by omega)
    have e3:=he 3 (by omega)
    have e4:=he 4 (by omega)
    have e5:=he 5 (by omega)
    rw [cells52] at e0 e1 e2 e3 e4 e5
    simp at e0 e1 e2 e3 e4 e5
    obtain ⟨y0,rfl,i0⟩:=g 0 a0 (by omega) (by simpa using e0)
    obtain ⟨y1,rfl,i1⟩:=g 1 a1 (by omega) (by simpa using e1)
    obtain ⟨y2,rfl,i2⟩:=g 2 a2 (by omega) (by simpa using e2)
    obtain ⟨y3,rfl,i3⟩:=g 3 a3 (by omega) (by simpa using e3)
    obtain ⟨y4,rfl,i4⟩:=g 4 a4 (by omega) (by simpa using e4)
    obtain ⟨y5,rfl,i5⟩:=g 5 a5 (by omega) (by simpa using e5)
    exact ⟨y0,y1,y2,y3,y4,y5,rfl,i0,i1,i2,i3,i4,i5⟩
end
end Go.Proofs.YtfchgmiiicidcaaGreat
namespace Go.Proofs.YtfchgmiiicidcaaGreat
open Go Go.TH
attribute [local irreducible] W WO pt
set_option maxRecDepth 10000
set_option maxHeartbeats 1000000
def reB (xs:List Int) (i:Nat):Int:=if i=0 then 0 else xat xs (i-1)
def cfB (ys:List Int) (i:Nat):Int:=if i=0 then 100000 else xat ys (i-1)
theorem reB_s (xs:List Int) (i:Nat):reB xs (i+1)=xat xs i:=by unfold reB;rw [if_neg (by omega)];rfl
theorem cfB_s (ys:List Int) (i:Nat):cfB ys (i+1)=xat ys i:=by unfold cfB;rw [if_neg (by omega)];rfl
theorem OkLn.bds {xs ys:List Int} (h:OkLn xs ys) {i:Nat} (hi:i<xs.length):(0≤reB xs i∧reB xs i+1≤xs.getD i 0∧xs.getD i 0≤1000000000)∧0≤ys.getD i 0∧ys.getD i 0≤cfB ys i:=by
 have h1:=h.re i hi
 have h2:=h.cf i hi
 unfold reB cfB xat at *
 split
 ·omega
 ·have h3:=h.up (i-1) (by omega)
  have h4:=h.dn (i-1) (by omega)
  have h5:=h.re (i-1) (by omega)
  have e:i-1+1=i:=by omega
  rw [e] at h3 h4
  unfold xat at *
  omega
theorem c_CheckLine (w:World) (v u:Value) (xs ys:List Int) (hX:RdF encI 1 w.heap.size w v xs) (hY:RdF encI 1 w.heap.size w u ys) (hL:OkLn xs ys):Ret Tryz.prog 50 [.agg #[v,u]].toArray w (.int .i64 0):=by
 refine Ret.of mixed tyTab Tryz.func50 rfl rfl ?_
 replace hX:RdF encI 1 (fnCx mixed tyTab Tryz.f50.ntmps w).B (fnCx mixed tyTab Tryz.f50.ntmps w).w0 v xs:=hX
 replace hY:RdF encI 1 (fnCx mixed tyTab Tryz.f50.ntmps w).B (fnCx mixed tyTab Tryz.f50.ntmps w).w0 u ys:=hY
 have hxo:=hX.sl.oc
 have hyo:=hY.sl.oc
 have hn:=hL.n
 have hyn:=hL.len
 refine W.sreg (WO.boxA rfl rfl (fun b1 hb1=>(WO.p rfl rfl (WO.nil (W.seq (W.block (W.sreg (WO.field0 rfl rfl rfl (WO.load rfl rfl (Cell.own Pick.head rfl) rfl ?_)))))))))
 refine' WO.len (n:=_) rfl rfl ?hs rfl ?_
 case hs=>(first | exact hX.sl)
 refine WO.p rfl rfl (WO.p rfl rfl ?_)
 refine WO.guard_bl rfl rfl (fun c1=>?_) (fun c1=>?_)
 ·exfalso;omega
 ·refine WO.go' rfl (WO.field0 rfl rfl rfl (WO.go' rfl (WO.load rfl rfl (Cell.own Pick.head rfl) rfl (WO.go' rfl ?_))))
  refine' WO.len (n:=_) rfl rfl ?hs rfl ?_
  case hs=>(first | exact hX.sl)
  refine WO.pg rfl rfl rfl (WO.p rfl rfl (WO.p rfl rfl (WO.nil ?_)))
  refine W.cond_bl rfl (fun c2=>?_) (fun c2=>?_)
  ·exfalso;omega
  ·refine W.sreg (WO.fieldL rfl rfl rfl (WO.load rfl rfl (Cell.own Pick.head rfl) rfl ?_))
   refine' WO.len (n:=_) rfl rfl ?hs rfl ?_
   case hs=>(first | exact hY.sl)
   refine WO.field0 rfl rfl rfl (WO.load rfl rfl (Cell.own Pick.head rfl) rfl ?_)
   refine' WO.len (n:=_) rfl rfl ?hs rfl ?_
   case hs=>(first | exact hX.sl)
   refine WO.p rfl rfl (WO.p rfl rfl (WO.nil ?_))
   refine W.cond_bl rfl (fun c3=>?_) (fun c3=>?_)
   ·exfalso;omega
   ·refine W.skip (W.sreg (WO.p rfl rfl (WO.p rfl rfl (WO.nil (W.seq (W.sreg (WO.field0 rfl rfl rfl (WO.load rfl rfl (Cell.own Pick.head rfl) rfl ?_))))))))
    refine' WO.len (n:=_) rfl rfl ?hs rfl ?_
    case hs=>(first | exact hX.sl)
    refine WO.p rfl rfl (WO.nil (W.block ?_))
    refine W.loop3 (fun (i:Nat) (a:Int) (b:Int)=>i≤xs.length∧a=reB xs i∧b=cfB ys i)
     (fun (i:Nat) (a:Int) (b:Int)=>[(1,.pointer (some ⟨b1,0,none⟩)),(2,.int .i64 0),(3,.int .i64 a),(4,.int .i64 b),(27,v),(28,.int .i64 (xs.length:Int)),(29,.int .i64 (i:Int))])
     (fun (i:Nat) (a:Int) (b:Int)=>[pt b1 (.cells #[v,u] 65 (0,0))])
     (fun (i:Nat) (a:Int) (b:Int)=>xs.length-i) 0 0 100000
     (by exact ⟨by omega,rfl,rfl⟩) ⟨rfl,rfl,rfl,rfl,rfl,rfl,rfl,trivial⟩ (by repeat (first | exact Sub.nil | refine Sub.cons (by repeat exact .head) ?_)) ?_
    rintro i a b ⟨hi0,rfl,rfl⟩
    refine W.sreg (WO.p rfl rfl (WO.nil (W.seq ?_)))
    refine W.cond_bl rfl (fun c4=>?_) (fun c4=>?_)
    ·refine W.skip (W.seq (W.block (W.sreg (WO.p rfl rfl ?_))))
     refine' WO.indexAddr (n:=_) (i:=_) rfl rfl rfl ?hs ?h1 rfl ?_
     case hs=>(first | exact hX.sl)
     case h1=>(omega)
     refine' WO.load (v:=_) rfl rfl ?hc rfl ?_
     case hc=>((refine hX.cell0 (i:=i) (by omega) 0 ?_;rfl))
     refine WO.p rfl rfl (WO.p rfl rfl (WO.nil (W.seq (W.seq ?_))))
     have hb:=hL.bds (i:=i) (by omega)
     refine W.drawD 10 [.r 0 [],.r 1 [],.r 2 [],.b 3 [],.r 4 [],.b 5 [],.r 6 [],.r 7 [],.b 8 [],.r 9 []] [] (A0:=[]) (Sub.refl _) (by kernel_rfl) ?_ ?_
     ·repeat constructor
     refine DT.r rfl rfl rfl (WO.p rfl rfl (WO.nil ⟨rfl,rfl⟩)) (DT.r rfl rfl rfl (WO.p rfl rfl (WO.nil ⟨rfl,rfl⟩)) (DT.r rfl rfl rfl (WO.ar rfl rfl rfl (by unfold in64;omega) rfl (WO.nil ⟨rfl,rfl⟩)) (DT.b rfl rfl rfl (WO.callR (r:=bdV ⟨xs.getD i 0,xs.getD i 0,reB xs i+1,1000000000⟩) rfl Tryz.call53 (fun L w hi=>c_exactly w _ _ _) rfl (WO.nil ⟨rfl,rfl⟩)) (DT.r rfl rfl rfl (WO.fieldL rfl rfl rfl (WO.nil ⟨rfl,rfl⟩)) (DT.b rfl rfl rfl (WO.load rfl rfl (Cell.own Pick.head rfl) rfl (WO.nil ⟨rfl,rfl⟩)) (DT.r rfl rfl rfl (WO.p rfl rfl (WO.nil ⟨rfl,rfl⟩)) ?_))))))
     refine' DT.r rfl rfl rfl ?hq ?_
     case hq =>
      refine' WO.indexAddr (n:=_) (i:=_) rfl rfl rfl ?hs ?h1 rfl ?_
      case hs=>(first | exact hY.sl)
      case h1=>(omega)
      exact WO.nil ⟨rfl,rfl⟩
     refine' DT.b rfl rfl rfl ?hq ?_
     case hq =>
      refine' WO.load (v:=_) rfl rfl ?hc rfl ?_
      case hc=>((refine hY.cell0 (i:=i) (by omega) 0 ?_;rfl))
      exact WO.nil ⟨rfl,rfl⟩
     refine DT.r rfl rfl rfl (WO.p rfl rfl (WO.nil ⟨rfl,rfl⟩)) (DT.nil [_] rfl (WO.callR (r:=bdV ⟨ys.getD i 0,ys.getD i 0,0,cfB ys i⟩) rfl Tryz.call53 (fun L w hi=>c_exactly w _ _ _) rfl (WO.buildSl rfl rfl rfl rfl rfl rfl rfl rfl rfl (fun v2=>(WO.call (Post:=fun r Hq=>∃ b,r=.func (.func 201) #[] #[.pointer (some ⟨b,0,none⟩)]∧Hq=[pt b (.cells #[.slice (some ⟨v2,0,none⟩) 2 2] 201 (0,0))]) rfl Tryz.call52 (fun L w hi=>c_bounds w _ rfl) rfl ?_)))))
     rintro _ _ ⟨b9,rfl,rfl⟩
     refine WO.callR (r:=.bool true) rfl Tryz.call51 (fun L w hi=>c_good w ⟨b9,0,none⟩ _ [⟨xs.getD i 0,xs.getD i 0,reB xs i+1,1000000000⟩,⟨ys.getD i 0,ys.getD i 0,0,cfB ys i⟩] (Cap.of (b:=b9) (by repeat exact .head) rfl hi) (RdF.of_ow (e:=127) encBd_ok (by repeat first | exact .head | apply Pick.tail) hi) (fun b hb2=>by have:b=⟨xs.getD i 0,xs.getD i 0,reB xs i+1,1000000000⟩∨b=⟨ys.getD i 0,ys.getD i 0,0,cfB ys i⟩:=(by simpa using hb2);rcases this with rfl | rfl <;> (unfold OkBd;dsimp only;omega))) rfl (WO.p rfl rfl (WO.nil (W.cond_f rfl (W.skip ?_))))
     refine W.drawD 7 [.r 0 [],.r 1 [3],.b 2 [3],.r 3 [3],.r 4 [3],.b 5 [3],.r 6 [3]] [3] (A0:=[]) (Sub.refl _) (by kernel_rfl) ?_ ?_
     ·repeat constructor
     refine DT.r rfl rfl rfl (WO.p rfl rfl (WO.nil ⟨rfl,rfl⟩)) (DT.r rfl rfl rfl (WO.fieldL rfl rfl rfl (WO.nil ⟨rfl,rfl⟩)) (DT.b rfl rfl rfl (WO.load rfl rfl (Cell.own (Pick.tail (Pick.tail (Pick.head))) rfl) rfl (WO.nil ⟨rfl,rfl⟩)) (DT.r rfl rfl rfl (WO.p rfl rfl (WO.nil ⟨rfl,rfl⟩)) ?_)))
     refine' DT.r rfl rfl rfl ?hq ?_
     case hq =>
      refine' WO.indexAddr (n:=_) (i:=_) rfl rfl rfl ?hs ?h1 rfl ?_
      case hs=>(first | exact hY.sl)
      case h1=>(omega)
      exact WO.nil ⟨rfl,rfl⟩
     refine' DT.b rfl rfl rfl ?hq ?_
     case hq =>
      refine' WO.load (v:=_) rfl rfl ?hc rfl ?_
      case hc=>((refine hY.cell0 (i:=i) (by omega) 0 ?_;rfl))
      exact WO.nil ⟨rfl,rfl⟩
     refine DT.r rfl rfl rfl (WO.p rfl rfl (WO.nil ⟨rfl,rfl⟩)) (DT.nil [_,_,_] rfl (WO.p rfl rfl (WO.nil (W.region (WO.ar rfl rfl rfl (by unfold in64;omega) rfl (WO.p rfl rfl (WO.nil ?_)))))))
     refine' ⟨i+1,_,_,?hp,?hmu,⟨rfl,rfl,rfl,rfl,rfl,rfl,rfl,trivial⟩,?hS⟩
     case hS=>repeat (first | exact Sub.nil | refine Sub.cons (by repeat first | exact .head | apply Pick.tail) ?_)
     case hp=>exact ⟨by omega,(reB_s xs i).symm,(cfB_s ys i).symm⟩
     case hmu=>omega
    ·refine W.exit (blk_same (W.sreg (WO.p rfl rfl (WO.nil (W.ret ?_)))))
     exact fin.ret (Res.one rfl (RV.tmp rfl)) rfl
end Go.Proofs.YtfchgmiiicidcaaGreat
namespace Go.Proofs.YtfchgmiiicidcaaGreat
open Go Go.TH
attribute [local irreducible] W WO pt
set_option maxRecDepth 10000
set_option maxHeartbeats 1000000
theorem mul_bdQ {a b A B:Int} (ha : -A≤a∧a≤A) (hb : -B≤b∧b≤B) : -(A*B)≤a*b∧a*b≤A*B:=by
 have h1:=Int.mul_nonneg (show 0≤A-a by omega) (show 0≤B+b by omega)
 have h2:=Int.mul_nonneg (show 0≤A+a by omega) (show 0≤B-b by omega)
 have h3:=Int.mul_nonneg (show 0≤A-a by omega) (show 0≤B-b by omega)
 have h4:=Int.mul_nonneg (show 0≤A+a by omega) (show 0≤B+b by omega)
 have e1:(A-a)*(B+b)=A*B+A*b-a*B-a*b:=by grind
 have e2:(A+a)*(B-b)=A*B-A*b+a*B-a*b:=by grind
 have e3:(A-a)*(B-b)=A*B-A*b-a*B+a*b:=by grind
 have e4:(A+a)*(B+b)=A*B+A*b+a*B+a*b:=by grind
 omega
theorem tdiv_bdQ {n g:Int} (hg:0<g) (h : -100000000000000≤n∧n≤100000000000000) : -100000000000000≤n.tdiv g∧n.tdiv g≤100000000000000:=by
 rcases Int.le_total 0 n with h0 | h0
 ·have h1:=Int.tdiv_nonneg (a:=n) (b:=g) h0 (by omega)
  have h2:=Int.tdiv_le_self (a:=n) g h0
  omega
 ·have h1:=Int.tdiv_nonneg (a := -n) (b:=g) (by omega) (by omega)
  have h2:=Int.tdiv_le_self (a := -n) g (by omega)
  rw [Int.neg_tdiv] at h1 h2;omega
theorem fit6 {a:Nat} (h:a<1000000):Fits .i64 a:=Nat.lt_of_lt_of_le h (by decide)
theorem c_isNaN6 (w:World) (x:Int):Ret Tryz.prog 205 [.int .i64 x].toArray w (.bool false):=by
 refine Ret.of mixed tyTab Tryz.func205 rfl rfl (W.sreg (WO.p rfl rfl (WO.nil (W.sreg (WO.p rfl rfl (WO.p rfl rfl (WO.p rfl rfl (WO.p rfl rfl (WO.nil (W.ret ?_))))))))))
 exact fin.ret (Res.one rfl (RV.tmp rfl)) (congrArg Value.bool (bl_f.2 (by omega)))
theorem c_isNaN7 (w:World) (x:Int):Ret Tryz.prog 277 [.int .i64 x].toArray w (.bool false):=by
 refine Ret.of mixed tyTab Tryz.func277 rfl rfl (W.sreg (WO.p rfl rfl (WO.nil (W.sreg (WO.p rfl rfl (WO.p rfl rfl (WO.p rfl rfl (WO.p rfl rfl (WO.nil (W.ret ?_))))))))))
 exact fin.ret (Res.one rfl (RV.tmp rfl)) (congrArg Value.bool (bl_f.2 (by omega)))
theorem c_Less6 (w:World) (x y:Int):Ret Tryz.prog 122 [.int .i64 x,.int .i64 y].toArray w (.bool (bl (x<y))):=by
 refine Ret.of mixed tyTab Tryz.func122 rfl rfl (W.sreg (WO.p rfl rfl (WO.nil (W.sreg (WO.p rfl rfl (WO.callR rfl Tryz.call205 (fun L w hi=>c_isNaN6 w _) rfl (WO.p rfl rfl (WO.no rfl rfl (WO.no rfl rfl (WO.no rfl rfl (WO.p rfl rfl (WO.p rfl rfl (WO.pg rfl rfl rfl (WO.pg rfl rfl rfl (WO.pg rfl rfl rfl (WO.p rfl rfl (WO.p rfl rfl (WO.nil (W.ret (fin.ret (Res.one rfl (RV.tmp rfl)) (congrArg Value.bool ?_)))))))))))))))))))))
 rfl
structure AtS (xs:List Int) (x:Int) (i:Nat):Prop where
 le:i≤xs.length
 lo:∀ j,j<i→xs.getD j 0<x
 hi:∀ j,i≤j→j<xs.length→x≤xs.getD j 0
theorem bs_up {xs:List Int} {x:Int} {i j:Nat} (hij:i≤j) (hjn:j≤xs.length) (h:i<j) (hs:∀ i j,i<j→j<xs.length→xs.getD i 0<xs.getD j 0) (hhi:∀ k,j≤k→k<xs.length→x≤xs.getD k 0) (hx:xs.getD ((i+j)/2) 0<x):(i+j)/2+1≤j∧j≤xs.length∧(∀ k,k<(i+j)/2+1→xs.getD k 0<x)∧∀ k,j≤k→k<xs.length→x≤xs.getD k 0:=by
 refine ⟨by omega,hjn,fun k hk=>?_,hhi⟩
 rcases Nat.lt_or_ge k ((i+j)/2) with g | g
 ·have:=hs k ((i+j)/2) g (by omega)
  omega
 ·obtain rfl:k=(i+j)/2:=by omega
  exact hx
theorem bs_dn {xs:List Int} {x:Int} {i j:Nat} (hij:i≤j) (hjn:j≤xs.length) (h:i<j) (hs:∀ i j,i<j→j<xs.length→xs.getD i 0<xs.getD j 0) (hlo:∀ k,k<i→xs.getD k 0<x) (hx:¬ xs.getD ((i+j)/2) 0<x):i≤(i+j)/2∧(i+j)/2≤xs.length∧(∀ k,k<i→xs.getD k 0<x)∧∀ k,(i+j)/2≤k→k<xs.length→x≤xs.getD k 0:=by
 refine ⟨by omega,by omega,hlo,fun k h1 h2=>?_⟩
 rcases Nat.lt_or_ge ((i+j)/2) k with g | g
 ·have:=hs ((i+j)/2) k g h2
  omega
 ·obtain rfl:k=(i+j)/2:=by omega
  omega
theorem c_Search (w:World) (v:Value) (xs:List Int) (x:Int) (hR:RdF encI 1 w.heap.size w v xs) (hn:xs.length≤1000) (hs:∀ i j,i<j→j<xs.length→xs.getD i 0<xs.getD j 0):RetE Tryz.prog 204 [v,.int .i64 x].toArray w (fun r=>∃ (i:Nat) (b:Bool),r=.tuple #[.int .i64 (i:Int),.bool b]∧AtS xs x i):=by
 refine RetE.of mixed tyTab Tryz.func204 rfl rfl ?_
 replace hR:RdF encI 1 (fnCx mixed tyTab Tryz.f204.ntmps w).B (fnCx mixed tyTab Tryz.f204.ntmps w).w0 v xs:=hR
 refine W.sreg (WO.p rfl rfl (WO.p rfl rfl (WO.nil (W.sreg (WO.p rfl rfl ?_)))))
 refine' WO.len (n:=_) rfl rfl ?hs rfl ?_
 case hs=>exact hR.sl
 refine WO.p rfl rfl (WO.nil (W.sreg (WO.p rfl rfl (WO.p rfl rfl (WO.p rfl rfl (WO.nil (W.seq (W.block ?_))))))))
 refine W.loop2 (fun (i:Nat) (j:Nat)=>i≤j∧j≤xs.length∧(∀ k,k<i→xs.getD k 0<x)∧(∀ k,j≤k→k<xs.length→x≤xs.getD k 0))
  (fun (i:Nat) (j:Nat)=>[(0,v),(1,.int .i64 x),(6,.int .i64 (xs.length:Int)),(7,.int .i64 (i:Int)),(8,.int .i64 (j:Int))])
  (fun (i:Nat) (j:Nat)=>[])
  (fun (i:Nat) (j:Nat)=>j-i) 0 xs.length
  (by exact ⟨by omega,by omega,fun k hk=>by omega,fun k h1 h2=>by omega⟩) ⟨rfl,rfl,rfl,rfl,rfl,trivial⟩ (by repeat (first | exact Sub.nil | refine Sub.cons (by repeat first | exact .head | apply Pick.tail) ?_)) ?_
 rintro i j ⟨hij,hjn,hlo,hhi⟩
 refine W.seq (W.sreg (WO.p rfl rfl (WO.p rfl rfl (WO.p rfl rfl (WO.nil ?_)))))
 refine W.cond_bl rfl (fun c1=>?_) (fun c1=>?_)
 ·refine W.skip (W.block (W.sreg (WO.p rfl rfl (WO.p rfl rfl (WO.ar rfl rfl rfl (by unfold in64;omega) rfl (WO.convI (b:=((i+j:Nat):Int)) rfl rfl rfl (by rw [show (i:Int)+(j:Int)=((i+j:Nat):Int) by omega];exact u64_in (by omega)) rfl (WO.shrN (a:=i+j) (s:=1) rfl rfl (by decide) rfl (WO.convI (b:=(((i+j)/2:Nat):Int)) rfl rfl rfl (by rw [show (i+j)>>>1=(i+j)/2 by rw [Nat.shiftRight_eq_div_pow]];exact wrap_nat (fit6 (by omega))) rfl (WO.p rfl rfl (WO.nil (W.sreg (WO.p rfl rfl (WO.p rfl rfl ?_)))))))))))))
  refine' WO.indexAddr (n:=_) (i:=_) rfl rfl rfl ?hs ?h1 rfl ?_
  case hs=>exact hR.sl
  case h1=>(omega)
  refine' WO.load (v:=_) rfl rfl ?hc rfl ?_
  case hc=>((refine hR.cell0 (i:=(i+j)/2) (by omega) 0 ?_;rfl))
  refine WO.p rfl rfl (WO.callR rfl Tryz.call122 (fun L w hi=>c_Less6 w _ _) rfl (WO.nil ?_))
  refine W.cond_bl rfl (fun c2=>?_) (fun c2=>?_)
  ·refine W.region (WO.p rfl rfl (WO.ar rfl rfl rfl (by unfold in64;omega) rfl (WO.p rfl rfl (WO.nil ?_))))
   refine' ⟨_,_,?hp,?hmu,⟨rfl,rfl,rfl,rfl,rfl,trivial⟩,?hS⟩
   case hS=>repeat (first | exact Sub.nil | refine Sub.cons (by repeat first | exact .head | apply Pick.tail) ?_)
   case hp=>exact bs_up hij hjn (by omega) hs hhi (by assumption)
   case hmu=>(show j-((i+j)/2+1)<j-i;omega)
  ·refine W.region (WO.p rfl rfl (WO.p rfl rfl (WO.nil ?_)))
   refine' ⟨_,_,?hp,?hmu,⟨rfl,rfl,rfl,rfl,rfl,trivial⟩,?hS⟩
   case hS=>repeat (first | exact Sub.nil | refine Sub.cons (by repeat first | exact .head | apply Pick.tail) ?_)
   case hp=>exact bs_dn hij hjn (by omega) hs hlo (by assumption)
   case hmu=>(show (i+j)/2-i<j-i;omega)
 ·refine W.exit (blk_same (W.sreg (WO.p rfl rfl (WO.p rfl rfl (WO.p rfl rfl (WO.p rfl rfl (WO.p rfl rfl ?_)))))))
  refine WO.guard_bl rfl rfl (fun c3=>?_) (fun c3=>?_)
  ·refine WO.pg rfl rfl rfl (WO.pg rfl rfl rfl (WO.go' rfl ?_))
   refine' WO.indexAddr (n:=_) (i:=_) rfl rfl rfl ?hs ?h1 rfl ?_
   case hs=>exact hR.sl
   case h1=>(omega)
   refine WO.go' rfl ?_
   refine' WO.load (v:=_) rfl rfl ?hc rfl ?_
   case hc=>((refine hR.cell0 (i:=i) (by omega) 0 ?_;rfl))
   refine WO.pg rfl rfl rfl (WO.pg rfl rfl rfl (WO.pg rfl rfl rfl ?_))
   refine WO.guard_bl rfl rfl (fun c4=>?_) (fun c4=>?_)
   ·refine WO.no rfl rfl (WO.no rfl rfl (WO.no rfl rfl (WO.no rfl rfl (WO.no rfl rfl (WO.no rfl rfl (WO.no rfl rfl (WO.no rfl rfl (WO.no rfl rfl (WO.pg rfl rfl rfl (WO.p rfl rfl (WO.p rfl rfl (WO.p rfl rfl (WO.nil (W.ret ?_))))))))))))))
    exact fin.ret (Res.two rfl (RV.tmp rfl) (RV.tmp rfl)) ⟨i,_,rfl,by omega,hlo,fun k h1 h2=>hhi k (by omega) h2⟩
   ·refine WO.pg rfl rfl rfl (WO.pg rfl rfl rfl (WO.go' rfl ?_))
    refine' WO.indexAddr (n:=_) (i:=_) rfl rfl rfl ?hs ?h1 rfl ?_
    case hs=>exact hR.sl
    case h1=>(omega)
    refine WO.go' rfl ?_
    refine' WO.load (v:=_) rfl rfl ?hc rfl ?_
    case hc=>((refine hR.cell0 (i:=i) (by omega) 0 ?_;rfl))
    refine WO.go' rfl (WO.callR rfl Tryz.call277 (fun L w hi=>c_isNaN7 w _) rfl (WO.pg rfl rfl rfl (WO.no rfl rfl (WO.no rfl rfl (WO.pg rfl rfl rfl (WO.pg rfl rfl rfl (WO.p rfl rfl (WO.p rfl rfl (WO.p rfl rfl (WO.nil (W.ret ?_)))))))))))
    exact fin.ret (Res.two rfl (RV.tmp rfl) (RV.tmp rfl)) ⟨i,_,rfl,by omega,hlo,fun k h1 h2=>hhi k (by omega) h2⟩
  ·refine WO.no rfl rfl (WO.no rfl rfl (WO.no rfl rfl (WO.no rfl rfl (WO.no rfl rfl (WO.no rfl rfl (WO.no rfl rfl (WO.no rfl rfl (WO.no rfl rfl (WO.no rfl rfl (WO.no rfl rfl (WO.no rfl rfl (WO.no rfl rfl (WO.no rfl rfl (WO.no rfl rfl (WO.no rfl rfl (WO.no rfl rfl (WO.p rfl rfl (WO.p rfl rfl (WO.p rfl rfl (WO.nil (W.ret ?_)))))))))))))))))))))
   exact fin.ret (Res.two rfl (RV.tmp rfl) (RV.tmp rfl)) ⟨i,_,rfl,by omega,hlo,fun k h1 h2=>hhi k (by omega) h2⟩
theorem c_after (w:World) (v:Value) (xs:List Int) (x:Int) (hR:RdF encI 1 w.heap.size w v xs) (hn:xs.length≤1000) (hs:∀ i j,i<j→j<xs.length→xs.getD i 0<xs.getD j 0):RetE Tryz.prog 202 [v,.int .i64 x].toArray w (fun r=>∃ i:Nat,r=.int .i64 (i:Int)∧AtS xs x i):=by
 refine RetE.of mixed tyTab Tryz.func202 rfl rfl ?_
 replace hR:RdF encI 1 (fnCx mixed tyTab Tryz.f202.ntmps w).B (fnCx mixed tyTab Tryz.f202.ntmps w).w0 v xs:=hR
 refine W.sreg (WO.p rfl rfl (WO.nil (W.sreg (WO.p rfl rfl (WO.p rfl rfl (WO.callE rfl Tryz.call204 (fun L w hi=>c_Search w v xs x (hR.later hi) hn hs) rfl ?_))))))
 rintro _ ⟨i,b,rfl,hat⟩
 refine WO.p rfl rfl (WO.p rfl rfl (WO.p rfl rfl (WO.p rfl rfl (WO.p rfl rfl (WO.nil (W.sreg (WO.p rfl rfl (WO.p rfl rfl (WO.nil (W.ret ?_))))))))))
 exact fin.ret (Res.one rfl (RV.tmp rfl)) ⟨i,rfl,hat⟩
theorem c_ends (w:World) (v u:Value) (xs:List Int) (ho:u.oneCell'=true) (hX:RdF encI 1 w.heap.size w v xs) (hn:2≤xs.length∧xs.length≤12):Ret Tryz.prog 117 [.agg #[v,u]].toArray w (.agg #[.int .i64 (xs.getD 0 0),.int .i64 (xs.getD (xs.length-1) 0)]):=by
 refine Ret.of mixed tyTab Tryz.func117 rfl rfl ?_
 replace hX:RdF encI 1 (fnCx mixed tyTab Tryz.f117.ntmps w).B (fnCx mixed tyTab Tryz.f117.ntmps w).w0 v xs:=hX
 have hxo:=hX.sl.oc
 refine W.sreg (WO.boxA rfl rfl (fun b1 hb1=>(WO.alloc rfl rfl rfl (fun b2 hb2=>(WO.nil (W.seq ?_))))))
 refine W.drawD 15 [.r 0 [],.r 1 [],.b 2 [],.r 3 [],.b 4 [],.r 5 [],.r 6 [],.b 7 [],.r 8 [],.r 9 [],.b 10 [],.r 11 [],.r 12 [],.r 13 [],.b 14 []] [] (A0:=[]) (Sub.refl _) (by kernel_rfl) ?_ ?_
 ·repeat constructor
 refine DT.r rfl rfl rfl (WO.field0 rfl rfl rfl (WO.nil ⟨rfl,rfl⟩)) (DT.r rfl rfl rfl (WO.field0 rfl rfl rfl (WO.nil ⟨rfl,rfl⟩)) (DT.b rfl rfl rfl (WO.load rfl rfl (Cell.own (Pick.tail (Pick.head)) rfl) rfl (WO.nil ⟨rfl,rfl⟩)) ?_))
 refine' DT.r rfl rfl rfl ?hq ?_
 case hq =>
  refine' WO.indexAddr (n:=_) (i:=0) rfl rfl rfl ?hs ?h1 rfl ?_
  case hs=>exact hX.sl
  case h1=>(omega)
  exact WO.nil ⟨rfl,rfl⟩
 refine' DT.b rfl rfl rfl ?hq ?_
 case hq =>
  refine' WO.load (v:=_) rfl rfl ?hc rfl ?_
  case hc=>((refine hX.cell0 (i:=0) (by omega) 0 ?_;rfl))
  exact WO.nil ⟨rfl,rfl⟩
 refine DT.r rfl rfl rfl (WO.field0 rfl rfl rfl (WO.nil ⟨rfl,rfl⟩)) (DT.r rfl rfl rfl (WO.field0 rfl rfl rfl (WO.nil ⟨rfl,rfl⟩)) (DT.b rfl rfl rfl (WO.load rfl rfl (Cell.own (Pick.tail (Pick.head)) rfl) rfl (WO.nil ⟨rfl,rfl⟩)) (DT.r rfl rfl rfl (WO.field0 rfl rfl rfl (WO.nil ⟨rfl,rfl⟩)) (DT.r rfl rfl rfl (WO.field0 rfl rfl rfl (WO.nil ⟨rfl,rfl⟩)) (DT.b rfl rfl rfl (WO.load rfl rfl (Cell.own (Pick.tail (Pick.head)) rfl) rfl (WO.nil ⟨rfl,rfl⟩)) ?_)))))
 refine' DT.r rfl rfl rfl ?hq ?_
 case hq =>
  refine' WO.len (n:=_) rfl rfl ?hs rfl ?_
  case hs=>exact hX.sl
  exact WO.nil ⟨rfl,rfl⟩
 refine DT.r rfl rfl rfl (WO.ar rfl rfl rfl (by unfold in64;omega) rfl (WO.nil ⟨rfl,rfl⟩)) ?_
 refine' DT.r rfl rfl rfl ?hq ?_
 case hq =>
  refine' WO.indexAddrZ (n:=_) rfl rfl rfl ?hs ?h00 ?h1 rfl ?_
  case hs=>exact hX.sl
  case h00=>omega
  case h1=>(omega)
  exact WO.nil ⟨rfl,rfl⟩
 refine' DT.b rfl rfl rfl ?hq ?_
 case hq =>
  refine' WO.load (v:=_) rfl rfl ?hc rfl ?_
  case hc=>((refine hX.cell0 (i:=((xs.length:Int)-1).toNat) (by omega) 0 ?_;rfl))
  exact WO.nil ⟨rfl,rfl⟩
 refine DT.nil [_,_] rfl ?_
 refine' WO.build (cs:=_) rfl rfl rfl ?hf rfl ?_
 case hf=>(conv=>lhs;simp [-List.getD_eq_getElem?_getD,fillL,vcl,wrl,TTab.pl?.lget']) <;> rfl
 refine WO.storeA rfl rfl rfl rfl Pick.head rfl rfl (WO.nil (W.ret ?_))
 exact fin.ret (Res.one rfl (RV.cell rfl rfl rfl (Cells.own (by repeat exact .head)))) rfl
theorem c_has (w:World) (v u:Value) (xs:List Int) (x y:Int) (ho:u.oneCell'=true) (hX:RdF encI 1 w.heap.size w v xs) (hn:2≤xs.length∧xs.length≤12) (h1:xs.getD 0 0≤x) (h2:y≤xs.getD (xs.length-1) 0):Ret Tryz.prog 56 [.agg #[v,u],.agg #[.int .i64 x,.int .i64 y]].toArray w (.bool true):=by
 refine Ret.of mixed tyTab Tryz.func56 rfl rfl ?_
 replace hX:RdF encI 1 (fnCx mixed tyTab Tryz.f56.ntmps w).B (fnCx mixed tyTab Tryz.f56.ntmps w).w0 v xs:=hX
 have hxo:=hX.sl.oc
 refine W.sreg (WO.boxA rfl rfl (fun b1 hb1=>(WO.boxA rfl rfl (fun b2 hb2=>(WO.p rfl rfl (WO.nil (W.sreg (WO.loadA rfl rfl (Cells.own (Pick.tail (Pick.head))) rfl rfl (WO.callR rfl Tryz.call117 (fun L w hi=>c_ends w v u xs ho (hX.later hi) hn) rfl (WO.alloc rfl rfl rfl (fun b3 hb3=>(WO.storeA rfl rfl rfl rfl Pick.head rfl rfl (WO.nil (W.sreg (WO.field0 rfl rfl rfl (WO.load rfl rfl (Cell.own (Pick.tail (Pick.head)) rfl) rfl (WO.indexArrL (o':=0) rfl rfl rfl (by decide) rfl rfl (WO.load rfl rfl (Cell.own Pick.head rfl) rfl (WO.geqT rfl rfl (by omega) rfl ?_)))))))))))))))))))
 refine WO.p rfl rfl (WO.go' rfl (WO.fieldL rfl rfl rfl (WO.go' rfl (WO.load rfl rfl (Cell.own (Pick.tail (Pick.head)) rfl) rfl (WO.go' rfl (WO.indexArrL (o':=1) rfl rfl rfl (by decide) rfl rfl (WO.go' rfl (WO.load rfl rfl (Cell.own Pick.head rfl) rfl (WO.go' rfl (WO.leqT rfl rfl (by omega) rfl (WO.p rfl rfl (WO.p rfl rfl (WO.nil (W.ret ?_))))))))))))))
 exact fin.ret (Res.one rfl (RV.tmp rfl)) rfl
theorem at_ends {xs:List Int} {x:Int} {i:Nat} (h:AtS xs x i) (hn:2≤xs.length) (h2:x≤xs.getD (xs.length-1) 0):i<xs.length:=by
 rcases Nat.lt_or_ge i xs.length with g | g
 ·exact g
 ·have:=h.lo (xs.length-1) (by omega)
  omega
theorem c_friction (w:World) (v u:Value) (xs ys:List Int) (x:Int) (hX:RdF encI 1 w.heap.size w v xs) (hY:RdF encI 1 w.heap.size w u ys) (hL:OkLn xs ys) (h1:xs.getD 0 0≤x) (h2:x≤xs.getD (xs.length-1) 0):Ret Tryz.prog 118 [.agg #[v,u],.int .i64 x].toArray w (.int .i64 (frV xs ys x)):=by
 refine Ret.of mixed tyTab Tryz.func118 rfl rfl ?_
 replace hX:RdF encI 1 (fnCx mixed tyTab Tryz.f118.ntmps w).B (fnCx mixed tyTab Tryz.f118.ntmps w).w0 v xs:=hX
 replace hY:RdF encI 1 (fnCx mixed tyTab Tryz.f118.ntmps w).B (fnCx mixed tyTab Tryz.f118.ntmps w).w0 u ys:=hY
 have hxo:=hX.sl.oc
 have hyo:=hY.sl.oc
 have hn:=hL.n
 have hyn:=hL.len
 refine W.sreg (WO.boxA rfl rfl (fun b1 hb1=>(WO.p rfl rfl (WO.nil (W.sreg (WO.field0 rfl rfl rfl (WO.field0 rfl rfl rfl (WO.load rfl rfl (Cell.own Pick.head rfl) rfl (WO.p rfl rfl (WO.callE rfl Tryz.call202 (fun L w hi=>c_after w v xs x (hX.later hi) (by omega) (fun i j hij hj=>hL.lt hij hj)) rfl ?_))))))))))
 rintro _ ⟨i,rfl,hat⟩
 have hil:=at_ends hat hn.1 h2
 have hge:=hat.hi i (Nat.le_refl _) hil
 refine WO.p rfl rfl (WO.nil (W.seq (W.sreg (WO.field0 rfl rfl rfl (WO.field0 rfl rfl rfl (WO.load rfl rfl (Cell.own Pick.head rfl) rfl (WO.p rfl rfl ?_)))))))
 refine' WO.indexAddr (n:=_) (i:=_) rfl rfl rfl ?hs ?h1 rfl ?_
 case hs=>(first | exact hX.sl)
 case h1=>(omega)
 refine' WO.load (v:=_) rfl rfl ?hc rfl ?_
 case hc=>((refine hX.cell0 (i:=i) (by omega) 0 ?_;rfl))
 refine WO.p rfl rfl (WO.p rfl rfl (WO.nil ?_))
 refine W.cond_bl rfl (fun c1=>?_) (fun c1=>?_)
 ·refine W.sreg (WO.field0 rfl rfl rfl (WO.fieldL rfl rfl rfl (WO.load rfl rfl (Cell.own Pick.head rfl) rfl (WO.p rfl rfl ?_))))
  refine' WO.indexAddr (n:=_) (i:=_) rfl rfl rfl ?hs ?h1 rfl ?_
  case hs=>(first | exact hY.sl)
  case h1=>(omega)
  refine' WO.load (v:=_) rfl rfl ?hc rfl ?_
  case hc=>((refine hY.cell0 (i:=i) (by omega) 0 ?_;rfl))
  refine WO.p rfl rfl (WO.nil (W.ret ?_))
  first
  | exact fin.ret (Res.one rfl (RV.tmp rfl)) (congrArg (Value.int .i64) (frV_eq hL ⟨i,hil,.inl ⟨by assumption,rfl⟩⟩).symm)
  | exact fin.ret (Res.one rfl (RV.tmp rfl)) (congrArg (Value.int .i64) (frV_eq hL ⟨i,hil,.inr ⟨hi0,hlo,by omega,rfl⟩⟩).symm)
 ·refine W.skip (W.seq ?_)
  have hi0:0<i:=Nat.pos_of_ne_zero (fun e=>by subst e;omega)
  have hlo:=hat.lo (i-1) (by omega)
  have e1:((i:Int)-1).toNat=i-1:=by omega
  have q1:=hL.re (i-1) (by omega)
  have q2:=hL.re i hil
  have q3:=hL.cf (i-1) (by omega)
  have q4:=hL.cf i hil
  have q5:=hL.dn (i-1) (by omega)
  rw [show i-1+1=i by omega] at q5
  unfold xat at q1 q2 q3 q4 q5
  have m1:=mul_bdQ (a:=ys.getD (i-1) 0-ys.getD i 0) (b:=x-xs.getD (i-1) 0) (A:=100000) (B:=1000000000) (by omega) (by omega)
  have m2:=tdiv_bdQ (n:=(ys.getD (i-1) 0-ys.getD i 0)*(x-xs.getD (i-1) 0)) (g:=xs.getD i 0-xs.getD (i-1) 0) (by omega) (by omega)
  refine W.drawD 38 [.r 0 [],.r 1 [],.b 2 [],.r 3 [],.r 4 [],.r 5 [],.b 6 [],.r 7 [],.r 8 [],.b 9 [],.r 10 [],.r 11 [],.b 12 [],.r 13 [],.r 14 [],.r 15 [],.r 16 [],.b 17 [],.r 18 [],.r 19 [],.r 20 [],.b 21 [],.r 22 [],.r 23 [],.r 24 [],.r 25 [],.b 26 [],.r 27 [],.r 28 [],.b 29 [],.r 30 [],.r 31 [],.b 32 [],.r 33 [],.r 34 [],.r 35 [],.b 36 [],.r 37 []] [] (A0:=[]) (Sub.refl _) (by kernel_rfl) ?_ ?_
  ·repeat constructor
  refine DT.r rfl rfl rfl (WO.field0 rfl rfl rfl (WO.nil ⟨rfl,rfl⟩)) (DT.r rfl rfl rfl (WO.fieldL rfl rfl rfl (WO.nil ⟨rfl,rfl⟩)) (DT.b rfl rfl rfl (WO.load rfl rfl (Cell.own Pick.head rfl) rfl (WO.nil ⟨rfl,rfl⟩)) (DT.r rfl rfl rfl (WO.p rfl rfl (WO.nil ⟨rfl,rfl⟩)) (DT.r rfl rfl rfl (WO.ar rfl rfl rfl (by unfold in64;omega) rfl (WO.nil ⟨rfl,rfl⟩)) ?_))))
  refine' DT.r rfl rfl rfl ?hq ?_
  case hq =>
   refine' WO.indexAddrZ (n:=_) rfl rfl rfl ?hs ?h00 ?h1 rfl ?_
   case hs=>(first | exact hY.sl)
   case h00=>omega
   case h1=>(omega)
   exact WO.nil ⟨rfl,rfl⟩
  refine' DT.b rfl rfl rfl ?hq ?_
  case hq =>
   refine' WO.load (v:=_) rfl rfl ?hc rfl ?_
   case hc=>((refine hY.cell0 (i:=((i:Int)-1).toNat) (by omega) 0 ?_;(rw [e1];rfl)))
   exact WO.nil ⟨rfl,rfl⟩
  refine DT.r rfl rfl rfl (WO.field0 rfl rfl rfl (WO.nil ⟨rfl,rfl⟩)) (DT.r rfl rfl rfl (WO.fieldL rfl rfl rfl (WO.nil ⟨rfl,rfl⟩)) (DT.b rfl rfl rfl (WO.load rfl rfl (Cell.own Pick.head rfl) rfl (WO.nil ⟨rfl,rfl⟩)) (DT.r rfl rfl rfl (WO.p rfl rfl (WO.nil ⟨rfl,rfl⟩)) ?_)))
  refine' DT.r rfl rfl rfl ?hq ?_
  case hq =>
   refine' WO.indexAddr (n:=_) (i:=_) rfl rfl rfl ?hs ?h1 rfl ?_
   case hs=>(first | exact hY.sl)
   case h1=>(omega)
   exact WO.nil ⟨rfl,rfl⟩
  refine' DT.b rfl rfl rfl ?hq ?_
  case hq =>
   refine' WO.load (v:=_) rfl rfl ?hc rfl ?_
   case hc=>((refine hY.cell0 (i:=i) (by omega) 0 ?_;rfl))
   exact WO.nil ⟨rfl,rfl⟩
  refine DT.r rfl rfl rfl (WO.ar rfl rfl rfl (by unfold in64;omega) rfl (WO.nil ⟨rfl,rfl⟩)) (DT.r rfl rfl rfl (WO.p rfl rfl (WO.nil ⟨rfl,rfl⟩)) (DT.r rfl rfl rfl (WO.field0 rfl rfl rfl (WO.nil ⟨rfl,rfl⟩)) (DT.r rfl rfl rfl (WO.field0 rfl rfl rfl (WO.nil ⟨rfl,rfl⟩)) (DT.b rfl rfl rfl (WO.load rfl rfl (Cell.own Pick.head rfl) rfl (WO.nil ⟨rfl,rfl⟩)) (DT.r rfl rfl rfl (WO.p rfl rfl (WO.nil ⟨rfl,rfl⟩)) (DT.r rfl rfl rfl (WO.ar rfl rfl rfl (by unfold in64;omega) rfl (WO.nil ⟨rfl,rfl⟩)) ?_))))))
  refine' DT.r rfl rfl rfl ?hq ?_
  case hq =>
   refine' WO.indexAddrZ (n:=_) rfl rfl rfl ?hs ?h00 ?h1 rfl ?_
   case hs=>(first | exact hX.sl)
   case h00=>omega
   case h1=>(omega)
   exact WO.nil ⟨rfl,rfl⟩
  refine' DT.b rfl rfl rfl ?hq ?_
  case hq =>
   refine' WO.load (v:=_) rfl rfl ?hc rfl ?_
   case hc=>((refine hX.cell0 (i:=((i:Int)-1).toNat) (by omega) 0 ?_;(rw [e1];rfl)))
   exact WO.nil ⟨rfl,rfl⟩
  refine DT.r rfl rfl rfl (WO.ar rfl rfl rfl (by unfold in64;omega) rfl (WO.nil ⟨rfl,rfl⟩)) (DT.r rfl rfl rfl (WO.ar rfl rfl rfl (by unfold in64;omega) rfl (WO.nil ⟨rfl,rfl⟩)) (DT.r rfl rfl rfl (WO.field0 rfl rfl rfl (WO.nil ⟨rfl,rfl⟩)) (DT.r rfl rfl rfl (WO.field0 rfl rfl rfl (WO.nil ⟨rfl,rfl⟩)) (DT.b rfl rfl rfl (WO.load rfl rfl (Cell.own Pick.head rfl) rfl (WO.nil ⟨rfl,rfl⟩)) (DT.r rfl rfl rfl (WO.p rfl rfl (WO.nil ⟨rfl,rfl⟩)) ?_)))))
  refine' DT.r rfl rfl rfl ?hq ?_
  case hq =>
   refine' WO.indexAddr (n:=_) (i:=_) rfl rfl rfl ?hs ?h1 rfl ?_
   case hs=>(first | exact hX.sl)
   case h1=>(omega)
   exact WO.nil ⟨rfl,rfl⟩
  refine' DT.b rfl rfl rfl ?hq ?_
  case hq =>
   refine' WO.load (v:=_) rfl rfl ?hc rfl ?_
   case hc=>((refine hX.cell0 (i:=i) (by omega) 0 ?_;rfl))
   exact WO.nil ⟨rfl,rfl⟩
  refine DT.r rfl rfl rfl (WO.field0 rfl rfl rfl (WO.nil ⟨rfl,rfl⟩)) (DT.r rfl rfl rfl (WO.field0 rfl rfl rfl (WO.nil ⟨rfl,rfl⟩)) (DT.b rfl rfl rfl (WO.load rfl rfl (Cell.own Pick.head rfl) rfl (WO.nil ⟨rfl,rfl⟩)) (DT.r rfl rfl rfl (WO.p rfl rfl (WO.nil ⟨rfl,rfl⟩)) (DT.r rfl rfl rfl (WO.ar rfl rfl rfl (by unfold in64;omega) rfl (WO.nil ⟨rfl,rfl⟩)) ?_))))
  refine' DT.r rfl rfl rfl ?hq ?_
  case hq =>
   refine' WO.indexAddrZ (n:=_) rfl rfl rfl ?hs ?h00 ?h1 rfl ?_
   case hs=>(first | exact hX.sl)
   case h00=>omega
   case h1=>(omega)
   exact WO.nil ⟨rfl,rfl⟩
  refine' DT.b rfl rfl rfl ?hq ?_
  case hq =>
   refine' WO.load (v:=_) rfl rfl ?hc rfl ?_
   case hc=>((refine hX.cell0 (i:=((i:Int)-1).toNat) (by omega) 0 ?_;(rw [e1];rfl)))
   exact WO.nil ⟨rfl,rfl⟩
  refine DT.r rfl rfl rfl (WO.ar rfl rfl rfl (by unfold in64;omega) rfl (WO.nil ⟨rfl,rfl⟩)) (DT.nil [_] rfl (WO.quo rfl rfl (by omega) (by unfold in64;omega) rfl (WO.p rfl rfl (WO.nil (W.sreg (WO.field0 rfl rfl rfl (WO.fieldL rfl rfl rfl (WO.load rfl rfl (Cell.own Pick.head rfl) rfl (WO.p rfl rfl (WO.ar rfl rfl rfl (by unfold in64;omega) rfl ?_))))))))))
  refine' WO.indexAddrZ (n:=_) rfl rfl rfl ?hs ?h00 ?h1 rfl ?_
  case hs=>(first | exact hY.sl)
  case h00=>omega
  case h1=>(omega)
  refine' WO.load (v:=_) rfl rfl ?hc rfl ?_
  case hc=>((refine hY.cell0 (i:=((i:Int)-1).toNat) (by omega) 0 ?_;(rw [e1];rfl)))
  refine WO.p rfl rfl (WO.ar rfl rfl rfl (by unfold in64;omega) rfl (WO.p rfl rfl (WO.nil (W.ret ?_))))
  first
  | exact fin.ret (Res.one rfl (RV.tmp rfl)) (congrArg (Value.int .i64) (frV_eq hL ⟨i,hil,.inl ⟨by assumption,rfl⟩⟩).symm)
  | exact fin.ret (Res.one rfl (RV.tmp rfl)) (congrArg (Value.int .i64) (frV_eq hL ⟨i,hil,.inr ⟨hi0,hlo,by omega,rfl⟩⟩).symm)
end Go.Proofs.YtfchgmiiicidcaaGreat
namespace Go.Proofs.YtfchgmiiicidcaaGreat
open Go Go.TH
attribute [local irreducible] W WO pt
set_option maxRecDepth 10000
set_option maxHeartbeats 2000000
theorem c_CheckTest4 (w:World) (t:Tst) (h:OkTst t):Ret Tryz.prog 49 [tstV t].toArray w (.int .i64 0):=by
 refine Ret.of mixed tyTab Tryz.func49 rfl rfl ?_
 have h1:=h.sp
 have h2:=h.lo
 have h3:=h.we
 have h4:=h.al
 have h5:=h.f
 have h6:=h.ta
 have h7:=h.se
 have h8:=h.m
 have h9:=h.b
 have h10:=h.r
 refine W.sreg (WO.boxA rfl rfl (fun b1 hb1=>(WO.p rfl rfl (WO.nil (W.seq (W.seq ?_))))))
 refine W.drawD 30 [.r 0 [],.b 1 [],.b 2 [],.r 3 [],.b 4 [],.b 5 [],.r 6 [],.b 7 [],.b 8 [],.r 9 [],.b 10 [],.b 11 [],.r 12 [],.b 13 [],.r 14 [],.r 15 [],.b 16 [],.r 17 [],.r 18 [],.b 19 [],.r 20 [],.r 21 [],.b 22 [],.r 23 [],.r 24 [],.b 25 [],.r 26 [],.r 27 [],.b 28 [],.r 29 []] [] (A0:=[]) (Sub.refl _) (by kernel_rfl) ?_ ?_
 ·repeat constructor
 refine DT.r rfl rfl rfl (WO.field0 rfl rfl rfl (WO.nil ⟨rfl,rfl⟩)) (DT.b rfl rfl rfl (WO.load rfl rfl (Cell.own Pick.head rfl) rfl (WO.nil ⟨rfl,rfl⟩)) (DT.b rfl rfl rfl (WO.callR (r:=bdV ⟨t.sp,t.sp,1,10000⟩) rfl Tryz.call53 (fun L w hi=>c_exactly w _ _ _) rfl (WO.nil ⟨rfl,rfl⟩)) (DT.r rfl rfl rfl (WO.fieldL rfl rfl rfl (WO.nil ⟨rfl,rfl⟩)) (DT.b rfl rfl rfl (WO.load rfl rfl (Cell.own Pick.head rfl) rfl (WO.nil ⟨rfl,rfl⟩)) (DT.b rfl rfl rfl (WO.callR (r:=bdV ⟨t.lo,t.lo,1,10000⟩) rfl Tryz.call53 (fun L w hi=>c_exactly w _ _ _) rfl (WO.nil ⟨rfl,rfl⟩)) (DT.r rfl rfl rfl (WO.fieldL rfl rfl rfl (WO.nil ⟨rfl,rfl⟩)) ?_))))))
 refine DT.b rfl rfl rfl (WO.load rfl rfl (Cell.own Pick.head rfl) rfl (WO.nil ⟨rfl,rfl⟩)) (DT.b rfl rfl rfl (WO.callR (r:=bdV ⟨t.we,t.we,1,1000000⟩) rfl Tryz.call53 (fun L w hi=>c_exactly w _ _ _) rfl (WO.nil ⟨rfl,rfl⟩)) (DT.r rfl rfl rfl (WO.fieldL rfl rfl rfl (WO.nil ⟨rfl,rfl⟩)) (DT.b rfl rfl rfl (WO.load rfl rfl (Cell.own Pick.head rfl) rfl (WO.nil ⟨rfl,rfl⟩)) (DT.b rfl rfl rfl (WO.callR (r:=bdV ⟨t.al,t.al,1,10⟩) rfl Tryz.call53 (fun L w hi=>c_exactly w _ _ _) rfl (WO.nil ⟨rfl,rfl⟩)) (DT.r rfl rfl rfl (WO.fieldL rfl rfl rfl (WO.nil ⟨rfl,rfl⟩)) (DT.b rfl rfl rfl (WO.loadA rfl rfl (Cells.ownAt (n:=2) Pick.head rfl) rfl rfl (WO.nil ⟨rfl,rfl⟩)) ?_))))))
 refine' DT.r rfl rfl rfl ?hq ?_
 case hq =>
  refine' WO.build (cs:=_) rfl rfl rfl ?hf rfl ?_
  case hf=>(conv=>lhs;simp [-List.getD_eq_getElem?_getD,fillL,vcl,wrl,TTab.pl?.lget']) <;> rfl
  exact WO.nil ⟨rfl,rfl⟩
 refine DT.r rfl rfl rfl (WO.fieldL rfl rfl rfl (WO.nil ⟨rfl,rfl⟩)) (DT.b rfl rfl rfl (WO.loadA rfl rfl (Cells.ownAt (n:=2) Pick.head rfl) rfl rfl (WO.nil ⟨rfl,rfl⟩)) ?_)
 refine' DT.r rfl rfl rfl ?hq ?_
 case hq =>
  refine' WO.build (cs:=_) rfl rfl rfl ?hf rfl ?_
  case hf=>(conv=>lhs;simp [-List.getD_eq_getElem?_getD,fillL,vcl,wrl,TTab.pl?.lget']) <;> rfl
  exact WO.nil ⟨rfl,rfl⟩
 refine DT.r rfl rfl rfl (WO.fieldL rfl rfl rfl (WO.nil ⟨rfl,rfl⟩)) (DT.b rfl rfl rfl (WO.loadA rfl rfl (Cells.ownAt (n:=2) Pick.head rfl) rfl rfl (WO.nil ⟨rfl,rfl⟩)) ?_)
 refine' DT.r rfl rfl rfl ?hq ?_
 case hq =>
  refine' WO.build (cs:=_) rfl rfl rfl ?hf rfl ?_
  case hf=>(conv=>lhs;simp [-List.getD_eq_getElem?_getD,fillL,vcl,wrl,TTab.pl?.lget']) <;> rfl
  exact WO.nil ⟨rfl,rfl⟩
 refine DT.r rfl rfl rfl (WO.fieldL rfl rfl rfl (WO.nil ⟨rfl,rfl⟩)) (DT.b rfl rfl rfl (WO.loadA rfl rfl (Cells.ownAt (n:=2) Pick.head rfl) rfl rfl (WO.nil ⟨rfl,rfl⟩)) ?_)
 refine' DT.r rfl rfl rfl ?hq ?_
 case hq =>
  refine' WO.build (cs:=_) rfl rfl rfl ?hf rfl ?_
  case hf=>(conv=>lhs;simp [-List.getD_eq_getElem?_getD,fillL,vcl,wrl,TTab.pl?.lget']) <;> rfl
  exact WO.nil ⟨rfl,rfl⟩
 refine DT.r rfl rfl rfl (WO.fieldL rfl rfl rfl (WO.nil ⟨rfl,rfl⟩)) (DT.b rfl rfl rfl (WO.loadA rfl rfl (Cells.ownAt (n:=2) Pick.head rfl) rfl rfl (WO.nil ⟨rfl,rfl⟩)) ?_)
 refine' DT.r rfl rfl rfl ?hq ?_
 case hq =>
  refine' WO.build (cs:=_) rfl rfl rfl ?hf rfl ?_
  case hf=>(conv=>lhs;simp [-List.getD_eq_getElem?_getD,fillL,vcl,wrl,TTab.pl?.lget']) <;> rfl
  exact WO.nil ⟨rfl,rfl⟩
 refine DT.r rfl rfl rfl (WO.fieldL rfl rfl rfl (WO.nil ⟨rfl,rfl⟩)) (DT.b rfl rfl rfl (WO.loadA rfl rfl (Cells.ownAt (n:=2) Pick.head rfl) rfl rfl (WO.nil ⟨rfl,rfl⟩)) ?_)
 refine' DT.r rfl rfl rfl ?hq ?_
 case hq =>
  refine' WO.build (cs:=_) rfl rfl rfl ?hf rfl ?_
  case hf=>(conv=>lhs;simp [-List.getD_eq_getElem?_getD,fillL,vcl,wrl,TTab.pl?.lget']) <;> rfl
  exact WO.nil ⟨rfl,rfl⟩
 refine DT.nil [_] rfl ?_
 refine' WO.buildSl (cs:=_) rfl rfl rfl rfl ?hf rfl rfl ?hl rfl (fun v2=>?_)
 case hf=>(conv=>lhs;simp [-List.getD_eq_getElem?_getD,fillL,vcl,wrl,TTab.pl?.lget']) <;> rfl
 case hl=>rfl
 refine WO.call (Post:=fun r Hq=>∃ b,r=.func (.func 201) #[] #[.pointer (some ⟨b,0,none⟩)]∧Hq=[pt b (.cells #[.slice (some ⟨v2,0,none⟩) 10 10] 201 (0,0))]) rfl Tryz.call52 (fun L w hi=>c_bounds w _ rfl) rfl ?_
 rintro _ _ ⟨b9,rfl,rfl⟩
 refine WO.callR (r:=.bool true) rfl Tryz.call51 (fun L w hi=>c_good w ⟨b9,0,none⟩ _ [⟨t.sp,t.sp,1,10000⟩,⟨t.lo,t.lo,1,10000⟩,⟨t.we,t.we,1,1000000⟩,⟨t.al,t.al,1,10⟩,⟨t.f0,t.f1,0,100000000⟩,⟨t.t0,t.t1,500,3000⟩,⟨t.s0,t.s1,500,3000⟩,⟨t.m0,t.m1,0,1000⟩,⟨t.b0,t.b1,0,200⟩,⟨t.r0,t.r1,0,2000⟩] (Cap.of (b:=b9) (by repeat exact .head) rfl hi) (RdF.of_ow (e:=127) encBd_ok (by repeat first | exact .head | apply Pick.tail) hi) (fun b hb2=>by simp only [List.mem_cons,List.not_mem_nil,or_false] at hb2;rcases hb2 with rfl | rfl | rfl | rfl | rfl | rfl | rfl | rfl | rfl | rfl <;> (unfold OkBd;dsimp only;omega))) rfl ?_
 refine WO.p rfl rfl (WO.nil (W.cond_f rfl (W.skip (W.sreg (WO.p rfl rfl (WO.nil (W.ret ?_)))))))
 exact fin.ret (Res.one rfl (RV.tmp rfl)) rfl
theorem c_model (w:World) (t:Tst) (x:Int) (h:OkTst t) (hx:500≤x∧x≤3000):Ret Tryz.prog 54 [tstV t,.int .i64 x].toArray w (.int .i64 (moV t x)):=by
 refine Ret.of mixed tyTab Tryz.func54 rfl rfl ?_
 have n1:=h.nums.a
 refine W.sreg (WO.boxA rfl rfl (fun b1 hb1=>(WO.p rfl rfl (WO.nil (W.sreg (WO.field0 rfl rfl rfl (WO.field0 rfl rfl rfl (WO.load rfl rfl (Cell.own Pick.head rfl) rfl (WO.field0 rfl rfl rfl (WO.fieldL rfl rfl rfl (WO.load rfl rfl (Cell.own Pick.head rfl) rfl (WO.ar rfl rfl rfl (by unfold in64;omega) rfl (WO.p rfl rfl (WO.quo rfl rfl (by omega) (by have:=moB h hx.1;unfold moV at this;unfold in64;omega) rfl (WO.p rfl rfl (WO.nil (W.ret ?_)))))))))))))))))
 exact fin.ret (Res.one rfl (RV.tmp rfl)) rfl
theorem c_ship (w:World) (t:Tst) (x:Int) (h:OkTst t) (hx:500≤x∧x≤3000):Ret Tryz.prog 55 [tstV t,.int .i64 x].toArray w (.int .i64 (shV t x)):=by
 refine Ret.of mixed tyTab Tryz.func55 rfl rfl ?_
 have n1:=h.nums.a
 have n2:=h.nums.b
 have n3:=h.nums.c
 have n4:=h.nums.d
 refine W.sreg (WO.boxA rfl rfl (fun b1 hb1=>(WO.p rfl rfl (WO.nil (W.sreg (WO.field0 rfl rfl rfl (WO.field0 rfl rfl rfl (WO.load rfl rfl (Cell.own Pick.head rfl) rfl (WO.field0 rfl rfl rfl (WO.fieldL rfl rfl rfl (WO.load rfl rfl (Cell.own Pick.head rfl) rfl (WO.ar rfl rfl rfl (by unfold in64;omega) rfl (WO.field0 rfl rfl rfl (WO.fieldL rfl rfl rfl (WO.load rfl rfl (Cell.own Pick.head rfl) rfl (WO.ar rfl rfl rfl (by unfold in64;omega) rfl (WO.field0 rfl rfl rfl ?_)))))))))))))))))
 refine WO.fieldL rfl rfl rfl (WO.load rfl rfl (Cell.own Pick.head rfl) rfl (WO.ar rfl rfl rfl (by unfold in64;omega) rfl (WO.field0 rfl rfl rfl (WO.fieldL rfl rfl rfl (WO.load rfl rfl (Cell.own Pick.head rfl) rfl (WO.ar rfl rfl rfl (by unfold in64;omega) rfl (WO.p rfl rfl (WO.quo rfl rfl (by omega) (by have:=shB h hx.1;unfold shV at this;unfold in64;omega) rfl (WO.p rfl rfl (WO.nil (W.ret ?_)))))))))))
 exact fin.ret (Res.one rfl (RV.tmp rfl)) rfl
theorem c_reynolds (w:World) (t:Tst) (h:OkTst t):Ret Tryz.prog 200 [tstV t].toArray w (.agg #[.int .i64 (moV t t.t1),.int .i64 (moV t t.t0),.int .i64 (shV t t.s1),.int .i64 (shV t t.s0)]):=by
 refine Ret.of mixed tyTab Tryz.func200 rfl rfl ?_
 have q1:=h.ta
 have q2:=h.se
 refine W.sreg (WO.boxA rfl rfl (fun b1 hb1=>(WO.alloc rfl rfl rfl (fun b2 hb2=>(WO.nil (W.seq ?_))))))
 refine W.drawD 26 [.b 0 [],.r 1 [],.r 2 [],.r 3 [],.b 4 [],.b 5 [],.b 6 [],.r 7 [],.r 8 [],.r 9 [],.b 10 [],.b 11 [],.r 12 [],.b 13 [],.r 14 [],.r 15 [],.r 16 [],.b 17 [],.b 18 [],.b 19 [],.r 20 [],.r 21 [],.r 22 [],.b 23 [],.b 24 [],.r 25 []] [] (A0:=[]) (Sub.refl _) (by kernel_rfl) ?_ ?_
 ·repeat constructor
 refine DT.b rfl rfl rfl (WO.loadA rfl rfl (Cells.own (Pick.tail (Pick.head))) rfl rfl (WO.nil ⟨rfl,rfl⟩)) (DT.r rfl rfl rfl (WO.field0 rfl rfl rfl (WO.nil ⟨rfl,rfl⟩)) (DT.r rfl rfl rfl (WO.fieldL rfl rfl rfl (WO.nil ⟨rfl,rfl⟩)) (DT.r rfl rfl rfl (WO.fieldL rfl rfl rfl (WO.nil ⟨rfl,rfl⟩)) (DT.b rfl rfl rfl (WO.load rfl rfl (Cell.own (Pick.tail (Pick.head)) rfl) rfl (WO.nil ⟨rfl,rfl⟩)) (DT.b rfl rfl rfl (WO.callR rfl Tryz.call54 (fun L w hi=>c_model w t t.t1 h (by omega)) rfl (WO.nil ⟨rfl,rfl⟩)) (DT.b rfl rfl rfl (WO.loadA rfl rfl (Cells.own (Pick.tail (Pick.head))) rfl rfl (WO.nil ⟨rfl,rfl⟩)) (DT.r rfl rfl rfl (WO.field0 rfl rfl rfl (WO.nil ⟨rfl,rfl⟩)) ?_)))))))
 refine DT.r rfl rfl rfl (WO.fieldL rfl rfl rfl (WO.nil ⟨rfl,rfl⟩)) (DT.r rfl rfl rfl (WO.field0 rfl rfl rfl (WO.nil ⟨rfl,rfl⟩)) (DT.b rfl rfl rfl (WO.load rfl rfl (Cell.own (Pick.tail (Pick.head)) rfl) rfl (WO.nil ⟨rfl,rfl⟩)) (DT.b rfl rfl rfl (WO.callR rfl Tryz.call54 (fun L w hi=>c_model w t t.t0 h (by omega)) rfl (WO.nil ⟨rfl,rfl⟩)) ?_)))
 refine' DT.r rfl rfl rfl ?hq ?_
 case hq =>
  refine' WO.build (cs:=_) rfl rfl rfl ?hf rfl ?_
  case hf=>(conv=>lhs;simp [-List.getD_eq_getElem?_getD,fillL,vcl,wrl,TTab.pl?.lget']) <;> rfl
  exact WO.nil ⟨rfl,rfl⟩
 refine DT.b rfl rfl rfl (WO.loadA rfl rfl (Cells.own (Pick.tail (Pick.head))) rfl rfl (WO.nil ⟨rfl,rfl⟩)) (DT.r rfl rfl rfl (WO.field0 rfl rfl rfl (WO.nil ⟨rfl,rfl⟩)) (DT.r rfl rfl rfl (WO.fieldL rfl rfl rfl (WO.nil ⟨rfl,rfl⟩)) (DT.r rfl rfl rfl (WO.fieldL rfl rfl rfl (WO.nil ⟨rfl,rfl⟩)) (DT.b rfl rfl rfl (WO.load rfl rfl (Cell.own (Pick.tail (Pick.head)) rfl) rfl (WO.nil ⟨rfl,rfl⟩)) (DT.b rfl rfl rfl (WO.callR rfl Tryz.call55 (fun L w hi=>c_ship w t t.s1 h (by omega)) rfl (WO.nil ⟨rfl,rfl⟩)) (DT.b rfl rfl rfl (WO.loadA rfl rfl (Cells.own (Pick.tail (Pick.head))) rfl rfl (WO.nil ⟨rfl,rfl⟩)) (DT.r rfl rfl rfl (WO.field0 rfl rfl rfl (WO.nil ⟨rfl,rfl⟩)) ?_)))))))
 refine DT.r rfl rfl rfl (WO.fieldL rfl rfl rfl (WO.nil ⟨rfl,rfl⟩)) (DT.r rfl rfl rfl (WO.field0 rfl rfl rfl (WO.nil ⟨rfl,rfl⟩)) (DT.b rfl rfl rfl (WO.load rfl rfl (Cell.own (Pick.tail (Pick.head)) rfl) rfl (WO.nil ⟨rfl,rfl⟩)) (DT.b rfl rfl rfl (WO.callR rfl Tryz.call55 (fun L w hi=>c_ship w t t.s0 h (by omega)) rfl (WO.nil ⟨rfl,rfl⟩)) ?_)))
 refine' DT.r rfl rfl rfl ?hq ?_
 case hq =>
  refine' WO.build (cs:=_) rfl rfl rfl ?hf rfl ?_
  case hf=>(conv=>lhs;simp [-List.getD_eq_getElem?_getD,fillL,vcl,wrl,TTab.pl?.lget']) <;> rfl
  exact WO.nil ⟨rfl,rfl⟩
 refine DT.nil [_,_] rfl ?_
 refine' WO.build (cs:=_) rfl rfl rfl ?hf rfl ?_
 case hf=>(conv=>lhs;simp [-List.getD_eq_getElem?_getD,fillL,vcl,wrl,TTab.pl?.lget']) <;> rfl
 refine WO.storeA rfl rfl rfl rfl Pick.head rfl rfl (WO.nil (W.ret ?_))
 exact fin.ret (Res.one rfl (RV.cell rfl rfl rfl (Cells.own (by repeat exact .head)))) rfl
theorem c_reckons (w:World) (t:Tst) (v u:Value) (xs:List Int) (h:OkTst t) (hi:InL t xs) (hn:2≤xs.length∧xs.length≤12) (ho:u.oneCell'=true) (hX:RdF encI 1 w.heap.size w v xs):Ret Tryz.prog 115 [tstV t,.agg #[v,u]].toArray w (.bool true):=by
 refine Ret.of mixed tyTab Tryz.func115 rfl rfl ?_
 replace hX:RdF encI 1 (fnCx mixed tyTab Tryz.f115.ntmps w).B (fnCx mixed tyTab Tryz.f115.ntmps w).w0 v xs:=hX
 have hxo:=hX.sl.oc
 refine W.sreg (WO.boxA rfl rfl (fun b1 hb1=>(WO.boxA rfl rfl (fun b2 hb2=>(WO.p rfl rfl (WO.nil (W.sreg (WO.loadA rfl rfl (Cells.own (Pick.tail (Pick.head))) rfl rfl (WO.callR rfl Tryz.call200 (fun L w hi=>c_reynolds w t h) rfl (WO.alloc rfl rfl rfl (fun b3 hb3=>(WO.storeA rfl rfl rfl rfl Pick.head rfl rfl (WO.nil (W.sreg (WO.loadA rfl rfl (Cells.own (Pick.tail (Pick.head))) rfl rfl (WO.indexArrL (o':=0) rfl rfl rfl (by decide) rfl rfl (WO.loadA rfl rfl (Cells.ownAt (n:=2) Pick.head rfl) rfl rfl (WO.callR rfl Tryz.call56 (fun L w hi'=>c_has w v u xs _ _ ho (hX.later hi') hn hi.a0 hi.a1) rfl ?_))))))))))))))))))
 refine WO.p rfl rfl (WO.go' rfl (WO.loadA rfl rfl (Cells.own (Pick.tail (Pick.head))) rfl rfl (WO.go' rfl (WO.indexArrL (o':=2) rfl rfl rfl (by decide) rfl rfl (WO.go' rfl (WO.loadA rfl rfl (Cells.ownAt (n:=2) Pick.head rfl) rfl rfl (WO.go' rfl (WO.callR rfl Tryz.call56 (fun L w hi'=>c_has w v u xs _ _ ho (hX.later hi') hn hi.b0 hi.b1) rfl (WO.p rfl rfl (WO.p rfl rfl (WO.nil (W.ret ?_))))))))))))
 exact fin.ret (Res.one rfl (RV.tmp rfl)) rfl
structure CapS (w:World) (p:Addr) (vs:List Value):Prop where
 lt:p.block<w.heap.size
 at_:∀ j v,vs[j]?=some v→w.cell? (p.add j)=some v
section
variable {C:Cx Tryz.prog} {H L:List HP} {w:World}
theorem CapS.of {b:Nat} {cs:List Value} {t:TypeId} {fr:Nat × Nat} {H':List HP} (p:Pick (pt b (.cells cs.toArray t fr)) H H') (hi:Inv C.w0 C.M (L++H) w):CapS w ⟨b,0,none⟩ cs :=
 ⟨by have h1:=(hi.look (p.app L)).1;exact (Array.getElem?_eq_some_iff.1 h1).1,fun j v hv=>Cells.own (C:=C) p j v hv L w hi⟩
theorem CapS.old {p:Addr} {vs:List Value} (hB:C.B=C.w0.heap.size) (h:CapS C.w0 p vs) (hi:Inv C.w0 C.M (L++H) w):CapS w p vs :=
 ⟨by have h1:=h.lt;have h2:=hi.size;omega,fun j v hv=>Cell.old (C:=C) (H:=H) (by rw [hB,addr_add_block];exact h.lt) (h.at_ j v hv) L w hi⟩
theorem CapS.cells {p:Addr} {vs:List Value} (hB:C.B=C.w0.heap.size) (h:CapS C.w0 p vs):Cells C H p vs:=fun j v hv=>Cell.old (by rw [hB,addr_add_block];exact h.lt) (h.at_ j v hv)
end
abbrev tstL (t:Tst):List Value:=[.int .i64 t.sp,.int .i64 t.lo,.int .i64 t.we,.int .i64 t.al,.int .i64 t.f0,.int .i64 t.f1,.int .i64 t.t0,.int .i64 t.t1,.int .i64 t.s0,.int .i64 t.s1,.int .i64 t.m0,.int .i64 t.m1,.int .i64 t.b0,.int .i64 t.b1,.int .i64 t.r0,.int .i64 t.r1]
theorem c_reckon1 (w:World) (t:Tst) (p:Addr) (v u:Value) (xs:List Int) (hp:CapS w p (tstL t)) (h:OkTst t) (hi:InL t xs) (hn:2≤xs.length∧xs.length≤12) (ho:u.oneCell'=true) (hX:RdF encI 1 w.heap.size w v xs):Ret Tryz.prog 114 [.agg #[v,u],.pointer (some p)].toArray w (.bool false):=by
 refine Ret.of mixed tyTab Tryz.func114 rfl rfl ?_
 replace hp:CapS (fnCx mixed tyTab Tryz.f114.ntmps w).w0 p (tstL t):=hp
 have hq:∀ H,Cells (fnCx mixed tyTab Tryz.f114.ntmps w) H p (tstL t):=fun H=>CapS.cells rfl hp
 replace hX:RdF encI 1 (fnCx mixed tyTab Tryz.f114.ntmps w).B (fnCx mixed tyTab Tryz.f114.ntmps w).w0 v xs:=hX
 have hxo:=hX.sl.oc
 refine W.sreg (WO.boxA rfl rfl (fun b1 hb1=>(WO.p rfl rfl (WO.nil (W.sreg ?_)))))
 refine' WO.loadA (vs:=_) rfl rfl ?hc ?hl rfl ?_
 case hc=>exact hq _
 case hl=>rfl
 refine WO.loadA rfl rfl (Cells.own Pick.head) rfl rfl ?_
 refine' WO.build (cs:=_) rfl rfl rfl ?hf rfl ?_
 case hf=>(conv=>lhs;simp [-List.getD_eq_getElem?_getD,fillL,vcl,wrl,TTab.pl?.lget']) <;> rfl
 refine WO.callR rfl Tryz.call115 (fun L w hi'=>c_reckons w t v u xs h hi hn ho (hX.later hi')) rfl (WO.p rfl rfl (WO.p rfl rfl (WO.nil (W.ret ?_))))
 exact fin.ret (Res.one rfl (RV.tmp rfl)) rfl
theorem c_IndexL (w:World) (t:Tst) (p:Addr) (lv:Value) (vs:List VV) (ls:List Ln) (hp:CapS w p (tstL t)) (h:OkTst t) (hk:OkLs ls) (hin:∀ i,i<ls.length→InL t (ls.getD i ln0).1) (hL:RdL w.heap.size w lv vs ls):Ret Tryz.prog 199 [lv,.func (.func 114) #[] #[.pointer (some p)]].toArray w (.int .i64 (-1)):=by
 refine Ret.of mixed tyTab Tryz.func199 rfl rfl ?_
 replace hp:CapS (fnCx mixed tyTab Tryz.f199.ntmps w).w0 p (tstL t):=hp
 replace hL:RdL (fnCx mixed tyTab Tryz.f199.ntmps w).B (fnCx mixed tyTab Tryz.f199.ntmps w).w0 lv vs ls:=hL
 have hlo:=hL.sl.oc
 have hn:=hk.n
 refine W.sreg (WO.p rfl rfl (WO.nil (W.seq (W.sreg (WO.p rfl rfl ?_)))))
 refine' WO.len (n:=_) rfl rfl ?hs rfl ?_
 case hs=>exact hL.sl
 refine WO.p rfl rfl (WO.nil (W.block ?_))
 refine W.loop (fun (i:Nat)=>i≤ls.length)
  (fun (i:Nat)=>[(8,.int .i64 (i:Int)),(7,.int .i64 (ls.length:Int)),(0,lv),(1,.func (.func 114) #[] #[.pointer (some p)])])
  (fun (i:Nat)=>[])
  (fun (i:Nat)=>ls.length-i) 0
  (by omega) ⟨rfl,rfl,rfl,rfl,trivial⟩ (by repeat (first | exact Sub.nil | refine Sub.cons (by repeat first | exact .head | apply Pick.tail) ?_)) ?_
 rintro i hi0
 refine W.sreg (WO.p rfl rfl (WO.nil (W.seq ?_)))
 refine W.cond_bl rfl (fun c1=>?_) (fun c1=>?_)
 ·refine W.skip (W.seq (W.block (W.sreg (WO.p rfl rfl (WO.p rfl rfl (WO.nil (W.sreg (WO.p rfl rfl (WO.p rfl rfl (WO.p rfl rfl ?_))))))))))
  refine' WO.indexAddr (n:=_) (i:=_) rfl rfl rfl ?hs ?h1 rfl ?_
  case hs=>exact hL.sl
  case h1=>(omega)
  refine' WO.loadA (vs:=_) rfl rfl ?hc ?hl rfl ?_
  case hc=>exact hL.cells (i:=i) (by omega)
  case hl=>rfl
  refine WO.callCR (first:=[]) (captured:=[.pointer (some p)]) rfl rfl Tryz.call114 (fun L w hi'=>c_reckon1 w t p _ _ (ls.getD i ln0).1 (hp.old rfl hi') h (hin i (by omega)) (hk.ok i (by omega)).n (hL.y i (by omega)).sl.oc ((hL.x i (by omega)).later hi')) rfl (WO.nil (W.cond_f rfl (W.skip (W.region (WO.ar rfl rfl rfl (by unfold in64;omega) rfl (WO.p rfl rfl (WO.nil ?_)))))))
  refine' ⟨i+1,?hp,?hmu,⟨rfl,rfl,rfl,rfl,trivial⟩,?hS⟩
  case hS=>repeat (first | exact Sub.nil | refine Sub.cons (by repeat first | exact .head | apply Pick.tail) ?_)
  case hp=>omega
  case hmu=>omega
 ·refine W.exit (blk_same (W.sreg (WO.p rfl rfl (WO.nil (W.ret ?_)))))
  exact fin.ret (Res.one rfl (RV.tmp rfl)) rfl
theorem c_ContainsL (w:World) (t:Tst) (p:Addr) (lv:Value) (vs:List VV) (ls:List Ln) (hp:CapS w p (tstL t)) (h:OkTst t) (hk:OkLs ls) (hin:∀ i,i<ls.length→InL t (ls.getD i ln0).1) (hL:RdL w.heap.size w lv vs ls):Ret Tryz.prog 113 [lv,.func (.func 114) #[] #[.pointer (some p)]].toArray w (.bool false):=by
 refine Ret.of mixed tyTab Tryz.func113 rfl rfl ?_
 replace hp:CapS (fnCx mixed tyTab Tryz.f113.ntmps w).w0 p (tstL t):=hp
 replace hL:RdL (fnCx mixed tyTab Tryz.f113.ntmps w).B (fnCx mixed tyTab Tryz.f113.ntmps w).w0 lv vs ls:=hL
 refine W.sreg (WO.p rfl rfl (WO.nil (W.sreg (WO.p rfl rfl (WO.p rfl rfl (WO.callR rfl Tryz.call199 (fun L w hi'=>c_IndexL w t p lv vs ls (hp.old rfl hi') h hk hin (hL.later hi')) rfl (WO.p rfl rfl (WO.p rfl rfl (WO.nil (W.ret ?_))))))))))
 exact fin.ret (Res.one rfl (RV.tmp rfl)) (congrArg Value.bool (bl_f.2 (by omega)))
theorem c_checkLines (w:World) (lv:Value) (vs:List VV) (ls:List Ln) (hk:OkLs ls) (hL:RdL w.heap.size w lv vs ls):Ret Tryz.prog 112 [lv].toArray w (.int .i64 0):=by
 refine Ret.of mixed tyTab Tryz.func112 rfl rfl ?_
 replace hL:RdL (fnCx mixed tyTab Tryz.f112.ntmps w).B (fnCx mixed tyTab Tryz.f112.ntmps w).w0 lv vs ls:=hL
 have hlo:=hL.sl.oc
 have hn:=hk.n
 refine W.sreg (WO.p rfl rfl (WO.nil (W.seq (W.sreg (WO.p rfl rfl ?_)))))
 refine' WO.len (n:=_) rfl rfl ?hs rfl ?_
 case hs=>exact hL.sl
 refine WO.p rfl rfl (WO.p rfl rfl ?_)
 refine WO.guard_bl rfl rfl (fun c1=>?_) (fun c1=>?_)
 ·exfalso;omega
 ·refine WO.pg rfl rfl rfl (WO.go' rfl ?_)
  refine' WO.len (n:=_) rfl rfl ?hs rfl ?_
  case hs=>exact hL.sl
  refine WO.pg rfl rfl rfl (WO.p rfl rfl (WO.nil ?_))
  refine W.cond_bl rfl (fun c2=>?_) (fun c2=>?_)
  ·exfalso;omega
  ·refine W.skip (W.seq (W.sreg (WO.p rfl rfl ?_)))
   refine' WO.len (n:=_) rfl rfl ?hs rfl ?_
   case hs=>exact hL.sl
   refine WO.p rfl rfl (WO.nil (W.block ?_))
   refine W.loop (fun (i:Nat)=>i≤ls.length)
    (fun (i:Nat)=>[(2,.int .i64 0),(14,lv),(15,.int .i64 (ls.length:Int)),(16,.int .i64 (i:Int))])
    (fun (i:Nat)=>[])
    (fun (i:Nat)=>ls.length-i) 0
    (by omega) ⟨rfl,rfl,rfl,rfl,trivial⟩ (by repeat (first | exact Sub.nil | refine Sub.cons (by repeat first | exact .head | apply Pick.tail) ?_)) ?_
   rintro i hi0
   refine W.sreg (WO.p rfl rfl (WO.nil (W.seq ?_)))
   refine W.cond_bl rfl (fun c3=>?_) (fun c3=>?_)
   ·refine W.skip (W.seq (W.block ?_))
    have hxo:=(hL.x i (by omega)).sl.oc
    have hyo:=(hL.y i (by omega)).sl.oc
    refine W.sreg ?_
    refine' WO.indexAddr (n:=_) (i:=_) rfl rfl rfl ?hs ?h1 rfl ?_
    case hs=>exact hL.sl
    case h1=>(omega)
    refine' WO.loadA (vs:=_) rfl rfl ?hc ?hl rfl ?_
    case hc=>exact hL.cells (i:=i) (by omega)
    case hl=>rfl
    refine WO.alloc rfl rfl rfl (fun b1 hb1=>(WO.storeA rfl rfl rfl rfl Pick.head rfl (by rw [List.all_cons,hxo,List.all_cons,hyo];rfl) (WO.nil (W.sreg (WO.loadA rfl rfl (Cells.own Pick.head) rfl rfl (WO.callR rfl Tryz.call50 (fun L w hi=>c_CheckLine w _ _ (ls.getD i ln0).1 (ls.getD i ln0).2 ((hL.x i (by omega)).later hi) ((hL.y i (by omega)).later hi) (hk.ok i (by omega))) rfl (WO.p rfl rfl (WO.nil (W.sreg (WO.p rfl rfl (WO.neqF rfl rfl (by omega) rfl (WO.nil (W.cond_f rfl (W.skip (W.region (WO.ar rfl rfl rfl (by unfold in64;omega) rfl (WO.p rfl rfl (WO.nil ?_))))))))))))))))))
    refine' ⟨i+1,?hp,?hmu,⟨rfl,rfl,rfl,rfl,trivial⟩,?hS⟩
    case hS=>repeat (first | exact Sub.nil | refine Sub.cons (by repeat first | exact .head | apply Pick.tail) ?_)
    case hp=>omega
    case hmu=>omega
   ·refine W.exit (blk_same (W.sreg (WO.p rfl rfl (WO.nil (W.ret ?_)))))
    exact fin.ret (Res.one rfl (RV.tmp rfl)) rfl
theorem c_reckon (w:World) (t:Tst) (lv:Value) (vs:List VV) (ls:List Ln) (h:OkTst t) (hk:OkLs ls) (hin:∀ i,i<ls.length→InL t (ls.getD i ln0).1) (hL:RdL w.heap.size w lv vs ls):Ret Tryz.prog 47 [tstV t,lv].toArray w (.tuple #[tstV t,.int .i64 0]):=by
 refine Ret.of mixed tyTab Tryz.func47 rfl rfl ?_
 replace hL:RdL (fnCx mixed tyTab Tryz.f47.ntmps w).B (fnCx mixed tyTab Tryz.f47.ntmps w).w0 lv vs ls:=hL
 have hlo:=hL.sl.oc
 refine W.sreg (WO.boxA rfl rfl (fun b1 hb1=>(WO.alloc rfl rfl rfl (fun b2 hb2=>(WO.p rfl rfl (WO.nil (W.sreg (WO.loadA rfl rfl (Cells.own (Pick.tail (Pick.head))) rfl rfl ?_))))))))
 refine' WO.build (cs:=_) rfl rfl rfl ?hf rfl ?_
 case hf=>(conv=>lhs;simp [-List.getD_eq_getElem?_getD,fillL,vcl,wrl,TTab.pl?.lget']) <;> rfl
 refine WO.alloc rfl rfl rfl (fun b3 hb3=>(WO.storeA rfl rfl rfl rfl Pick.head rfl rfl (WO.nil (W.seq (W.sreg (WO.loadA rfl rfl (Cells.own (Pick.tail (Pick.tail (Pick.head)))) rfl rfl (WO.callR rfl Tryz.call49 (fun L w hi=>c_CheckTest4 w t h) rfl (WO.p rfl rfl (WO.nil (W.sreg (WO.p rfl rfl (WO.neqF rfl rfl (by omega) rfl (WO.nil (W.cond_f rfl (W.skip (W.seq (W.sreg (WO.p rfl rfl (WO.callR rfl Tryz.call112 (fun L w hi=>c_checkLines w lv vs ls hk (hL.later hi)) rfl (WO.p rfl rfl (WO.nil (W.sreg (WO.p rfl rfl (WO.neqF rfl rfl (by omega) rfl (WO.nil (W.cond_f rfl (W.skip (W.seq (W.sreg (WO.p rfl rfl (WO.p rfl rfl ?_)))))))))))))))))))))))))))))))
 refine WO.callR rfl Tryz.call113 (fun L w hi=>c_ContainsL w t ⟨b3,0,none⟩ lv vs ls (CapS.of (b:=b3) (by repeat exact .head) hi) h hk hin (hL.later hi)) rfl (WO.nil (W.cond_f rfl (W.skip (W.sreg (WO.loadA rfl rfl (Cells.own Pick.head) rfl rfl (WO.storeA rfl rfl rfl rfl (Pick.tail (Pick.head)) rfl rfl (WO.p rfl rfl (WO.nil (W.ret ?_)))))))))
 exact fin.ret (Res.two rfl (RV.cell rfl rfl rfl (Cells.own (by repeat exact .head))) (RV.tmp rfl)) rfl
end Go.Proofs.YtfchgmiiicidcaaGreat
namespace Go.Proofs.YtfchgmiiicidcaaGreat
open Go Go.TH
set_option maxRecDepth 10000
/-- a truth: force, tank, sea, form, block, rough -/
structure Trt where
  f:Int
  ta:Int
  se:Int
  m:Int
  b:Int
  r:Int
abbrev trtV (x:Trt):Value:=.agg #[.int .i64 x.f,.int .i64 x.ta,.int .i64 x.se,.int .i64 x.m,.int .i64 x.b,.int .i64 x.r]
structure TrtIn (t:Tst) (x:Trt):Prop where
  f:t.f0≤x.f∧x.f≤t.f1
  ta:t.t0≤x.ta∧x.ta≤t.t1
  se:t.s0≤x.se∧x.se≤t.s1
  m:t.m0≤x.m∧x.m≤t.m1
  b:t.b0≤x.b∧x.b≤t.b1
  r:t.r0≤x.r∧x.r≤t.r1
/-- what was measured -/
def msV (t:Tst) (f:Int):Int:=min 1000000000 ((20000000000*f).tdiv (t.we*t.sp*t.sp))
noncomputable def ownV (xs ys:List Int) (m re:Int):Int:=((1000+m)*frV xs ys re).tdiv 1000
noncomputable def coV (t:Tst) (xs ys:List Int) (x:Trt):Int:=(msV t x.f*(1000-x.b)).tdiv 1000-ownV xs ys x.m (moV t x.ta)+ownV xs ys x.m (shV t x.se)+x.r
theorem tdiv_anti {a b c:Int} (h0:0≤a) (hb:0<b) (h:b≤c):a.tdiv c≤a.tdiv b:=by
  rw [Int.tdiv_eq_ediv_of_nonneg h0,Int.tdiv_eq_ediv_of_nonneg h0]
  refine Int.le_ediv_of_mul_le hb ?_
  have h1:=Int.ediv_nonneg h0 (show 0≤c by omega)
  have h2:=Int.mul_le_mul_of_nonneg_left h h1
  have h3:=Int.ediv_mul_le a (show c≠0 by omega)
  omega
theorem mo_anti {t:Tst} (h:OkTst t) {x y:Int} (hx:0<x) (hxy:x≤y):moV t y≤moV t x:=tdiv_anti h.nums.a.1 hx hxy
theorem sh_anti {t:Tst} (h:OkTst t) {x y:Int} (hx:0<x) (hxy:x≤y):shV t y≤shV t x:=tdiv_anti h.nums.d.1 hx hxy
theorem InL.mo {t:Tst} {xs:List Int} (h:OkTst t) (hi:InL t xs) {x:Int} (h0:t.t0≤x) (h1:x≤t.t1):xs.getD 0 0≤moV t x∧moV t x≤xs.getD (xs.length-1) 0:=by
  have q:=h.ta
  have a:=mo_anti h (show 0<x by omega) h1
  have b:=mo_anti h (show 0<t.t0 by omega) h0
  have c:=hi.a0
  have d:=hi.a1
  omega
theorem InL.sh {t:Tst} {xs:List Int} (h:OkTst t) (hi:InL t xs) {x:Int} (h0:t.s0≤x) (h1:x≤t.s1):xs.getD 0 0≤shV t x∧shV t x≤xs.getD (xs.length-1) 0:=by
  have q:=h.se
  have a:=sh_anti h (show 0<x by omega) h1
  have b:=sh_anti h (show 0<t.s0 by omega) h0
  have c:=hi.b0
  have d:=hi.b1
  omega
theorem div_pos {t:Tst} (h:OkTst t):1≤t.we*t.sp*t.sp∧t.we*t.sp*t.sp≤100000000000000:=by
  have a:=h.we
  have b:=h.sp
  have c:=Int.mul_pos (Int.mul_pos (show 0<t.we by omega) (show 0<t.sp by omega)) (show 0<t.sp by omega)
  have d:=mulB (a:=t.we) (b:=t.sp) (A:=1000000) (B:=10000) (by omega) (by omega)
  have e:=mulB (b:=t.sp) (B:=10000) d (by omega)
  omega
theorem msB {t:Tst} (h:OkTst t) {f:Int} (hf:0≤f∧f≤100000000):(0≤(20000000000*f).tdiv (t.we*t.sp*t.sp)∧(20000000000*f).tdiv (t.we*t.sp*t.sp)≤2000000000000000000)∧0≤msV t f∧msV t f≤1000000000:=by
  have a:=tdivB (a:=20000000000*f) (b:=t.we*t.sp*t.sp) (A:=2000000000000000000) (by omega) (by have:=div_pos h;omega)
  unfold msV
  omega
theorem ms_mono {t:Tst} (h:OkTst t) {f g:Int} (h0:0≤f) (hfg:f≤g):msV t f≤msV t g:=by
  have:=tdiv_mono (a:=20000000000*f) (b:=20000000000*g) (m:=t.we*t.sp*t.sp) (by omega) (by omega) (by have:=div_pos h;omega)
  unfold msV
  omega
theorem owB {xs ys:List Int} (hL:OkLn xs ys) {m re:Int} (hm:0≤m∧m≤1000) (h0:xs.getD 0 0≤re) (h1:re≤xs.getD (xs.length-1) 0):(0≤(1000+m)*frV xs ys re∧(1000+m)*frV xs ys re≤200000000)∧0≤ownV xs ys m re∧ownV xs ys m re≤200000000:=by
  have f:=frV_bd hL h0 h1
  have a:=mulB (a:=1000+m) (b:=frV xs ys re) (A:=2000) (B:=100000) (by omega) f
  have b:=tdivB (b:=1000) a (by omega)
  unfold ownV
  omega
theorem ow_anti {xs ys:List Int} (hL:OkLn xs ys) {m x y:Int} (hm:0≤m∧m≤1000) (h0:xs.getD 0 0≤x) (h:x≤y) (h1:y≤xs.getD (xs.length-1) 0):ownV xs ys m y≤ownV xs ys m x:=by
  have f:=frV_bd hL (x:=y) (by omega) h1
  have g:=frV_le hL h0 h h1
  exact tdiv_mono (Int.mul_nonneg (by omega) f.1) (Int.mul_le_mul_of_nonneg_left g (by omega)) (by omega)
theorem coB {t:Tst} {xs ys:List Int} (h:OkTst t) (hL:OkLn xs ys) (hi:InL t xs) {x:Trt} (hx:TrtIn t x) : -200000000≤coV t xs ys x∧coV t xs ys x≤1200002000:=by
  have a:=msB h (f:=x.f) (by have:=h.f;have:=hx.f;omega)
  have b:=mulB (a:=msV t x.f) (b:=1000-x.b) (A:=1000000000) (B:=1000) a.2 (by have:=h.b;have:=hx.b;omega)
  have c:=tdivB (b:=1000) b (by omega)
  have c2:(msV t x.f*(1000-x.b)).tdiv 1000≤1000000000:=by
    rw [Int.tdiv_eq_ediv_of_nonneg b.1];omega
  have m1:=hi.mo h hx.ta.1 hx.ta.2
  have m2:=hi.sh h hx.se.1 hx.se.2
  have hm:0≤x.m∧x.m≤1000:=by have:=h.m;have:=hx.m;omega
  have d:=owB hL hm m1.1 m1.2
  have e:=owB hL hm m2.1 m2.2
  have f:=h.r
  have g:=hx.r
  unfold coV
  omega
theorem co_mono {t:Tst} {xs ys:List Int} (h:OkTst t) (hL:OkLn xs ys) (hi:InL t xs) {x y:Trt} (hx:TrtIn t x) (hy:TrtIn t y) (hf:x.f≤y.f) (ht:y.ta≤x.ta) (hs:x.se≤y.se) (hm:x.m=y.m) (hb:y.b≤x.b) (hr:x.r≤y.r):coV t xs ys x≤coV t xs ys y:=by
  have q1:=h.f
  have q2:=h.b
  have q3:=hx.f
  have q4:=hx.b
  have q5:=h.ta
  have q6:=h.se
  have q7:=hy.ta
  have q8:=hx.se
  have a:=msB h (f:=x.f) (by omega)
  have a2:=ms_mono h (show 0≤x.f by omega) hf
  have b:=tdiv_mono (a:=msV t x.f*(1000-x.b)) (b:=msV t y.f*(1000-y.b)) (m:=1000) (Int.mul_nonneg a.2.1 (by omega)) (Int.mul_le_mul a2 (by omega) (by omega) (by omega)) (by omega)
  have hm2:0≤x.m∧x.m≤1000:=by have:=h.m;have:=hx.m;omega
  have m1:=hi.mo h hx.ta.1 hx.ta.2
  have m2:=hi.mo h hy.ta.1 hy.ta.2
  have m3:=hi.sh h hx.se.1 hx.se.2
  have m4:=hi.sh h hy.se.1 hy.se.2
  have c:=ow_anti hL hm2 m1.1 (mo_anti h (by omega) ht) m2.2
  have d:=ow_anti hL hm2 m4.1 (sh_anti h (by omega) hs) m3.2
  unfold coV
  rw [← hm]
  omega
end Go.Proofs.YtfchgmiiicidcaaGreat
namespace Go.Proofs.YtfchgmiiicidcaaGreat
open Go Go.TH
attribute [local irreducible] W WO pt
set_option maxRecDepth 10000
set_option maxHeartbeats 2000000
theorem c_own (w:World) (b c:Nat) (v u:Value) (xs ys:List Int) (m re:Int) (hb:Cap w ⟨b,3,none⟩ (.int .i64 m)) (hc:Cap w ⟨c,0,none⟩ (.func (.func 118) #[.agg #[v,u]] #[])) (hm:0≤m∧m≤1000) (hX:RdF encI 1 w.heap.size w v xs) (hY:RdF encI 1 w.heap.size w u ys) (hL:OkLn xs ys) (h0:xs.getD 0 0≤re) (h1:re≤xs.getD (xs.length-1) 0):Ret Tryz.prog 119 [.int .i64 re,.pointer (some ⟨b,0,none⟩),.pointer (some ⟨c,0,none⟩)].toArray w (.int .i64 (ownV xs ys m re)):=by
 refine Ret.of mixed tyTab Tryz.func119 rfl rfl ?_
 have hq1:∀ H,Cell (fnCx mixed tyTab Tryz.f119.ntmps w) H (prt ⟨b,0,none⟩ 3) (.int .i64 m):=fun H=>by rw [prt_eq,show (Addr.add ⟨b,0,none⟩ 3)=⟨b,3,none⟩ by unfold Addr.add;split <;> simp_all];exact Cap.cell rfl hb
 have hq2:∀ H,Cell (fnCx mixed tyTab Tryz.f119.ntmps w) H ⟨c,0,none⟩ (.func (.func 118) #[.agg #[v,u]] #[]):=fun H=>Cap.cell rfl hc
 replace hX:RdF encI 1 (fnCx mixed tyTab Tryz.f119.ntmps w).B (fnCx mixed tyTab Tryz.f119.ntmps w).w0 v xs:=hX
 replace hY:RdF encI 1 (fnCx mixed tyTab Tryz.f119.ntmps w).B (fnCx mixed tyTab Tryz.f119.ntmps w).w0 u ys:=hY
 have hxo:=hX.sl.oc
 have hyo:=hY.sl.oc
 have ho:=owB hL hm h0 h1
 have hf:=frV_bd hL h0 h1
 refine W.sreg (WO.p rfl rfl (WO.nil (W.seq ?_)))
 refine W.drawD 6 [.r 0 [],.b 1 [],.r 2 [],.b 3 [],.r 4 [],.b 5 []] [] (A0:=[]) (Sub.refl _) (by kernel_rfl) ?_ ?_
 ·repeat constructor
 refine DT.r rfl rfl rfl (WO.field rfl rfl rfl (WO.nil ⟨rfl,rfl⟩)) (DT.b rfl rfl rfl (WO.load (v:=_) rfl rfl (hq1 _) rfl (WO.nil ⟨rfl,rfl⟩)) (DT.r rfl rfl rfl (WO.ar rfl rfl rfl (by unfold in64;omega) rfl (WO.nil ⟨rfl,rfl⟩)) (DT.b rfl rfl rfl (WO.load (v:=_) rfl rfl (hq2 _) rfl (WO.nil ⟨rfl,rfl⟩)) (DT.r rfl rfl rfl (WO.p rfl rfl (WO.nil ⟨rfl,rfl⟩)) (DT.b rfl rfl rfl (WO.callCR (first:=[.agg #[v,u]]) (captured:=[]) rfl rfl Tryz.call118 (fun L w hi'=>c_friction w v u xs ys re (hX.later hi') (hY.later hi') hL h0 h1) rfl (WO.nil ⟨rfl,rfl⟩)) (DT.nil [] rfl (WO.ar rfl rfl rfl (by unfold in64;omega) rfl ?_)))))))
 refine WO.quo rfl rfl (by omega) (by have:=ho.2;unfold ownV at this;unfold in64;omega) rfl (WO.p rfl rfl (WO.nil (W.ret ?_)))
 exact fin.ret (Res.one rfl (RV.tmp rfl)) rfl
theorem c_coef (w:World) (t:Tst) (v u:Value) (xs ys:List Int) (x:Trt) (h:OkTst t) (hin:InL t xs) (hx:TrtIn t x) (hX:RdF encI 1 w.heap.size w v xs) (hY:RdF encI 1 w.heap.size w u ys) (hL:OkLn xs ys):Ret Tryz.prog 57 [tstV t,.agg #[v,u],trtV x].toArray w (.int .i64 (coV t xs ys x)):=by
 refine Ret.of mixed tyTab Tryz.func57 rfl rfl ?_
 replace hX:RdF encI 1 (fnCx mixed tyTab Tryz.f57.ntmps w).B (fnCx mixed tyTab Tryz.f57.ntmps w).w0 v xs:=hX
 replace hY:RdF encI 1 (fnCx mixed tyTab Tryz.f57.ntmps w).B (fnCx mixed tyTab Tryz.f57.ntmps w).w0 u ys:=hY
 have hxo:=hX.sl.oc
 have hyo:=hY.sl.oc
 have q1:=h.f
 have q2:=h.b
 have q3:=hx.f
 have q4:=hx.b
 have q5:=h.ta
 have q6:=h.se
 have q7:=hx.ta
 have q8:=hx.se
 have q9:=h.r
 have q10:=hx.r
 have q11:=h.we
 have q12:=h.sp
 have hm:0≤x.m∧x.m≤1000:=by have:=h.m;have:=hx.m;omega
 have d1:=mulB (a:=t.we) (b:=t.sp) (A:=1000000) (B:=10000) (by omega) (by omega)
 have d2:=div_pos h
 have hms:=msB h (f:=x.f) (by omega)
 have b1:=mulB (a:=msV t x.f) (b:=1000-x.b) (A:=1000000000) (B:=1000) hms.2 (by omega)
 have b2:=tdivB (b:=1000) b1 (by omega)
 have m1:=hin.mo h hx.ta.1 hx.ta.2
 have m2:=hin.sh h hx.se.1 hx.se.2
 have o1:=owB hL hm m1.1 m1.2
 have o2:=owB hL hm m2.1 m2.2
 have hmse:min 1000000000 ((20000000000*x.f).tdiv (t.we*t.sp*t.sp))=msV t x.f:=rfl
 refine W.sreg (WO.boxA rfl rfl (fun b1 hb1=>(WO.boxA rfl rfl (fun b2 hb2=>(WO.boxA rfl rfl (fun b3 hb3=>(WO.p rfl rfl (WO.nil (W.seq ?_)))))))))
 refine W.drawD 19 [.r 0 [],.b 1 [],.r 2 [],.r 3 [],.r 4 [],.b 5 [],.r 6 [],.r 7 [],.b 8 [],.r 9 [],.r 10 [],.r 11 [],.b 12 [],.r 13 [],.r 14 [],.r 15 [],.r 16 [],.b 17 [],.r 18 []] [] (A0:=[]) (Sub.refl _) (by kernel_rfl) ?_ ?_
 ·repeat constructor
 refine DT.r rfl rfl rfl (WO.field0 rfl rfl rfl (WO.nil ⟨rfl,rfl⟩)) (DT.b rfl rfl rfl (WO.load rfl rfl (Cell.own Pick.head rfl) rfl (WO.nil ⟨rfl,rfl⟩)) (DT.r rfl rfl rfl (WO.ar rfl rfl rfl (by unfold in64;omega) rfl (WO.nil ⟨rfl,rfl⟩)) (DT.r rfl rfl rfl (WO.field0 rfl rfl rfl (WO.nil ⟨rfl,rfl⟩)) (DT.r rfl rfl rfl (WO.fieldL rfl rfl rfl (WO.nil ⟨rfl,rfl⟩)) (DT.b rfl rfl rfl (WO.load rfl rfl (Cell.own (Pick.tail (Pick.tail (Pick.head))) rfl) rfl (WO.nil ⟨rfl,rfl⟩)) (DT.r rfl rfl rfl (WO.field0 rfl rfl rfl (WO.nil ⟨rfl,rfl⟩)) (DT.r rfl rfl rfl (WO.field0 rfl rfl rfl (WO.nil ⟨rfl,rfl⟩)) ?_)))))))
 refine DT.b rfl rfl rfl (WO.load rfl rfl (Cell.own (Pick.tail (Pick.tail (Pick.head))) rfl) rfl (WO.nil ⟨rfl,rfl⟩)) (DT.r rfl rfl rfl (WO.ar rfl rfl rfl (by unfold in64;omega) rfl (WO.nil ⟨rfl,rfl⟩)) (DT.r rfl rfl rfl (WO.field0 rfl rfl rfl (WO.nil ⟨rfl,rfl⟩)) (DT.r rfl rfl rfl (WO.field0 rfl rfl rfl (WO.nil ⟨rfl,rfl⟩)) (DT.b rfl rfl rfl (WO.load rfl rfl (Cell.own (Pick.tail (Pick.tail (Pick.head))) rfl) rfl (WO.nil ⟨rfl,rfl⟩)) (DT.r rfl rfl rfl (WO.ar rfl rfl rfl (by unfold in64;omega) rfl (WO.nil ⟨rfl,rfl⟩)) (DT.r rfl rfl rfl (WO.quo rfl rfl (by omega) (by unfold in64;omega) rfl (WO.nil ⟨rfl,rfl⟩)) ?_))))))
 refine' DT.r rfl rfl rfl ?hq ?_
 case hq =>
  refine WO.min2 rfl rfl rfl ?_
  rw [hmse]
  exact WO.nil ⟨rfl,rfl⟩
 refine DT.r rfl rfl rfl (WO.fieldL rfl rfl rfl (WO.nil ⟨rfl,rfl⟩)) (DT.b rfl rfl rfl (WO.load rfl rfl (Cell.own Pick.head rfl) rfl (WO.nil ⟨rfl,rfl⟩)) (DT.r rfl rfl rfl (WO.ar rfl rfl rfl (by unfold in64;omega) rfl (WO.nil ⟨rfl,rfl⟩)) (DT.nil [_,_,_] rfl (WO.ar rfl rfl rfl (by unfold in64;omega) rfl (WO.quo rfl rfl (by omega) (by unfold in64;omega) rfl (WO.p rfl rfl (WO.nil (W.sreg (WO.loadA rfl rfl (Cells.own (Pick.tail (Pick.head))) rfl rfl (WO.p rfl rfl (WO.alloc rfl rfl rfl (fun b4 hb4=>(WO.store1 rfl rfl rfl (by rfl) Pick.head rfl (WO.nil (W.sreg (WO.p rfl rfl (WO.p rfl rfl (WO.nil (W.seq ?_)))))))))))))))))))
 refine W.drawD 17 [.r 0 [],.r 1 [],.b 2 [],.r 3 [],.b 4 [],.b 5 [],.b 6 [],.r 7 [],.r 8 [],.b 9 [],.r 10 [],.b 11 [],.b 12 [],.b 13 [],.r 14 [],.r 15 [],.b 16 []] [] (A0:=[]) (Sub.refl _) (by kernel_rfl) ?_ ?_
 ·repeat constructor
 refine DT.r rfl rfl rfl (WO.p rfl rfl (WO.nil ⟨rfl,rfl⟩)) (DT.r rfl rfl rfl (WO.p rfl rfl (WO.nil ⟨rfl,rfl⟩)) (DT.b rfl rfl rfl (WO.loadA rfl rfl (Cells.own (Pick.tail (Pick.tail (Pick.tail (Pick.head))))) rfl rfl (WO.nil ⟨rfl,rfl⟩)) (DT.r rfl rfl rfl (WO.fieldL rfl rfl rfl (WO.nil ⟨rfl,rfl⟩)) (DT.b rfl rfl rfl (WO.load rfl rfl (Cell.own (Pick.tail (Pick.head)) rfl) rfl (WO.nil ⟨rfl,rfl⟩)) (DT.b rfl rfl rfl (WO.callR rfl Tryz.call54 (fun L w hi=>c_model w t x.ta h (by omega)) rfl (WO.nil ⟨rfl,rfl⟩)) ?_)))))
 refine DT.b rfl rfl rfl (WO.callCR (first:=[]) (captured:=[.pointer (some ⟨b3,0,none⟩),.pointer (some ⟨b4,0,none⟩)]) rfl rfl Tryz.call119 (fun L w hi'=>c_own w b3 b4 v u xs ys x.m (moV t x.ta) (Cap.of (b:=b3) (by repeat first | exact .head | apply Pick.tail) rfl hi') (Cap.of (b:=b4) (by repeat exact .head) rfl hi') hm (hX.later hi') (hY.later hi') hL m1.1 m1.2) rfl (WO.nil ⟨rfl,rfl⟩)) (DT.r rfl rfl rfl (WO.ar rfl rfl rfl (by unfold in64;omega) rfl (WO.nil ⟨rfl,rfl⟩)) (DT.r rfl rfl rfl (WO.p rfl rfl (WO.nil ⟨rfl,rfl⟩)) ?_))
 refine DT.b rfl rfl rfl (WO.loadA rfl rfl (Cells.own (Pick.tail (Pick.tail (Pick.tail (Pick.head))))) rfl rfl (WO.nil ⟨rfl,rfl⟩)) (DT.r rfl rfl rfl (WO.fieldL rfl rfl rfl (WO.nil ⟨rfl,rfl⟩)) (DT.b rfl rfl rfl (WO.load rfl rfl (Cell.own (Pick.tail (Pick.head)) rfl) rfl (WO.nil ⟨rfl,rfl⟩)) (DT.b rfl rfl rfl (WO.callR rfl Tryz.call55 (fun L w hi=>c_ship w t x.se h (by omega)) rfl (WO.nil ⟨rfl,rfl⟩)) ?_)))
 refine DT.b rfl rfl rfl (WO.callCR (first:=[]) (captured:=[.pointer (some ⟨b3,0,none⟩),.pointer (some ⟨b4,0,none⟩)]) rfl rfl Tryz.call119 (fun L w hi'=>c_own w b3 b4 v u xs ys x.m (shV t x.se) (Cap.of (b:=b3) (by repeat first | exact .head | apply Pick.tail) rfl hi') (Cap.of (b:=b4) (by repeat exact .head) rfl hi') hm (hX.later hi') (hY.later hi') hL m2.1 m2.2) rfl (WO.nil ⟨rfl,rfl⟩)) (DT.r rfl rfl rfl (WO.ar rfl rfl rfl (by unfold in64;omega) rfl (WO.nil ⟨rfl,rfl⟩)) (DT.r rfl rfl rfl (WO.fieldL rfl rfl rfl (WO.nil ⟨rfl,rfl⟩)) (DT.b rfl rfl rfl (WO.load rfl rfl (Cell.own (Pick.tail (Pick.head)) rfl) rfl (WO.nil ⟨rfl,rfl⟩)) ?_)))
 refine DT.nil [_,_,_,_] rfl (WO.ar rfl rfl rfl (by unfold in64;omega) rfl (WO.p rfl rfl (WO.nil (W.ret ?_))))
 exact fin.ret (Res.one rfl (RV.tmp rfl)) rfl
theorem tmodB {n m:Int} (hn:0≤n) (hm:0<m):0≤n.tmod m∧n.tmod m<m:=by
 rw [Int.tmod_eq_emod_of_nonneg hn]
 exact ⟨Int.emod_nonneg n (by omega),Int.emod_lt_of_pos n hm⟩
theorem c_pick4 (w:World) (a b n:Int) (h:0≤a∧a≤b∧b≤1000000000) (hn:0≤n∧n≤4294967295):Ret Tryz.prog 58 [.agg #[.int .i64 a,.int .i64 b],.int .u32 n].toArray w (.int .i64 (a+n.tmod (b-a+1))):=by
 refine Ret.of mixed tyTab Tryz.func58 rfl rfl ?_
 have hmod:=tmodB hn.1 (show 0<b-a+1 by omega)
 refine W.sreg (WO.boxA rfl rfl (fun b1 hb1=>(WO.p rfl rfl (WO.nil (W.seq ?_)))))
 refine W.drawD 11 [.r 0 [],.b 1 [],.r 2 [],.r 3 [],.r 4 [],.b 5 [],.r 6 [],.b 7 [],.r 8 [],.r 9 [],.r 10 []] [] (A0:=[]) (Sub.refl _) (by kernel_rfl) ?_ ?_
 ·repeat constructor
 refine DT.r rfl rfl rfl (WO.field0 rfl rfl rfl (WO.nil ⟨rfl,rfl⟩)) (DT.b rfl rfl rfl (WO.load rfl rfl (Cell.own Pick.head rfl) rfl (WO.nil ⟨rfl,rfl⟩)) (DT.r rfl rfl rfl (WO.p rfl rfl (WO.nil ⟨rfl,rfl⟩)) (DT.r rfl rfl rfl (WO.conv64 rfl rfl rfl (by unfold in64;omega) rfl (WO.nil ⟨rfl,rfl⟩)) (DT.r rfl rfl rfl (WO.fieldL rfl rfl rfl (WO.nil ⟨rfl,rfl⟩)) (DT.b rfl rfl rfl (WO.load rfl rfl (Cell.own Pick.head rfl) rfl (WO.nil ⟨rfl,rfl⟩)) (DT.r rfl rfl rfl (WO.field0 rfl rfl rfl (WO.nil ⟨rfl,rfl⟩)) (DT.b rfl rfl rfl (WO.load rfl rfl (Cell.own Pick.head rfl) rfl (WO.nil ⟨rfl,rfl⟩)) (DT.r rfl rfl rfl (WO.ar rfl rfl rfl (by unfold in64;omega) rfl (WO.nil ⟨rfl,rfl⟩)) ?_))))))))
 refine DT.r rfl rfl rfl (WO.ar rfl rfl rfl (by unfold in64;omega) rfl (WO.nil ⟨rfl,rfl⟩)) (DT.r rfl rfl rfl (WO.rem rfl rfl (by omega) rfl (WO.nil ⟨rfl,rfl⟩)) (DT.nil [_] rfl (WO.ar rfl rfl rfl (by unfold in64;omega) rfl (WO.p rfl rfl (WO.nil (W.ret ?_))))))
 exact fin.ret (Res.one rfl (RV.tmp rfl)) rfl
end Go.Proofs.YtfchgmiiicidcaaGreat
