/-
  What is proved here: with which weight the pull at each place counts (chart.more); which end of a pull counts (chart.end). Conditions: none; each contract states its own.
-/
import Derived.Test.YtfchgmiiicidcaaGreatM4
import Derived.Test.YtfchgmiiicidcaaGreatM2
import Derived.Test.YtfchgmiiicidcaaGreatM3
import Derived.Laws.Cover1
set_option linter.unusedVariables false
set_option linter.unusedSimpArgs false
namespace Go.Proofs.YtfchgmiiicidcaaGreat
open Go Go.TH
attribute [local irreducible] W WO pt
set_option maxRecDepth 10000
set_option maxHeartbeats 2000000
def endV (R:Ch.Rws) (high:Bool) (k:Sk) (v:Int):Int:=if (high=true↔0<v) then Ch.hiAt R k.1 k.2 else Ch.loAt R k.1 k.2
theorem eq4_end (a:Bool) (p:Prop) [Decidable p]:EqT Tryz.prog .eql 4 (.bool a) (.bool (bl p)) (.bool (bl (a=true↔p))):=by
  intro x y w
  by_cases h:p <;> cases a <;> simp [go_sem,eqGuard,binOp,Op.equal,Op.maxDepth,Tryz.underlying4,bl_eq,h]
theorem c_end (w:World) (vp va o:Value) (rv:List Value) (P A:List Int) (R:Ch.Rws) (i k:Nat) (v:Int) (high:Bool) (hc:Ch.OkC P A R) (hi:i<P.length) (hk:k<A.length) (hP:RdF encI 1 w.heap.size w vp P) (hA:RdF encI 1 w.heap.size w va A) (hR:RdR encP 2 w.heap.size w o rv R):Ret Tryz.prog 109 [.agg #[vp,va,o],kv (i,k),.int .i64 v,.bool high].toArray w (.int .i64 (endV R high (i,k) v)):=by
  refine Ret.of mixed tyTab Tryz.func109 rfl rfl ?_
  replace hR:RdR encP 2 (fnCx mixed tyTab Tryz.f109.ntmps w).B (fnCx mixed tyTab Tryz.f109.ntmps w).w0 o rv R:=hR
  replace hP:RdF encI 1 (fnCx mixed tyTab Tryz.f109.ntmps w).B (fnCx mixed tyTab Tryz.f109.ntmps w).w0 vp P:=hP
  replace hA:RdF encI 1 (fnCx mixed tyTab Tryz.f109.ntmps w).B (fnCx mixed tyTab Tryz.f109.ntmps w).w0 va A:=hA
  have hop:=hP.sl.oc
  have hoa:=hA.sl.oc
  have hoo:=hR.sl.oc
  have hnr:=hc.nr
  have hrw:=hc.row (show i<R.length by omega)
  unfold kv
  dsimp only
  refine W.sreg (WO.boxA rfl rfl (fun b1 hb1=>(WO.boxA rfl rfl (fun b2 hb2=>(WO.p rfl rfl (WO.nil (W.seq (W.sreg (WO.p rfl rfl (WO.p rfl rfl (WO.p rfl rfl (WO.eqT rfl rfl (eq4_end high (0<v)) rfl (WO.nil ?_)))))))))))))
  refine W.cond_bl rfl (fun c1=>?_) (fun c1=>?_)
  · refine W.sreg (WO.loadA rfl rfl (Cells.own (Pick.tail (Pick.head))) rfl rfl (WO.loadA rfl rfl (Cells.own Pick.head) rfl rfl (WO.callR rfl Tryz.call38 (fun L w hi'=>Ch.c_hi w vp va o rv R i k (by omega) (by omega) (hR.later hi')) rfl (WO.p rfl rfl (WO.nil (W.ret (fin.ret (Res.one rfl (RV.tmp rfl)) (congrArg (Value.int .i64) ?_))))))))
    (unfold endV;rw [if_pos (by assumption)];rfl)
  · refine W.skip (W.sreg (WO.loadA rfl rfl (Cells.own (Pick.tail (Pick.head))) rfl rfl (WO.loadA rfl rfl (Cells.own Pick.head) rfl rfl (WO.callR rfl Tryz.call37 (fun L w hi'=>Ch.c_lo w vp va o rv R i k (by omega) (by omega) (hR.later hi')) rfl (WO.p rfl rfl (WO.nil (W.ret (fin.ret (Res.one rfl (RV.tmp rfl)) (congrArg (Value.int .i64) ?_)))))))))
    (unfold endV;rw [if_neg (by assumption)];rfl)
theorem m1_yes {L:List Ch.Cn} {c:Int} {q:Nat} (h:(L.getD q (0,0,0)).2.2≠0):m1 L c (q+1)=addK (m1 L c q) (plK (L.getD q (0,0,0))) ((L.getD q (0,0,0)).2.2*c):=if_pos h
theorem m1_no {L:List Ch.Cn} {c:Int} {q:Nat} (h:¬ (L.getD q (0,0,0)).2.2≠0):m1 L c (q+1)=m1 L c q:=if_neg h
theorem dz_yes {l:KV} {k:Sk} (h:lkD l k=0):dz l k=delK l k:=if_pos h
theorem dz_no {l:KV} {k:Sk} (h:¬ lkD l k=0):dz l k=l:=if_neg h
theorem wh_bd {P A:List Int} {R:Ch.Rws} {x y:Int} (hc:Ch.OkC P A R) (hx:Ch.On P x∧Ch.On A y):0<Ch.whS P A x y∧Ch.whS P A x y≤4000000:=by
  have hbp:=Ch.on_bd hc.up hc.np.1 hx.1
  have hba:=Ch.on_bd hc.ua hc.na.1 hx.2
  have hfx:=Ch.fr_bd hc.up hc.np.1 hx.1
  have hfy:=Ch.fr_bd hc.ua hc.na.1 hx.2
  refine ⟨whS_pos hc hx,?_⟩
  have q1:Ch.fr1 P x+Ch.fr0 P x≤2000:=by unfold Ch.fr1 Ch.fr0;omega
  have q2:Ch.fr1 A y+Ch.fr0 A y≤2000:=by unfold Ch.fr1 Ch.fr0;omega
  exact Int.mul_le_mul q1 q2 (by omega) (by omega)
theorem cn_nn {P A:List Int} {R:Ch.Rws} {x y:Int} (hc:Ch.OkC P A R) (hx:Ch.On P x∧Ch.On A y):∀ q,0≤((Ch.cnP P A x y).getD q (0,0,0)).2.2:=fun q=>by
  have hfx:=Ch.fr_bd hc.up hc.np.1 hx.1
  have hfy:=Ch.fr_bd hc.ua hc.na.1 hx.2
  rcases Nat.lt_or_ge q 4 with h | h
  · exact (Ch.cnL_bd hfx.1 hfx.2.1 hfy.1 hfy.2.1 h).1
  · rw [List.getD_eq_getElem?_getD,List.getElem?_eq_none (by show 4≤q;exact h)];exact Int.le_refl _
theorem aS_le4 {L:List Ch.Cn} (h:∀ q,0≤(L.getD q (0,0,0)).2.2):∀ {q n:Nat},q≤n→Ch.aS (·.2.2) L q≤Ch.aS (·.2.2) L n
  | q, 0, hq => by obtain rfl : q = 0 := by omega
                   exact Int.le_refl _
  | q,n+1,hq=>by
    rcases Nat.lt_or_ge n q with g | g
    · obtain rfl:q=n+1:=by omega
      exact Int.le_refl _
    · have:=aS_le4 h g
      have:=h n
      simp only [Ch.aS];omega
theorem ws_bd {P A:List Int} {R:Ch.Rws} {x y:Int} (hc:Ch.OkC P A R) (hx:Ch.On P x∧Ch.On A y) {q:Nat} (hq:q≤4):Ch.aS (·.2.2) (Ch.cnP P A x y) q≤Ch.whS P A x y:=by
  rw [← Ch.whS_eq];exact aS_le4 (cn_nn hc hx) hq
section
variable {P A:List Int} {R:Ch.Rws} {x y x' y':Int}
theorem m1_bd (hc:Ch.OkC P A R) (hx:Ch.On P x∧Ch.On A y) (hx':Ch.On P x'∧Ch.On A y') {q:Nat} (hq:q≤4):asK (m1 (Ch.cnP P A x y) (Ch.whS P A x' y') q)≤Ch.whS P A x y*Ch.whS P A x' y':=by
  have h1:=m1_as (L:=Ch.cnP P A x y) (c:=Ch.whS P A x' y') (Int.le_of_lt (whS_pos hc hx')) (cn_nn hc hx) q
  have h2:=Int.mul_le_mul_of_nonneg_right (ws_bd hc hx hq) (Int.le_of_lt (whS_pos hc hx'))
  omega
def moK (P A:List Int) (x y x' y':Int):KV:=m2 (Ch.cnP P A x' y') (Ch.whS P A x y) (m1 (Ch.cnP P A x y) (Ch.whS P A x' y') 4) 4
theorem m2_bd (hc:Ch.OkC P A R) (hx:Ch.On P x∧Ch.On A y) (hx':Ch.On P x'∧Ch.On A y') {q:Nat} (hq:q≤4):asK (m2 (Ch.cnP P A x' y') (Ch.whS P A x y) (m1 (Ch.cnP P A x y) (Ch.whS P A x' y') 4) q)≤2*(Ch.whS P A x y*Ch.whS P A x' y'):=by
  have h1:=m2_as (L:=Ch.cnP P A x' y') (c:=Ch.whS P A x y) (m1_nd (Ch.cnP P A x y) (Ch.whS P A x' y') 4) (Int.le_of_lt (whS_pos hc hx)) (cn_nn hc hx') q
  have h2:=Int.mul_le_mul_of_nonneg_right (ws_bd hc hx' hq) (Int.le_of_lt (whS_pos hc hx))
  have h3:=m1_bd hc hx hx' (q:=4) (by omega)
  rw [Int.mul_comm (Ch.whS P A x' y') (Ch.whS P A x y)] at h2
  omega
theorem wh2_bd (hc:Ch.OkC P A R) (hx:Ch.On P x∧Ch.On A y) (hx':Ch.On P x'∧Ch.On A y'):0<Ch.whS P A x y*Ch.whS P A x' y'∧Ch.whS P A x y*Ch.whS P A x' y'≤16000000000000:=by
  have h1:=wh_bd hc hx
  have h2:=wh_bd hc hx'
  exact ⟨Int.mul_pos h1.1 h2.1,Int.mul_le_mul h1.2 h2.2 (by omega) (by omega)⟩
theorem cw_bd (hc:Ch.OkC P A R) (hx:Ch.On P x∧Ch.On A y) (hx':Ch.On P x'∧Ch.On A y') {q:Nat} (hq:q<4):0≤((Ch.cnP P A x y).getD q (0,0,0)).2.2*Ch.whS P A x' y'∧((Ch.cnP P A x y).getD q (0,0,0)).2.2*Ch.whS P A x' y'≤16000000000000:=by
  have hfx:=Ch.fr_bd hc.up hc.np.1 hx.1
  have hfy:=Ch.fr_bd hc.ua hc.na.1 hx.2
  have h1:=Ch.cnL_bd (i:=Ch.nbI P x) (k:=Ch.nbI A y) hfx.1 hfx.2.1 hfy.1 hfy.2.1 hq
  have h2:=wh_bd hc hx'
  exact ⟨Int.mul_nonneg h1.1 (by omega),Int.mul_le_mul h1.2 h2.2 (by omega) (by omega)⟩
end
theorem c_more (w:World) (vp va o:Value) (P A:List Int) (R:Ch.Rws) (x y x' y':Int) (hc:Ch.OkC P A R) (hx:Ch.On P x∧Ch.On A y) (hx':Ch.On P x'∧Ch.On A y') (ho:o.oneCell'=true) (hP:RdF encI 1 w.heap.size w vp P) (hA:RdF encI 1 w.heap.size w va A):Ct Tryz.prog 108 [.agg #[vp,va,o],.agg #[.int .i64 x,.int .i64 y],.agg #[.int .i64 x',.int .i64 y']].toArray w fun r w'=>∃ Hq,(∃ mb:Nat,r=.tuple #[.map (some mb),.int .i64 (Ch.whS P A x y*Ch.whS P A x' y')]∧Hq=[MapK mb (moK P A x y x' y')])∧Inv w [] Hq w':=by
  refine Ct.ofI (X:=Nat) (p:=fun mb r=>r=.tuple #[.map (some mb),.int .i64 (Ch.whS P A x y*Ch.whS P A x' y')]) (Hx:=fun mb=>[MapK mb (moK P A x y x' y')]) mixed tyTab Tryz.func108 rfl rfl ?_
  replace hP:RdF encI 1 (fnCx mixed tyTab Tryz.f108.ntmps w).B (fnCx mixed tyTab Tryz.f108.ntmps w).w0 vp P:=hP
  replace hA:RdF encI 1 (fnCx mixed tyTab Tryz.f108.ntmps w).B (fnCx mixed tyTab Tryz.f108.ntmps w).w0 va A:=hA
  have hop:=hP.sl.oc
  have hoa:=hA.sl.oc
  have hnp:=hc.np
  have hna:=hc.na
  have hfx:=Ch.fr_bd hc.up hnp.1 hx.1
  have hfy:=Ch.fr_bd hc.ua hna.1 hx.2
  have hbp:=Ch.on_bd hc.up hnp.1 hx.1
  have hba:=Ch.on_bd hc.ua hna.1 hx.2
  have hfx':=Ch.fr_bd hc.up hnp.1 hx'.1
  have hfy':=Ch.fr_bd hc.ua hna.1 hx'.2
  have hbp':=Ch.on_bd hc.up hnp.1 hx'.1
  have hba':=Ch.on_bd hc.ua hna.1 hx'.2
  have hw2:=wh2_bd hc hx hx'
  obtain ⟨ca,hca⟩:∃ ca,Ch.whS P A x y=ca:=⟨_,rfl⟩
  obtain ⟨cb,hcb⟩:∃ cb,Ch.whS P A x' y'=cb:=⟨_,rfl⟩
  have hm1:∀ q,q≤4→asK (m1 (Ch.cnP P A x y) cb q)≤16000000000000:=fun q hq=>by have:=m1_bd hc hx hx' hq;rw [← hcb];omega
  have hm2:∀ q,q≤4→asK (m2 (Ch.cnP P A x' y') ca (m1 (Ch.cnP P A x y) cb 4) q)≤32000000000000:=fun q hq=>by have:=m2_bd hc hx hx' hq;rw [← hca,← hcb];omega
  have hc1:∀ q,q<4→0≤((Ch.cnP P A x y).getD q (0,0,0)).2.2*cb∧((Ch.cnP P A x y).getD q (0,0,0)).2.2*cb≤16000000000000:=fun q hq=>by rw [← hcb];exact cw_bd hc hx hx' hq
  have hc2:∀ q,q<4→0≤((Ch.cnP P A x' y').getD q (0,0,0)).2.2*ca∧((Ch.cnP P A x' y').getD q (0,0,0)).2.2*ca≤16000000000000:=fun q hq=>by rw [← hca];exact cw_bd hc hx' hx hq
  refine W.sreg (WO.boxA rfl rfl (fun b1 hb1=>(WO.boxA rfl rfl (fun b2 hb2=>(WO.boxA rfl rfl (fun b3 hb3=>(WO.p rfl rfl (WO.p rfl rfl (WO.nil (W.seq ?_))))))))))
  refine W.drawD 8 [.b 0 [],.b 1 [],.b 2 [],.b 3 [],.b 4 [],.b 5 [],.a 6 8 (.cells #[.int .i64 0] 2 (0,0)),.a 7 9 (.cells #[.int .i64 0] 2 (0,0))] [] (A0:=[]) (Sub.refl _) (by kernel_rfl) ?_ ?_
  · exact (ALok.b (ALok.b (ALok.b (ALok.b (ALok.b (ALok.b (ALok.cons rfl rfl rfl rfl rfl (ALok.cons rfl rfl rfl rfl rfl ALok.nil))))))))
  refine DT.b rfl rfl rfl (WO.loadA rfl rfl (Cells.own (Pick.tail (Pick.tail (Pick.head)))) rfl rfl (WO.nil ⟨rfl,rfl⟩)) (DT.b rfl rfl rfl (WO.loadA rfl rfl (Cells.own (Pick.tail (Pick.head))) rfl rfl (WO.nil ⟨rfl,rfl⟩)) (DT.b rfl rfl rfl (WO.callR rfl Tryz.call102 (fun L w hi=>Ch.c_whole w vp va o P A R x y hc hx ho (hP.later hi) (hA.later hi)) rfl (WO.nil ⟨rfl,rfl⟩)) (DT.b rfl rfl rfl (WO.loadA rfl rfl (Cells.own (Pick.tail (Pick.tail (Pick.head)))) rfl rfl (WO.nil ⟨rfl,rfl⟩)) (DT.b rfl rfl rfl (WO.loadA rfl rfl (Cells.own Pick.head) rfl rfl (WO.nil ⟨rfl,rfl⟩)) ?_))))
  refine DT.b rfl rfl rfl (WO.callR rfl Tryz.call102 (fun L w hi=>Ch.c_whole w vp va o P A R x' y' hc hx' ho (hP.later hi) (hA.later hi)) rfl (WO.nil ⟨rfl,rfl⟩)) (DT.a (fun b4=>(DT.a (fun b5=>(DT.nil [_,_,_,_,_] rfl (WO.store1 rfl rfl rfl (by rfl) (Pick.tail (Pick.head)) rfl (WO.store1 rfl rfl rfl (by rfl) (Pick.tail (Pick.head)) rfl (WO.nil ?_))))))))
  rw [hca,hcb]
  refine W.sreg (WO.makeMap rfl (fun mb=>(WO.chg (MapS.start .head) (WO.alloc rfl rfl rfl (fun b6 hb6=>(WO.store1 rfl rfl rfl (by rfl) Pick.head rfl (WO.nil (W.seq (W.sreg (WO.loadA rfl rfl (Cells.own (Pick.tail (Pick.tail (Pick.tail (Pick.tail (Pick.tail (Pick.tail (Pick.head)))))))) rfl rfl (WO.loadA rfl rfl (Cells.own (Pick.tail (Pick.tail (Pick.tail (Pick.tail (Pick.tail (Pick.head))))))) rfl rfl ?_)))))))))))
  refine WO.call (Post:=fun v Hq=>∃ b1 b2 b3 b4,v=.func (.func 189) #[] #[.pointer (some ⟨b1,0,none⟩),.pointer (some ⟨b2,0,none⟩),.pointer (some ⟨b3,0,none⟩),.pointer (some ⟨b4,0,none⟩)]∧Hq=[pt b4 (.cells #[.int .i64 (Ch.fr1 A y),.int .i64 (Ch.fr0 A y)] 203 (0,0)),pt b3 (.cells #[.int .i64 (Ch.fr1 P x),.int .i64 (Ch.fr0 P x)] 203 (0,0)),pt b2 (.cells #[.int .i64 (Ch.nbI A y:Int)] 3 (0,0)),pt b1 (.cells #[.int .i64 (Ch.nbI P x:Int)] 3 (0,0))]) rfl Tryz.call100 (fun L w hi=>Ch.c_corners w vp va o P A R x y hc hx ho (hP.later hi) (hA.later hi)) rfl ?_
  rintro _ _ ⟨e1,e2,e3,e4,rfl,rfl⟩
  refine WO.nil (W.block ?_)
  refine W.rangeFunc2 [pt e4 (.cells #[.int .i64 (Ch.fr1 A y),.int .i64 (Ch.fr0 A y)] 203 (0,0)),pt e3 (.cells #[.int .i64 (Ch.fr1 P x),.int .i64 (Ch.fr0 P x)] 203 (0,0)),pt e2 (.cells #[.int .i64 (Ch.nbI A y:Int)] 3 (0,0)),pt e1 (.cells #[.int .i64 (Ch.nbI P x:Int)] 3 (0,0))] (fun q=>[MapK mb (m1 (Ch.cnP P A x y) cb q),pt b6 (.cells #[.map (some mb)] 191 (0,0)),pt b5 (.cells #[.int .i64 cb] 2 (0,0)),pt b4 (.cells #[.int .i64 ca] 2 (0,0)),pt b1 (.cells #[vp,va,o] 94 (0,0)),pt b2 (.cells #[.int .i64 x,.int .i64 y] 36 (0,0)),pt b3 (.cells #[.int .i64 x',.int .i64 y'] 36 (0,0))]) (Ch.cnV (Ch.nbI P x) (Ch.nbI A y) (Ch.fr1 P x) (Ch.fr0 P x) (Ch.fr1 A y) (Ch.fr0 A y)) rfl rfl rfl rfl Tryz.call189 (by repeat (first | exact Sub.nil | refine Sub.cons (by repeat first | exact .head | apply Pick.tail) ?_)) ?_ ?_ ?_
  · intro l Hc hy w1 M' hB hk hM hi
    exact Ch.c_corners1 _ _ (Ch.nbI P x) (Ch.nbI A y) _ _ _ _ (by omega) hfx.1 hfx.2.1 hfy.1 hfy.2.1 l Hc hy e1 e2 e3 e4 w1 M' hB hk hM hi
  · intro l w1 M hB hM9 hk9 q z hz
    obtain ⟨hq4,rfl⟩:=Ch.cnV_some hz
    refine W.sreg (WO.alloc rfl rfl rfl (fun b7 hb7=>(WO.storeA rfl rfl rfl rfl Pick.head rfl rfl (WO.nil (W.region (WO.p rfl rfl (WO.nil (W.block (W.sreg (WO.p rfl rfl (WO.p rfl rfl (WO.nil ?_))))))))))))
    refine W.cond_bl rfl (fun c1=>?_) (fun c1=>?_)
    · have hcw:=hc1 q hq4
      unfold Ch.cnP at hcw
      have hla:=lk_as (l:=m1 (Ch.cnP P A x y) cb q) (plK ((Ch.cnP P A x y).getD q (0,0,0)))
      have hma:=hm1 q (by omega)
      unfold Ch.ab at hla
      refine W.drawD 9 [.b 0 [],.b 1 [],.g 2 [] (LkS mb (plK ((Ch.cnP P A x y).getD q (0,0,0))) (lkD (m1 (Ch.cnP P A x y) cb q) (plK ((Ch.cnP P A x y).getD q (0,0,0))))),.r 3 [],.b 4 [],.r 5 [],.r 6 [],.c 7 [],.r 8 []] [] (A0:=[_]) (H0:=[_,_,_,_,_,_,_]) (.cons (Pick.tail .head) (.cons .head (.cons .head (.cons .head (.cons .head (.cons .head (.cons .head (.cons .head .nil)))))))) (by kernel_rfl) ?_ ?_
      · exact (ALok.b (ALok.b (ALok.g (ALok.r (ALok.b (ALok.r (ALok.r (ALok.c (ALok.r ALok.nil)))))))))
      refine DT.b rfl rfl rfl (WO.load rfl rfl (Cell.own (Pick.tail (Pick.head)) rfl) rfl (WO.nil ⟨rfl,rfl⟩)) (DT.b rfl rfl rfl (WO.loadA rfl rfl (Cells.own Pick.head) rfl rfl (WO.nil ⟨rfl,rfl⟩)) ?_)
      refine' DT.h (S:=LkS mb (plK ((Ch.cnP P A x y).getD q (0,0,0))) (lkD (m1 (Ch.cnP P A x y) cb q) (plK ((Ch.cnP P A x y).getD q (0,0,0))))) (v:=.int .i64 (lkD (m1 (Ch.cnP P A x y) cb q) (plK ((Ch.cnP P A x y).getD q (0,0,0))))) (MapK mb (m1 (Ch.cnP P A x y) cb q)) ?hS (by repeat exact .head) rfl rfl rfl ?hq ?_
      case hS=>exact ⟨_,_,rfl,rfl⟩
      case hq =>
        intro Q hQ
        refine WO.lookK hQ Tryz.underlying191 rfl rfl rfl .head rfl ?_
        exact WO.nil ⟨rfl,rfl⟩
      refine DT.r rfl rfl rfl (WO.p rfl rfl (WO.nil ⟨rfl,rfl⟩)) (DT.b rfl rfl rfl (WO.load rfl rfl (Cell.own (Pick.tail (Pick.tail (Pick.head))) rfl) rfl (WO.nil ⟨rfl,rfl⟩)) (DT.r rfl rfl rfl (WO.ar rfl rfl rfl (by (first | (unfold in64;omega))) rfl (WO.nil ⟨rfl,rfl⟩)) (DT.r rfl rfl rfl (WO.ar rfl rfl rfl (by (first | (unfold in64;omega))) rfl (WO.nil ⟨rfl,rfl⟩)) (DT.c [_,_,_,_,_,_,_,_] rfl rfl rfl rfl (WO.mapEntK (k:=plK ((Ch.cnP P A x y).getD q (0,0,0))) Tryz.underlying191 rfl rfl rfl (by repeat exact .head) rfl (fun n=>?_))))))
      refine WO.nil ⟨_,[_],rfl,rfl,(Keep.r (Keep.r (Keep.b (Keep.r (Keep.h (.inr ⟨_,_,⟨ent (m1 (Ch.cnP P A x y) cb q) (plK ((Ch.cnP P A x y).getD q (0,0,0))),hasB (plK ((Ch.cnP P A x y).getD q (0,0,0))) n,rfl,ent_lk _ _ _⟩,by repeat (exact Pick.head)⟩) (Keep.b (Keep.b Keep.nil))))))),?_⟩
      refine DT.r rfl rfl rfl (WO.p rfl rfl (WO.nil ⟨rfl,rfl⟩)) (DT.nil [_,_,_,_,_,_,_,_] rfl (WO.entStK (k:=plK ((Ch.cnP P A x y).getD q (0,0,0))) (ent_nd (m1_nd _ _ _)) rfl rfl rfl (by repeat exact .head) (WO.nil ?_)))
      (rw [m1_yes (L:=Ch.cnP P A x y) (c:=cb) (q:=q) (by assumption)];(repeat (first | exact Sub.nil | refine Sub.cons (by repeat first | exact .head | apply Pick.tail) ?_));done)
    · refine W.skip ?_
      (rw [m1_no (L:=Ch.cnP P A x y) (c:=cb) (q:=q) (by assumption)];(repeat (first | exact Sub.nil | refine Sub.cons (by repeat first | exact .head | apply Pick.tail) ?_));done)
  refine W.seq ?_
  rw [show (Ch.cnV (Ch.nbI P x) (Ch.nbI A y) (Ch.fr1 P x) (Ch.fr0 P x) (Ch.fr1 A y) (Ch.fr0 A y)).length=4 from rfl]
  refine W.sreg (WO.loadA rfl rfl (Cells.own (Pick.tail (Pick.tail (Pick.tail (Pick.tail (Pick.tail (Pick.tail (Pick.tail (Pick.tail (Pick.head)))))))))) rfl rfl (WO.loadA rfl rfl (Cells.own (Pick.tail (Pick.tail (Pick.tail (Pick.tail (Pick.tail (Pick.tail (Pick.tail (Pick.tail (Pick.tail (Pick.tail (Pick.head)))))))))))) rfl rfl ?_))
  refine WO.call (Post:=fun v Hq=>∃ b1 b2 b3 b4,v=.func (.func 189) #[] #[.pointer (some ⟨b1,0,none⟩),.pointer (some ⟨b2,0,none⟩),.pointer (some ⟨b3,0,none⟩),.pointer (some ⟨b4,0,none⟩)]∧Hq=[pt b4 (.cells #[.int .i64 (Ch.fr1 A y'),.int .i64 (Ch.fr0 A y')] 203 (0,0)),pt b3 (.cells #[.int .i64 (Ch.fr1 P x'),.int .i64 (Ch.fr0 P x')] 203 (0,0)),pt b2 (.cells #[.int .i64 (Ch.nbI A y':Int)] 3 (0,0)),pt b1 (.cells #[.int .i64 (Ch.nbI P x':Int)] 3 (0,0))]) rfl Tryz.call100 (fun L w hi=>Ch.c_corners w vp va o P A R x' y' hc hx' ho (hP.later hi) (hA.later hi)) rfl ?_
  rintro _ _ ⟨f1,f2,f3,f4,rfl,rfl⟩
  refine WO.nil (W.block ?_)
  refine W.rangeFunc2 [pt f4 (.cells #[.int .i64 (Ch.fr1 A y'),.int .i64 (Ch.fr0 A y')] 203 (0,0)),pt f3 (.cells #[.int .i64 (Ch.fr1 P x'),.int .i64 (Ch.fr0 P x')] 203 (0,0)),pt f2 (.cells #[.int .i64 (Ch.nbI A y':Int)] 3 (0,0)),pt f1 (.cells #[.int .i64 (Ch.nbI P x':Int)] 3 (0,0))] (fun q=>[MapK mb (m2 (Ch.cnP P A x' y') ca (m1 (Ch.cnP P A x y) cb 4) q),pt b6 (.cells #[.map (some mb)] 191 (0,0)),pt b5 (.cells #[.int .i64 cb] 2 (0,0)),pt b4 (.cells #[.int .i64 ca] 2 (0,0)),pt b1 (.cells #[vp,va,o] 94 (0,0)),pt b2 (.cells #[.int .i64 x,.int .i64 y] 36 (0,0)),pt b3 (.cells #[.int .i64 x',.int .i64 y'] 36 (0,0))]) (Ch.cnV (Ch.nbI P x') (Ch.nbI A y') (Ch.fr1 P x') (Ch.fr0 P x') (Ch.fr1 A y') (Ch.fr0 A y')) rfl rfl rfl rfl Tryz.call189 (by repeat (first | exact Sub.nil | refine Sub.cons (by repeat first | exact .head | apply Pick.tail) ?_)) ?_ ?_ ?_
  · intro l Hc hy w1 M' hB hk hM hi
    exact Ch.c_corners1 _ _ (Ch.nbI P x') (Ch.nbI A y') _ _ _ _ (by omega) hfx'.1 hfx'.2.1 hfy'.1 hfy'.2.1 l Hc hy f1 f2 f3 f4 w1 M' hB hk hM hi
  · intro l w1 M hB hM9 hk9 q z hz
    obtain ⟨hq4,rfl⟩:=Ch.cnV_some hz
    refine W.sreg (WO.alloc rfl rfl rfl (fun b8 hb8=>(WO.storeA rfl rfl rfl rfl Pick.head rfl rfl (WO.nil (W.region (WO.p rfl rfl (WO.nil (W.block (W.seq ?_)))))))))
    have hcw:=hc2 q hq4
    unfold Ch.cnP at hcw
    have hla:=lk_as (l:=m2 (Ch.cnP P A x' y') ca (m1 (Ch.cnP P A x y) cb 4) q) (plK ((Ch.cnP P A x' y').getD q (0,0,0)))
    have hma:=hm2 q (by omega)
    unfold Ch.ab at hla
    refine W.drawD 9 [.b 0 [],.b 1 [],.g 2 [] (LkS mb (plK ((Ch.cnP P A x' y').getD q (0,0,0))) (lkD (m2 (Ch.cnP P A x' y') ca (m1 (Ch.cnP P A x y) cb 4) q) (plK ((Ch.cnP P A x' y').getD q (0,0,0))))),.r 3 [],.b 4 [],.r 5 [],.r 6 [],.c 7 [],.r 8 []] [] (A0:=[_]) (H0:=[_,_,_,_,_,_,_]) (.cons (Pick.tail .head) (.cons .head (.cons .head (.cons .head (.cons .head (.cons .head (.cons .head (.cons .head .nil)))))))) (by kernel_rfl) ?_ ?_
    · exact (ALok.b (ALok.b (ALok.g (ALok.r (ALok.b (ALok.r (ALok.r (ALok.c (ALok.r ALok.nil)))))))))
    refine DT.b rfl rfl rfl (WO.load rfl rfl (Cell.own (Pick.tail (Pick.head)) rfl) rfl (WO.nil ⟨rfl,rfl⟩)) (DT.b rfl rfl rfl (WO.loadA rfl rfl (Cells.own Pick.head) rfl rfl (WO.nil ⟨rfl,rfl⟩)) ?_)
    refine' DT.h (S:=LkS mb (plK ((Ch.cnP P A x' y').getD q (0,0,0))) (lkD (m2 (Ch.cnP P A x' y') ca (m1 (Ch.cnP P A x y) cb 4) q) (plK ((Ch.cnP P A x' y').getD q (0,0,0))))) (v:=.int .i64 (lkD (m2 (Ch.cnP P A x' y') ca (m1 (Ch.cnP P A x y) cb 4) q) (plK ((Ch.cnP P A x' y').getD q (0,0,0))))) (MapK mb (m2 (Ch.cnP P A x' y') ca (m1 (Ch.cnP P A x y) cb 4) q)) ?hS (by repeat exact .head) rfl rfl rfl ?hq ?_
    case hS=>exact ⟨_,_,rfl,rfl⟩
    case hq =>
      intro Q hQ
      refine WO.lookK hQ Tryz.underlying191 rfl rfl rfl .head rfl ?_
      exact WO.nil ⟨rfl,rfl⟩
    refine DT.r rfl rfl rfl (WO.p rfl rfl (WO.nil ⟨rfl,rfl⟩)) (DT.b rfl rfl rfl (WO.load rfl rfl (Cell.own (Pick.tail (Pick.tail (Pick.tail (Pick.head)))) rfl) rfl (WO.nil ⟨rfl,rfl⟩)) (DT.r rfl rfl rfl (WO.ar rfl rfl rfl (by (first | (unfold in64;omega))) rfl (WO.nil ⟨rfl,rfl⟩)) (DT.r rfl rfl rfl (WO.ar rfl rfl rfl (by (first | (unfold in64;omega))) rfl (WO.nil ⟨rfl,rfl⟩)) (DT.c [_,_,_,_,_,_,_,_] rfl rfl rfl rfl (WO.mapEntK (k:=plK ((Ch.cnP P A x' y').getD q (0,0,0))) Tryz.underlying191 rfl rfl rfl (by repeat exact .head) rfl (fun n=>?_))))))
    refine WO.nil ⟨_,[_],rfl,rfl,(Keep.r (Keep.r (Keep.b (Keep.r (Keep.h (.inr ⟨_,_,⟨ent (m2 (Ch.cnP P A x' y') ca (m1 (Ch.cnP P A x y) cb 4) q) (plK ((Ch.cnP P A x' y').getD q (0,0,0))),hasB (plK ((Ch.cnP P A x' y').getD q (0,0,0))) n,rfl,ent_lk _ _ _⟩,by repeat (exact Pick.head)⟩) (Keep.b (Keep.b Keep.nil))))))),?_⟩
    refine DT.r rfl rfl rfl (WO.p rfl rfl (WO.nil ⟨rfl,rfl⟩)) (DT.nil [_,_,_,_,_,_,_,_] rfl (WO.entStK (k:=plK ((Ch.cnP P A x' y').getD q (0,0,0))) (ent_nd (m2_nd _ _ (m1_nd _ _ _) _)) rfl rfl rfl (by repeat exact .head) (WO.nil (W.sreg (WO.load rfl rfl (Cell.own (Pick.tail (Pick.tail (Pick.head))) rfl) rfl (WO.loadA rfl rfl (Cells.own (Pick.tail (Pick.head))) rfl rfl ?_))))))
    refine WO.lookK (k:=plK ((Ch.cnP P A x' y').getD q (0,0,0))) (Q:=MapK mb (addK (m2 (Ch.cnP P A x' y') ca (m1 (Ch.cnP P A x y) cb 4) q) (plK ((Ch.cnP P A x' y').getD q (0,0,0))) (-(((Ch.cnP P A x' y').getD q (0,0,0)).2.2*ca)))) ⟨_,_,rfl,rfl⟩ Tryz.underlying191 rfl rfl rfl (by repeat exact .head) rfl (WO.p rfl rfl (WO.nil ?_))
    refine W.cond_bl rfl (fun c2=>?_) (fun c2=>?_)
    · refine W.region (WO.load rfl rfl (Cell.own (Pick.tail (Pick.tail (Pick.head))) rfl) rfl (WO.loadA rfl rfl (Cells.own (Pick.tail (Pick.head))) rfl rfl (WO.delP (k:=plK ((Ch.cnP P A x' y').getD q (0,0,0))) (add_nd (m2_nd _ _ (m1_nd _ _ _) _)) rfl Tryz.underlying191 rfl rfl rfl (by repeat exact .head) (WO.nil ?_))))
      (rw [show m2 (Ch.cnP P A x' y') ca (m1 (Ch.cnP P A x y) cb 4) (q+1)=_ from dz_yes (by assumption)];(repeat (first | exact Sub.nil | refine Sub.cons (by repeat first | exact .head | apply Pick.tail) ?_));done)
    · refine W.skip ?_
      (rw [show m2 (Ch.cnP P A x' y') ca (m1 (Ch.cnP P A x y) cb 4) (q+1)=_ from dz_no (by assumption)];(repeat (first | exact Sub.nil | refine Sub.cons (by repeat first | exact .head | apply Pick.tail) ?_));done)
  refine W.seq ?_
  rw [show (Ch.cnV (Ch.nbI P x') (Ch.nbI A y') (Ch.fr1 P x') (Ch.fr0 P x') (Ch.fr1 A y') (Ch.fr0 A y')).length=4 from rfl]
  rw [hca,hcb] at hw2
  refine W.drawD 5 [.b 0 [],.b 1 [6],.b 2 [6],.r 3 [6],.r 4 [6]] [6] (A0:=[]) (Sub.refl _) (by kernel_rfl) ?_ ?_
  · repeat constructor
  refine DT.b rfl rfl rfl (WO.load rfl rfl (Cell.own (Pick.tail (Pick.tail (Pick.tail (Pick.tail (Pick.tail (Pick.head)))))) rfl) rfl (WO.nil ⟨rfl,rfl⟩)) (DT.b rfl rfl rfl (WO.load rfl rfl (Cell.own (Pick.tail (Pick.tail (Pick.tail (Pick.tail (Pick.tail (Pick.tail (Pick.tail (Pick.head)))))))) rfl) rfl (WO.nil ⟨rfl,rfl⟩)) (DT.b rfl rfl rfl (WO.load rfl rfl (Cell.own (Pick.tail (Pick.tail (Pick.tail (Pick.tail (Pick.tail (Pick.tail (Pick.head))))))) rfl) rfl (WO.nil ⟨rfl,rfl⟩)) (DT.r rfl rfl rfl (WO.ar rfl rfl rfl (by (first | (unfold in64;omega))) rfl (WO.nil ⟨rfl,rfl⟩)) (DT.r rfl rfl rfl (WO.p rfl rfl (WO.nil ⟨rfl,rfl⟩)) (DT.nil [_,_,_,_,_,_,_,_,_,_,_] rfl ?_)))))
  refine WO.p rfl rfl (WO.nil (W.ret ?_))
  refine fin.ret (Res.two rfl (RV.tmp rfl) (RV.tmp rfl)) ⟨mb,rfl,fun h hs=>?_⟩
  unfold moK
  rw [hca,hcb]
  exact Sub.sat (by repeat (first | exact Sub.nil | refine Sub.cons (by repeat first | exact .head | apply Pick.tail) ?_)) hs
end Go.Proofs.YtfchgmiiicidcaaGreat
namespace Go.Proofs.YtfchgmiiicidcaaGreat
open Go Go.TH
attribute [local irreducible] W WO pt
set_option maxRecDepth 10000
set_option maxHeartbeats 2000000
def nv:Option MapEntry→Value
 | none=>.tuple #[.bool false]
 | some e=>.tuple #[.bool true,e.key,e.val]
def sn (seen:Array Nat):Option MapEntry→Array Nat
 | none=>seen
 | some e=>seen.push e.born
def Nx (es:Array MapEntry) (seen:Array Nat):Option MapEntry→Prop
 | none=>(leftOf es seen).size=0
 | some e=>e∈(leftOf es seen).toList
def itO (m clk:Nat) (seen:Array Nat):Obj:=.mapIter (some m) clk seen clk
theorem MapS.openE {H H':List HP} {b:Nat} {l:KV} {q:Array MapEntry→Prop} (p:Pick (MapS b l q) H H'):∀ h,sat H h→∃ y:Array MapEntry × Nat,(MtK y.1.toList l∧Reg y.1.toList y.2)∧sat (pt b (.map y.1 y.2)::H') h:=fun h hs=>by
 obtain ⟨h1,h2,s,⟨es,clk,e,e',_,q⟩,hr⟩:=sat_perm p.perm hs
 exact ⟨(es,clk),⟨e,e'⟩,h1,h2,s,q,hr⟩
theorem MtK.mem {es:List MapEntry} {l:KV} (h:MtK es l) {e:MapEntry} (he:e∈es):∃ p∈l,e.key=kv p.1∧e.val=.int .i64 p.2:=by
 have h4:(e.key,e.val)∈es.map (fun e=>(e.key,e.val)):=List.mem_map.2 ⟨e,he,rfl⟩
 rw [show es.map (fun e=>(e.key,e.val))=_ from h] at h4
 obtain ⟨p,h5,h6⟩:=List.mem_map.1 h4
 injection h6 with h7 h8
 exact ⟨p,h5,h7.symm,h8.symm⟩
section
variable {C:Cx Tryz.prog} {E:Env} {H H' H2:List HP}
variable {ops:Array Oper} {K:KP} {rest:List Oper} {d:Nat} {ty:TypeId} {pos:String} {af:Array Edge} {x y z:Operand} {T:TypeId}
variable {r m clk:Nat} {es:Array MapEntry} {seen:Array Nat}
theorem WO.rangeM {k e:TypeId} (hT:Tryz.prog.underlying T=some (.map k e)) (hx:ev E x=some (.map (some m))) (p:Pick (pt m (.map es clk)) H H') (hN:Nat.blt d C.N=true)
 (h:∀ r,WO C ops rest K ((d,.pointer (some ⟨r,0,none⟩))::E) (pt r (itO m clk #[])::H)):WO C ops (⟨some d,.range T x,ty,pos,af,none⟩::rest) K E H:=by
 refine WO.step rfl rfl hN (XO.run (by simp) fun L a w hfr hi=>?_)
 have hl:=(((hi.pickL p).perm List.perm_middle).look .head).1
 refine ⟨.pointer (some ⟨w.heap.size,0,none⟩),w.alloc (itO m clk #[]),_,.inl ?_,h _,hi.alloc' _⟩
 have hr:=run_range_map (P:=Tryz.prog) w T k e m es clk hT hl
 simp only [execOp,hfr.eval hx]
 simp [hr,itO]
theorem WO.nextM (hx:ev E x=some (.pointer (some ⟨r,0,none⟩))) (p:Pick (pt r (itO m clk seen)) H H') (q:Pick (pt m (.map es clk)) H H2) (hreg:Reg es.toList clk) (hN:Nat.blt d C.N=true)
 (h:∀ o,Nx es seen o→WO C ops rest K ((d,nv o)::E) (pt r (itO m clk (sn seen o))::H')):WO C ops (⟨some d,.next x false,ty,pos,af,none⟩::rest) K E H:=by
 refine WO.step rfl rfl hN (XO.run (by simp) fun L a w hfr hi=>?_)
 have hl:=(((hi.pickL q).perm List.perm_middle).look .head).1
 have hi1:=(hi.pickL p).perm List.perm_middle
 have hr0:=(hi1.look .head).1
 have hr:w.heap[r]?=some (.mapIter (some m) clk seen clk):=hr0
 rcases run_next_at (P:=Tryz.prog) w ty r m clk clk seen es clk hr hl hreg.2 (Nat.le_refl _) with ⟨h0,he⟩ | ⟨e,hm,w1,hw,he⟩
 ·refine ⟨nv none,w,_,.inl ?_,h none h0,hi1.perm List.perm_middle.symm⟩
  simp only [execOp,hfr.eval hx]
  simp [he,nv]
 ·refine ⟨nv (some e),ChangeMaps.setBlock w1 r (itO m clk (seen.push e.born)),_,.inl ?_,h (some e) hm,?_⟩
  ·simp only [execOp,hfr.eval hx]
   simp [he,nv,itO]
  ·have hlt:r<w.heap.size:=(Array.getElem?_eq_some_iff.1 hr).1
   have hi2:TH.Inv C.w0 C.M (pt r (itO m clk seen)::(L++H')) w1:=by
    rcases hw with rfl | rfl
    ·exact hi1
    ·exact hi1.drawn
   have hlt1:r<w1.heap.size:=by rcases hw with rfl | rfl <;> exact hlt
   have hs:=hi2.set (o':=itO m clk (seen.push e.born)) .head (w':=ChangeMaps.setBlock w1 r (itO m clk (seen.push e.born))) rfl rfl rfl (by simp [ChangeMaps.setBlock]) (by simp [ChangeMaps.setBlock,hlt1]) (fun k hk=>by simp [ChangeMaps.setBlock,Array.getElem?_setIfInBounds_ne (Ne.symm hk)])
   exact hs.perm List.perm_middle.symm
theorem WO.extractN {o:Option MapEntry} (hx:ev E x=some (nv o)) (hN:Nat.blt d C.N=true) (h:WO C ops rest K ((d,.bool (bl (o.isSome=true)))::E) H):WO C ops (⟨some d,.extract x 0,ty,pos,af,none⟩::rest) K E H:=by
 cases o with
 | none=>exact WO.extract (vs:=[.bool false]) hx (by simp [bl_eq]) hN h
 | some e=>exact WO.extract (vs:=[.bool true,e.key,e.val]) hx (by simp [bl_eq]) hN h
theorem WO.entryM {e:MapEntry} {k u:Value} (hx:ev E x=some (.pointer (some ⟨r,0,none⟩))) (p:Pick (pt r (itO m clk (seen.push e.born))) H H') (q:Pick (pt m (.map es clk)) H H2) (hreg:Reg es.toList clk) (he:e∈es.toList) (hk:e.key=k) (hv:e.val=u) (hN:Nat.blt d C.N=true)
 (h:WO C ops rest K ((d,.tuple #[k,u])::E) H):WO C ops (⟨some d,.entry x,ty,pos,af,none⟩::rest) K E H:=by
 refine WO.pure _ (by simp) (fun L a w hfr hi=>?_) hN h
 have hl:=(((hi.pickL q).perm List.perm_middle).look .head).1
 have hr0:=(((hi.pickL p).perm List.perm_middle).look .head).1
 have hr:w.heap[r]?=some (.mapIter (some m) clk (seen.push e.born) clk):=hr0
 have hrun:=run_entry_at (P:=Tryz.prog) w r m clk seen es clk e hr hl he hreg.1
 simp only [execOp,hfr.eval hx]
 simp [hrun,hk,hv]
end
theorem left_less {es:Array MapEntry} {clk:Nat} {seen:Array Nat} {x:MapEntry} (hr:Reg es.toList clk) (hx:x∈(leftOf es seen).toList):(leftOf es (seen.push x.born)).toList.length<(leftOf es seen).toList.length:=by
 have hp:=perm_out (e:=x) (leftOf es seen).toList (by
  rw [left_list]
  exact hr.1.sublist (List.Sublist.map _ List.filter_sublist)) hx
 rw [left_push,hp.length_eq,List.length_cons]
 omega
def AccI (e:Sk→Int→Int) (es:Array MapEntry) (seen:Array Nat) (acc:Int):Prop:=acc=sE e es.toList-sE e (leftOf es seen).toList∧(acc≤100000*(aE es.toList-aE (leftOf es seen).toList) ∧ -acc≤100000*(aE es.toList-aE (leftOf es seen).toList))
theorem AccI.zero (e:Sk→Int→Int) (es:Array MapEntry):AccI e es #[] 0:=by unfold AccI;rw [left_none];omega
theorem acc_mul {v t:Int} (ht:0≤t∧t≤100000):v*t≤100000*Ch.ab v ∧ -(v*t)≤100000*Ch.ab v:=by
 have h1:=Int.mul_le_mul_of_nonneg_left ht.2 (Ch.ab_nn v)
 unfold Ch.ab at h1 ⊢
 rcases Int.le_total 0 v with h | h
 ·have:=Int.mul_nonneg h ht.1
  rw [show max v (-v)=v by omega] at *
  omega
 ·have h2:=Int.mul_nonneg (show 0 ≤ -v by omega) ht.1
  rw [show max v (-v) = -v by omega] at *
  rw [Int.neg_mul] at *
  omega
theorem AccI.next {e:Sk→Int→Int} {es:Array MapEntry} {clk:Nat} {seen:Array Nat} {acc:Int} {x:MapEntry} {k:Sk} {v:Int} (h:AccI e es seen acc) (hr:Reg es.toList clk) (hx:x∈(leftOf es seen).toList) (hk:x.key=kv k) (hv:x.val=.int .i64 v) (ht:0≤e k v∧e k v≤100000):AccI e es (seen.push x.born) (acc+v*e k v):=by
 obtain ⟨h1,h2⟩:=left_step e hr hx
 have h3:tE e x=v*e k v:=by unfold tE;rw [hk,hv,sk_kv];rfl
 have h4:inV x.val=v:=by rw [hv];rfl
 rw [h3] at h1
 rw [h4] at h2
 have h5:=acc_mul (v:=v) ht
 unfold AccI at h ⊢
 omega
theorem AccI.end_ {e:Sk→Int→Int} {es:Array MapEntry} {seen:Array Nat} {acc:Int} {l:KV} (h:AccI e es seen acc) (h0:(leftOf es seen).size=0) (hm:MtK es.toList l):acc=smK e l:=by
 unfold AccI at h
 rw [Array.eq_empty_of_size_eq_zero h0,(sE_mt e hm).1] at h
 simp only [sE] at h
 omega
theorem AccI.bd {e:Sk→Int→Int} {es:Array MapEntry} {seen:Array Nat} {acc M:Int} {l:KV} (h:AccI e es seen acc) (hm:MtK es.toList l) (hl:asK l≤M) : -(100000*M)≤acc∧acc≤100000*M:=by
 unfold AccI at h
 rw [(sE_mt e hm).2] at h
 have:=aE_nn (leftOf es seen).toList
 omega
theorem end_bd {P A:List Int} {R:Ch.Rws} (hc:Ch.OkC P A R) {high:Bool} {k:Sk} {v:Int} (hk:k.1<P.length∧k.2<A.length):0≤endV R high k v∧endV R high k v≤100000:=by
 have hnr:=hc.nr
 have hrw:=hc.row (show k.1<R.length by omega)
 have h1:=hc.at_ (show k.1<R.length by omega) (show k.2<(R.getD k.1 []).length by omega)
 unfold endV Ch.hiAt Ch.loAt
 split <;> omega
theorem mo_in {P A:List Int} {R:Ch.Rws} {x y x' y':Int} (hc:Ch.OkC P A R) (hx:Ch.On P x∧Ch.On A y) (hx':Ch.On P x'∧Ch.On A y'):InK P.length A.length (moK P A x y x' y'):=by
 have hbp:=Ch.on_bd hc.up hc.np.1 hx.1
 have hba:=Ch.on_bd hc.ua hc.na.1 hx.2
 have hbp':=Ch.on_bd hc.up hc.np.1 hx'.1
 have hba':=Ch.on_bd hc.ua hc.na.1 hx'.2
 exact m2_in _ (m1_in _ (fun q hq=>Ch.cnP_at hbp.1 hba.1 hq) 4 (by omega)) (fun q hq=>Ch.cnP_at hbp'.1 hba'.1 hq) 4 (by omega)
def farQ (P A:List Int) (R:Ch.Rws) (x y x' y':Int) (high:Bool):Int × Int:=Ch.red (smK (endV R high) (moK P A x y x' y')) (Ch.whS P A x y*Ch.whS P A x' y')
theorem c_far (w:World) (vp va o:Value) (rv:List Value) (P A:List Int) (R:Ch.Rws) (x y x' y':Int) (high:Bool) (hc:Ch.OkC P A R) (hx:Ch.On P x∧Ch.On A y) (hx':Ch.On P x'∧Ch.On A y') (hP:RdF encI 1 w.heap.size w vp P) (hA:RdF encI 1 w.heap.size w va A) (hR:RdR encP 2 w.heap.size w o rv R):Ret Tryz.prog 41 [.agg #[vp,va,o],.agg #[.int .i64 x,.int .i64 y],.agg #[.int .i64 x',.int .i64 y'],.bool high].toArray w (Ch.raV (farQ P A R x y x' y' high)):=by
 refine Ret.of mixed tyTab Tryz.func41 rfl rfl ?_
 replace hR:RdR encP 2 (fnCx mixed tyTab Tryz.f41.ntmps w).B (fnCx mixed tyTab Tryz.f41.ntmps w).w0 o rv R:=hR
 replace hP:RdF encI 1 (fnCx mixed tyTab Tryz.f41.ntmps w).B (fnCx mixed tyTab Tryz.f41.ntmps w).w0 vp P:=hP
 replace hA:RdF encI 1 (fnCx mixed tyTab Tryz.f41.ntmps w).B (fnCx mixed tyTab Tryz.f41.ntmps w).w0 va A:=hA
 have hop:=hP.sl.oc
 have hoa:=hA.sl.oc
 have hoo:=hR.sl.oc
 have hw2:=wh2_bd hc hx hx'
 have hmb:asK (moK P A x y x' y')≤32000000000000:=by have:=m2_bd hc hx hx' (q:=4) (by omega);unfold moK;omega
 have hmi:=mo_in hc hx hx'
 refine W.sreg (WO.boxA rfl rfl (fun b1 hb1=>(WO.boxA rfl rfl (fun b2 hb2=>(WO.boxA rfl rfl (fun b3 hb3=>(WO.alloc rfl rfl rfl (fun b4 hb4=>(WO.nil (W.sreg (WO.loadA rfl rfl (Cells.own (Pick.tail (Pick.tail (Pick.tail (Pick.head))))) rfl rfl (WO.loadA rfl rfl (Cells.own (Pick.tail (Pick.tail (Pick.head)))) rfl rfl (WO.loadA rfl rfl (Cells.own (Pick.tail (Pick.head))) rfl rfl (WO.call (Post:=fun r Hq=>∃ mb:Nat,r=.tuple #[.map (some mb),.int .i64 (Ch.whS P A x y*Ch.whS P A x' y')]∧Hq=[MapK mb (moK P A x y x' y')]) rfl Tryz.call108 (fun L w hi=>c_more w vp va o P A R x y x' y' hc hx hx' hoo (hP.later hi) (hA.later hi)) rfl ?_))))))))))))))
 rintro _ _ ⟨mb,rfl,rfl⟩
 refine WO.p rfl rfl (WO.p rfl rfl (WO.p rfl rfl (WO.p rfl rfl (WO.p rfl rfl (WO.nil (W.sreg (WO.p rfl rfl (WO.nil (W.seq (W.chgE (MapS.openE (b:=mb) (by repeat exact .head)) ?_))))))))))
 rintro ⟨es,clk⟩ ⟨hmt,hreg⟩
 dsimp only at hmt hreg ⊢
 refine W.sreg (WO.p rfl rfl (WO.rangeM Tryz.underlying191 rfl (by repeat exact .head) rfl (fun r=>(WO.nil (W.block ?_)))))
 refine W.loop2 (fun (seen:Array Nat) (acc:Int)=>AccI (endV R high) es seen acc)
  (fun (seen:Array Nat) (acc:Int)=>[(22,.pointer (some ⟨r,0,none⟩)),(11,.int .i64 acc),(10,.int .i64 (Ch.whS P A x y*Ch.whS P A x' y')),(8,.pointer (some ⟨b4,0,none⟩)),(4,.pointer (some ⟨b1,0,none⟩)),(3,.bool high)])
  (fun (seen:Array Nat) (acc:Int)=>[pt r (itO mb clk seen),pt mb (.map es clk),pt b1 (.cells #[vp,va,o] 94 (0,0)),pt b4 (.cells #[.int .i64 0,.int .i64 0] 38 (0,0))])
  (fun (seen:Array Nat) (acc:Int)=>(leftOf es seen).toList.length) #[] 0
  (by exact AccI.zero _ _) ⟨rfl,rfl,rfl,rfl,rfl,rfl,trivial⟩ (by repeat (first | exact Sub.nil | refine Sub.cons (by repeat first | exact .head | apply Pick.tail) ?_)) ?_
 rintro seen acc hac
 refine W.sreg (WO.nextM rfl (by repeat exact .head) (by repeat first | exact .head | apply Pick.tail) hreg rfl (fun ox hox=>(WO.extractN rfl rfl (WO.nil (W.seq ?_)))))
 refine W.cond_bl rfl (fun c1=>?_) (fun c1=>?_)
 ·refine W.skip (W.block ?_)
  obtain ⟨e,rfl⟩:=Option.isSome_iff_exists.1 (show ox.isSome=true by assumption)
  have he:e∈(leftOf es seen).toList:=hox
  obtain ⟨⟨⟨ki,kj⟩,vv⟩,hpl,hek,hev⟩:=hmt.mem (mem_left he).1
  have hki:=hmi _ hpl
  dsimp only at hek hev hki
  have hev2:=end_bd (high:=high) (k:=(ki,kj)) (v:=vv) hc hki
  have hac2:=hac.next hreg he hek hev hev2
  have hb1:=hac.bd hmt hmb
  have hb2:=hac2.bd hmt hmb
  refine W.sreg (WO.entryM rfl (by repeat exact .head) (by repeat first | exact .head | apply Pick.tail) hreg (mem_left he).1 hek hev rfl (WO.p rfl rfl (WO.p rfl rfl (WO.alloc rfl rfl rfl (fun b5 hb5=>(WO.storeA rfl rfl rfl rfl Pick.head rfl rfl (WO.p rfl rfl (WO.nil (W.region (WO.p rfl rfl (WO.p rfl rfl (WO.loadA rfl rfl (Cells.own (Pick.tail (Pick.tail (Pick.tail (Pick.head))))) rfl rfl (WO.loadA rfl rfl (Cells.own Pick.head) rfl rfl (WO.p rfl rfl (WO.p rfl rfl (WO.callR rfl Tryz.call109 (fun L w hi=>c_end w vp va o rv P A R ki kj vv high hc hki.1 hki.2 (hP.later hi) (hA.later hi) (hR.later hi)) rfl ?_))))))))))))))))
  refine WO.ar rfl rfl rfl (by unfold in64;omega) rfl (WO.ar rfl rfl rfl (by unfold in64;omega) rfl (WO.p rfl rfl (WO.nil ?_)))
  refine' ⟨_,_,?hp,?hmu,⟨rfl,rfl,rfl,rfl,rfl,rfl,trivial⟩,?hS⟩
  case hS=>repeat (first | exact Sub.nil | refine Sub.cons (by repeat first | exact .head | apply Pick.tail) ?_)
  case hp=>exact hac2
  case hmu=>exact left_less hreg he
 ·refine W.exit (blk_same ?_)
  have h0:(leftOf es seen).size=0:=by cases ox with
  | none=>exact hox
  | some e=>exact absurd rfl (show ¬ (some e).isSome=true by assumption)
  have hb1:=hac.bd hmt hmb
  have hfin:=hac.end_ h0 hmt
  refine W.sreg (WO.loadA rfl rfl (Cells.own (Pick.tail (Pick.tail (Pick.head)))) rfl rfl (WO.p rfl rfl (WO.p rfl rfl (WO.callR rfl Tryz.call101 (fun L w hi=>Ch.c_fraction w vp va o _ _ (by omega) (by omega) hop hoa hoo) rfl (WO.storeA rfl rfl rfl rfl (Pick.tail (Pick.tail (Pick.tail (Pick.head)))) rfl rfl (WO.nil (W.ret (fin.ret (Res.one rfl (RV.cell rfl rfl rfl (Cells.own (by repeat exact .head)))) ?_))))))))
  unfold farQ
  rw [← hfin]
theorem two_on {P A:List Int} {x y x' y':Int} (hx:Ch.On P x∧Ch.On A y) (hx':Ch.On P x'∧Ch.On A y'):∀ z∈[(x,y),(x',y')],Ch.On P z.1∧Ch.On A z.2:=fun z hz=>by
 simp at hz
 rcases hz with rfl | rfl
 ·exact hx
 ·exact hx'
theorem c_More (w:World) (vp va o:Value) (rv:List Value) (P A:List Int) (R:Ch.Rws) (x y x' y':Int) (hc:Ch.OkC P A R) (hx:Ch.On P x∧Ch.On A y) (hx':Ch.On P x'∧Ch.On A y') (hP:RdF encI 1 w.heap.size w vp P) (hA:RdF encI 1 w.heap.size w va A) (hR:RdR encP 2 w.heap.size w o rv R):Ret Tryz.prog 12 [.agg #[vp,va,o],.agg #[.int .i64 x,.int .i64 y],.agg #[.int .i64 x',.int .i64 y']].toArray w (.tuple #[.agg #[.int .i64 (farQ P A R x y x' y' false).1,.int .i64 (farQ P A R x y x' y' false).2,.int .i64 (farQ P A R x y x' y' true).1,.int .i64 (farQ P A R x y x' y' true).2],.int .i64 0]):=by
 refine Ret.of mixed tyTab Tryz.func12 rfl rfl ?_
 replace hR:RdR encP 2 (fnCx mixed tyTab Tryz.f12.ntmps w).B (fnCx mixed tyTab Tryz.f12.ntmps w).w0 o rv R:=hR
 replace hP:RdF encI 1 (fnCx mixed tyTab Tryz.f12.ntmps w).B (fnCx mixed tyTab Tryz.f12.ntmps w).w0 vp P:=hP
 replace hA:RdF encI 1 (fnCx mixed tyTab Tryz.f12.ntmps w).B (fnCx mixed tyTab Tryz.f12.ntmps w).w0 va A:=hA
 have hop:=hP.sl.oc
 have hoa:=hA.sl.oc
 have hoo:=hR.sl.oc
 refine W.sreg (WO.boxA rfl rfl (fun b1 hb1=>(WO.boxA rfl rfl (fun b2 hb2=>(WO.boxA rfl rfl (fun b3 hb3=>(WO.alloc rfl rfl rfl (fun b4 hb4=>(WO.p rfl rfl (WO.nil (W.sreg (WO.loadA rfl rfl (Cells.own (Pick.tail (Pick.tail (Pick.tail (Pick.head))))) rfl rfl (WO.loadA rfl rfl (Cells.own (Pick.tail (Pick.tail (Pick.head)))) rfl rfl (WO.loadA rfl rfl (Cells.own (Pick.tail (Pick.head))) rfl rfl (WO.buildSl rfl rfl rfl rfl rfl rfl rfl rfl rfl (fun v5=>?_))))))))))))))))
 refine WO.callR rfl Tryz.call35 (fun L w hi=>Ch.c_newSheet w _ vp va o rv P A R [(x,y),(x',y')] hc (two_on hx hx') (RdF.of_ow (e:=36) encP_ok (by repeat exact .head) hi) (hP.later hi) (hA.later hi) (hR.later hi)) rfl (WO.p rfl rfl (WO.p rfl rfl (WO.p rfl rfl (WO.alloc rfl rfl rfl (fun b6 hb6=>(WO.storeA rfl rfl rfl rfl Pick.head rfl (Ch.oc3 hop hoa hoo) (WO.p rfl rfl (WO.nil (W.seq (W.sreg (WO.p rfl rfl (WO.p rfl rfl (WO.nil ?_)))))))))))))
 refine W.cond_bl rfl (fun c1=>?_) (fun c1=>?_)
 ·exfalso;omega
 ·refine W.skip (W.seq ?_)
  refine W.drawD 7 [.b 0 [],.b 1 [],.b 2 [],.b 3 [],.b 4 [],.b 5 [],.b 6 []] [] (A0:=[_]) (H0:=[_,_,_,_,_]) (.cons (Pick.tail (Pick.tail .head)) (.cons .head (.cons .head (.cons .head (.cons .head (.cons .head .nil)))))) (by kernel_rfl) ?_ ?_
  ·repeat constructor
  refine DT.b rfl rfl rfl (WO.loadA rfl rfl (Cells.own Pick.head) rfl rfl (WO.nil ⟨rfl,rfl⟩)) (DT.b rfl rfl rfl (WO.loadA rfl rfl (Cells.own (Pick.tail (Pick.tail (Pick.tail (Pick.head))))) rfl rfl (WO.nil ⟨rfl,rfl⟩)) (DT.b rfl rfl rfl (WO.loadA rfl rfl (Cells.own (Pick.tail (Pick.tail (Pick.head)))) rfl rfl (WO.nil ⟨rfl,rfl⟩)) (DT.b rfl rfl rfl (WO.callR rfl Tryz.call41 (fun L w hi=>c_far w vp va o rv P A R x y x' y' false hc hx hx' (hP.later hi) (hA.later hi) (hR.later hi)) rfl (WO.nil ⟨rfl,rfl⟩)) (DT.b rfl rfl rfl (WO.loadA rfl rfl (Cells.own Pick.head) rfl rfl (WO.nil ⟨rfl,rfl⟩)) ?_))))
  refine DT.b rfl rfl rfl (WO.loadA rfl rfl (Cells.own (Pick.tail (Pick.tail (Pick.tail (Pick.head))))) rfl rfl (WO.nil ⟨rfl,rfl⟩)) (DT.b rfl rfl rfl (WO.loadA rfl rfl (Cells.own (Pick.tail (Pick.tail (Pick.head)))) rfl rfl (WO.nil ⟨rfl,rfl⟩)) (DT.nil [_,_,_,_,_,_] rfl (WO.callR rfl Tryz.call41 (fun L w hi=>c_far w vp va o rv P A R x y x' y' true hc hx hx' (hP.later hi) (hA.later hi) (hR.later hi)) rfl (WO.build rfl rfl rfl rfl rfl (WO.storeA rfl rfl rfl rfl Pick.head rfl rfl (WO.p rfl rfl (WO.nil (W.ret ?_))))))))
  exact fin.ret (Res.two rfl (RV.cell rfl rfl rfl (Cells.own (by repeat exact .head))) (RV.tmp rfl)) rfl
end Go.Proofs.YtfchgmiiicidcaaGreat
namespace Go.Proofs.YtfchgmiiicidcaaGreat.Sp
open Go Go.TH
attribute [local irreducible] W WO pt
set_option maxRecDepth 10000
set_option maxHeartbeats 1000000
structure Sd where
 a:Int
 b:Int
 c:Int
abbrev sdV (s:Sd):Value:=.agg #[.int .i64 s.a,.int .i64 s.b,.int .i64 s.c]
def encSd (s:Sd):List Value:=[.int .i64 s.a,.int .i64 s.b,.int .i64 s.c]
theorem encSd_ok:EncOk encSd 3:=⟨fun _=>rfl,fun x u hu=>by simp [encSd] at hu;rcases hu with rfl | rfl | rfl <;> rfl,by omega⟩
def sd0:Sd:=⟨0,0,0⟩
def loS (r:Rn):Sd:=⟨r.p,r.q,r.lo⟩
def hiS (r:Rn):Sd:=⟨-r.p,-r.q,-r.hi⟩
def crs (s o:Sd):Int:=s.a*o.b-s.b*o.a
def byS (s:Sd) (n:Int):Sd:=⟨s.a*n,s.b*n,s.c*n⟩
def ab (n:Int):Int:=max n (-n)
def siz (s:Sd):Int:=ab s.a+ab s.b
def addS (s o:Sd):Sd:=⟨s.a+o.a,s.b+o.b,s.c+o.c⟩
def sumS (l:List Sd):Sd:=l.foldl addS sd0
structure OkS (A B:Int) (s:Sd):Prop where
 a : -A≤s.a∧s.a≤A
 b : -A≤s.b∧s.b≤A
 c : -B≤s.c∧s.c≤B
theorem OkS.lo {r:Rn} (h:OkRn r):OkS 20 100000 (loS r):=by
 obtain ⟨h1,h2,_,h3,h4,h5⟩:=h
 unfold OkN at h1 h2
 exact ⟨h1,h2,by show _≤r.lo∧r.lo≤_;omega⟩
theorem OkS.hi {r:Rn} (h:OkRn r):OkS 20 100000 (hiS r):=by
 obtain ⟨h1,h2,_,h3,h4,h5⟩:=h
 unfold OkN at h1 h2
 exact ⟨by show _ ≤ -r.p ∧ -r.p≤_;omega,by show _ ≤ -r.q ∧ -r.q≤_;omega,by show _ ≤ -r.hi ∧ -r.hi≤_;omega⟩
theorem OkS.by_ {s:Sd} {A B N n:Int} (h:OkS A B s) (hn : -N≤n∧n≤N):OkS (A*N) (B*N) (byS s n):=⟨mul_bd h.a hn,mul_bd h.b hn,mul_bd h.c hn⟩
theorem OkS.up {s:Sd} {A B A' B':Int} (h:OkS A B s) (hA:A≤A') (hB:B≤B'):OkS A' B' s:=by
 obtain ⟨h1,h2,h3⟩:=h
 exact ⟨by omega,by omega,by omega⟩
theorem crs_bd {s o:Sd} {B B':Int} (h:OkS 20 B s) (g:OkS 20 B' o):(-400≤s.a*o.b∧s.a*o.b≤400)∧(-400≤s.b*o.a∧s.b*o.a≤400) ∧ -800≤crs s o∧crs s o≤800:=by
 have h1:=mul_bd h.a g.b
 have h2:=mul_bd h.b g.a
 unfold crs
 omega
theorem siz_bd {s:Sd} {B:Int} (h:OkS 20 B s):0≤siz s∧siz s≤40:=by
 obtain ⟨h1,h2,_⟩:=h
 unfold siz ab;omega
theorem c_cross (w:World) (s o:Sd) (hs:OkS 20 1000000 s) (ho:OkS 20 1000000 o):Ret Tryz.prog 194 [sdV s,sdV o].toArray w (.int .i64 (crs s o)):=by
 refine Ret.of mixed tyTab Tryz.func194 rfl rfl ?_
 have hb:=crs_bd hs ho
 unfold crs at hb
 refine W.sreg (WO.boxA rfl rfl (fun b1 hb1=>(WO.boxA rfl rfl (fun b2 hb2=>(WO.p rfl rfl (WO.nil (W.sreg (WO.indexArrL (o':=0) rfl rfl rfl (by decide) rfl rfl (WO.load rfl rfl (Cell.own (Pick.tail (Pick.head)) rfl) rfl (WO.indexArrL (o':=1) rfl rfl rfl (by decide) rfl rfl (WO.load rfl rfl (Cell.own Pick.head rfl) rfl (WO.ar rfl rfl rfl (by unfold in64;omega) rfl (WO.indexArrL (o':=1) rfl rfl rfl (by decide) rfl rfl (WO.load rfl rfl (Cell.own (Pick.tail (Pick.head)) rfl) rfl (WO.indexArrL (o':=0) rfl rfl rfl (by decide) rfl rfl ?_)))))))))))))))
 refine WO.load rfl rfl (Cell.own Pick.head rfl) rfl (WO.ar rfl rfl rfl (by unfold in64;omega) rfl (WO.ar rfl rfl rfl (by unfold in64;omega) rfl (WO.p rfl rfl (WO.nil (W.ret ?_)))))
 exact fin.ret (Res.one rfl (RV.tmp rfl)) rfl
theorem c_by (w:World) (s:Sd) (n:Int) (hs:OkS 1000000 1000000 s) (hn : -1000000≤n∧n≤1000000):Ret Tryz.prog 172 [sdV s,.int .i64 n].toArray w (sdV (byS s n)):=by
 refine Ret.of mixed tyTab Tryz.func172 rfl rfl ?_
 have h1:=mul_bd hs.a hn
 have h2:=mul_bd hs.b hn
 have h3:=mul_bd hs.c hn
 refine W.sreg (WO.boxA rfl rfl (fun b1 hb1=>(WO.alloc rfl rfl rfl (fun b2 hb2=>(WO.nil (W.sreg (WO.indexArrL (o':=0) rfl rfl rfl (by decide) rfl rfl (WO.load rfl rfl (Cell.own (Pick.tail (Pick.head)) rfl) rfl (WO.p rfl rfl (WO.ar rfl rfl rfl (by unfold in64;omega) rfl (WO.indexArrL (o':=1) rfl rfl rfl (by decide) rfl rfl (WO.load rfl rfl (Cell.own (Pick.tail (Pick.head)) rfl) rfl (WO.p rfl rfl (WO.ar rfl rfl rfl (by unfold in64;omega) rfl (WO.indexArrL (o':=2) rfl rfl rfl (by decide) rfl rfl (WO.load rfl rfl (Cell.own (Pick.tail (Pick.head)) rfl) rfl (WO.p rfl rfl (WO.ar rfl rfl rfl (by unfold in64;omega) rfl (WO.build rfl rfl rfl rfl rfl ?_)))))))))))))))))))
 refine WO.storeA rfl rfl rfl rfl Pick.head rfl rfl (WO.nil (W.ret ?_))
 exact fin.ret (Res.one rfl (RV.cell rfl rfl rfl (Cells.own Pick.head))) rfl
theorem c_flat (w:World) (s:Sd):Ret Tryz.prog 173 [sdV s].toArray w (sdV ⟨s.a,s.b,0⟩):=by
 refine Ret.of mixed tyTab Tryz.func173 rfl rfl (W.sreg (WO.boxA rfl rfl (fun b1 hb1=>(WO.alloc rfl rfl rfl (fun b2 hb2=>(WO.nil (W.sreg (WO.indexArrL (o':=0) rfl rfl rfl (by decide) rfl rfl (WO.load rfl rfl (Cell.own (Pick.tail (Pick.head)) rfl) rfl (WO.indexArrL (o':=1) rfl rfl rfl (by decide) rfl rfl (WO.load rfl rfl (Cell.own (Pick.tail (Pick.head)) rfl) rfl (WO.build rfl rfl rfl rfl rfl (WO.storeA rfl rfl rfl rfl Pick.head rfl rfl (WO.nil (W.ret ?_)))))))))))))))
 exact fin.ret (Res.one rfl (RV.cell rfl rfl rfl (Cells.own Pick.head))) rfl
theorem c_size (w:World) (s:Sd) (hs:OkS 20 1000000 s):Ret Tryz.prog 193 [sdV s].toArray w (.int .i64 (siz s)):=by
 refine Ret.of mixed tyTab Tryz.func193 rfl rfl ?_
 obtain ⟨h1,h2,h3⟩:=hs
 refine W.sreg (WO.boxA rfl rfl (fun b1 hb1=>(WO.p rfl rfl (WO.nil (W.sreg (WO.indexArrL (o':=0) rfl rfl rfl (by decide) rfl rfl (WO.load rfl rfl (Cell.own Pick.head rfl) rfl (WO.indexArrL (o':=0) rfl rfl rfl (by decide) rfl rfl (WO.load rfl rfl (Cell.own Pick.head rfl) rfl (WO.neg rfl (by unfold in64;omega) rfl (WO.max2 rfl rfl rfl (WO.indexArrL (o':=1) rfl rfl rfl (by decide) rfl rfl (WO.load rfl rfl (Cell.own Pick.head rfl) rfl (WO.indexArrL (o':=1) rfl rfl rfl (by decide) rfl rfl (WO.load rfl rfl (Cell.own Pick.head rfl) rfl (WO.neg rfl (by unfold in64;omega) rfl (WO.max2 rfl rfl rfl (WO.ar rfl rfl rfl (by unfold in64;omega) rfl (WO.p rfl rfl ?_)))))))))))))))))))
 refine WO.nil (W.ret ?_)
 exact fin.ret (Res.one rfl (RV.tmp rfl)) rfl
theorem c_newPair (w:World) (r:Rn) (h:OkRn r):Ret Tryz.prog 170 [rnV r].toArray w (.agg #[.int .i64 r.p,.int .i64 r.q,.int .i64 r.lo,.int .i64 r.hi,.int .i64 r.p,.int .i64 r.q,.int .i64 r.lo,.int .i64 (-r.p),.int .i64 (-r.q),.int .i64 (-r.hi)]):=by
 refine Ret.of mixed tyTab Tryz.func170 rfl rfl ?_
 obtain ⟨h1,h2,_,h3,h4,h5⟩:=h
 unfold OkN at h1 h2
 refine W.sreg (WO.boxA rfl rfl (fun b1 hb1=>(WO.alloc rfl rfl rfl (fun b2 hb2=>(WO.nil (W.sreg (WO.loadA rfl rfl (Cells.own (Pick.tail (Pick.head))) rfl rfl (WO.field0 rfl rfl rfl (WO.load rfl rfl (Cell.own (Pick.tail (Pick.head)) rfl) rfl (WO.fieldL rfl rfl rfl (WO.load rfl rfl (Cell.own (Pick.tail (Pick.head)) rfl) rfl (WO.fieldL rfl rfl rfl (WO.field0 rfl rfl rfl (WO.load rfl rfl (Cell.own (Pick.tail (Pick.head)) rfl) rfl (WO.build rfl rfl rfl rfl rfl ?_)))))))))))))))
 refine WO.field0 rfl rfl rfl (WO.load rfl rfl (Cell.own (Pick.tail (Pick.head)) rfl) rfl (WO.neg rfl (by unfold in64;omega) rfl (WO.fieldL rfl rfl rfl (WO.load rfl rfl (Cell.own (Pick.tail (Pick.head)) rfl) rfl (WO.neg rfl (by unfold in64;omega) rfl (WO.fieldL rfl rfl rfl (WO.fieldL rfl rfl rfl (WO.load rfl rfl (Cell.own (Pick.tail (Pick.head)) rfl) rfl (WO.neg rfl (by unfold in64;omega) rfl (WO.build rfl rfl rfl rfl rfl (WO.build rfl rfl rfl rfl rfl (WO.storeA rfl rfl rfl rfl Pick.head rfl rfl (WO.nil (W.ret ?_))))))))))))))
 exact fin.ret (Res.one rfl (RV.cell rfl rfl rfl (Cells.own Pick.head))) rfl
theorem sumS_take {l:List Sd} {i:Nat} (h:i<l.length):sumS (l.take (i+1))=addS (sumS (l.take i)) (l.getD i sd0):=by
 unfold sumS;rw [take_succ_getD h sd0,List.foldl_append];rfl
def addK (s o:Sd) (k:Nat):Sd:=⟨if 0<k then s.a+o.a else s.a,if 1<k then s.b+o.b else s.b,if 2<k then s.c+o.c else s.c⟩
def prtS (s:Sd) (k:Nat):Int:=if k=0 then s.a else if k=1 then s.b else s.c
theorem prtS_bd {A:Int} {s:Sd} (h:OkS A A s) {k:Nat} : -A≤prtS s k∧prtS s k≤A:=by
 obtain ⟨h1,h2,h3⟩:=h
 unfold prtS;split
 ·exact h1
 ·split
  ·exact h2
  ·exact h3
theorem prtS_get (s:Sd) {k:Nat} (h:k<3):lget (encSd s) k=some (.int .i64 (prtS s k)):=by
 obtain rfl | rfl | rfl:k=0∨k=1∨k=2:=by omega
 all_goals rfl
theorem addK_3 (s o:Sd):addK s o 3=addS s o:=rfl
theorem addK_at {s o:Sd} {k:Nat} (h:k<3):prtS (addK s o k) k=prtS s k:=by
 obtain rfl | rfl | rfl:k=0∨k=1∨k=2:=by omega
 all_goals rfl
theorem addK_set {s o:Sd} {k:Nat} (h:k<3):(encSd (addK s o k)).set k (.int .i64 (prtS (addK s o k) k+prtS o k))=encSd (addK s o (k+1)):=by
 obtain rfl | rfl | rfl:k=0∨k=1∨k=2:=by omega
 all_goals rfl
theorem sum_in {M:Int} (hM:0≤M) {l:List Sd} (h:∀ s∈l,OkS M M s):∀ {i:Nat},i≤l.length→OkS (M*i) (M*i) (sumS (l.take i))
 | 0,_=>by
  rw [show M*((0:Nat):Int)=0 by simp]
  show OkS 0 0 sd0
  exact ⟨by decide,by decide,by decide⟩
 | i+1,hi=>by
  have h1:=sum_in hM h (i:=i) (by omega)
  have h2:=h _ (getD_mem (show i<l.length by omega) sd0)
  rw [sumS_take (by omega)]
  have e:M*((i+1:Nat):Int)=M*i+M:=by rw [Int.natCast_succ,Int.mul_add,Int.mul_one]
  rw [e]
  obtain ⟨a1,a2,a3⟩:=h1
  obtain ⟨b1,b2,b3⟩:=h2
  exact ⟨by show _≤_+_∧_+_≤_;omega,by show _≤_+_∧_+_≤_;omega,by show _≤_+_∧_+_≤_;omega⟩
theorem RdF.cells3 {C:Cx Tryz.prog} {H:List HP} {o:Value} {l:List Sd} (h:RdF encSd 3 C.B C.w0 o l) {i:Nat} (h1:i<l.length):Cells C H (elt o i 3) [.int .i64 (l.getD i sd0).a,.int .i64 (l.getD i sd0).b,.int .i64 (l.getD i sd0).c]:=RdF.cells h h1 sd0
theorem cellK {C:Cx Tryz.prog} {H:List HP} {b k:Nat} {o s:Sd} {o':Nat} {t:TypeId} {fr:Nat × Nat} (p:Sub H [pt b (.cells (encSd (addK o s k)).toArray t fr)]) (hk:k<3) (ho:o'=k):Cell C H ⟨b,o',none⟩ (.int .i64 (prtS o k)):=by
 subst ho
 cases p with
 | cons p _=>exact Cell.own p (by rw [prtS_get _ hk,addK_at hk])
theorem c_sum (w:World) (v:Value) (l:List Sd) (hR:RdF encSd 3 w.heap.size w v l) (hl:l.length≤4) (hb:∀ s∈l,OkS 1000000000000000 1000000000000000 s):Ret Tryz.prog 171 [v].toArray w (sdV (sumS l)):=by
 refine Ret.of mixed tyTab Tryz.func171 rfl rfl ?_
 replace hR:RdF encSd 3 (fnCx mixed tyTab Tryz.f171.ntmps w).B (fnCx mixed tyTab Tryz.f171.ntmps w).w0 v l:=hR
 have hle:=hR.sl.le
 refine W.sreg (WO.alloc rfl rfl rfl (fun b1 hb1=>(WO.nil (W.sreg (WO.alloc rfl rfl rfl (fun b2 hb2=>(WO.nil (W.seq (W.sreg (WO.p rfl rfl (WO.len rfl rfl hR.sl rfl (WO.p rfl rfl (WO.nil (W.block ?_))))))))))))))
 refine W.loop2 (fun (i:Nat) (o:Sd)=>i≤l.length∧o=sumS (l.take i))
  (fun (i:Nat) (o:Sd)=>[(10,.int .i64 (i:Int)),(9,.int .i64 (l.length:Int)),(8,v),(3,.pointer (some ⟨b2,0,none⟩)),(2,.pointer (some ⟨b1,0,none⟩))])
  (fun (i:Nat) (o:Sd)=>[pt b2 (.cells #[.int .i64 o.a,.int .i64 o.b,.int .i64 o.c] 101 (0,0)),pt b1 (.cells #[.int .i64 0,.int .i64 0,.int .i64 0] 101 (0,0))])
  (fun (i:Nat) (o:Sd)=>l.length-i) 0 sd0
  (by exact ⟨by omega,rfl⟩) ⟨rfl,rfl,rfl,rfl,rfl,trivial⟩ (by repeat (first | exact Sub.nil | refine Sub.cons (by repeat exact .head) ?_)) ?_
 rintro i o ⟨hi0,ho⟩
 refine W.sreg (WO.p rfl rfl (WO.nil (W.seq ?_)))
 refine W.cond_bl rfl (fun c1=>?_) (fun c1=>?_)
 ·refine W.skip (W.seq (W.block (W.sreg (WO.indexAddr rfl rfl rfl hR.sl (by omega) rfl (WO.loadA rfl rfl (RdF.cells3 hR (i:=i) (by omega)) rfl rfl (WO.alloc rfl rfl rfl (fun b3 hb3=>(WO.storeA rfl rfl rfl rfl Pick.head rfl rfl (WO.nil (W.sreg (WO.loadA rfl rfl (Cells.own Pick.head) rfl rfl (WO.p rfl rfl (WO.nil (W.block ?_))))))))))))))
  refine W.loop (fun (k:Nat)=>k≤3)
   (fun (k:Nat)=>[(15,.int .i64 (k:Int)),(14,.agg #[.int .i64 (l.getD i sd0).a,.int .i64 (l.getD i sd0).b,.int .i64 (l.getD i sd0).c]),(10,.int .i64 (i:Int)),(9,.int .i64 (l.length:Int)),(8,v),(3,.pointer (some ⟨b2,0,none⟩)),(2,.pointer (some ⟨b1,0,none⟩))])
   (fun (k:Nat)=>[pt b2 (.cells (encSd (addK o (l.getD i sd0) k)).toArray 101 (0,0)),pt b1 (.cells #[.int .i64 0,.int .i64 0,.int .i64 0] 101 (0,0))])
   (fun (k:Nat)=>3-k) 0
   (by omega) ⟨rfl,rfl,rfl,rfl,rfl,rfl,rfl,trivial⟩ (by repeat (first | exact Sub.nil | refine Sub.cons (by repeat first | exact .head | apply Pick.tail) ?_)) ?_
  rintro k hk0
  refine W.sreg (WO.p rfl rfl (WO.nil (W.seq ?_)))
  refine W.cond_bl rfl (fun c2=>?_) (fun c2=>?_)
  ·refine W.skip (W.seq (W.block (W.sreg (WO.p rfl rfl (WO.indexV (vs:=encSd (l.getD i sd0)) (i:=k) rfl rfl rfl rfl (by omega) (prtS_get _ (by omega)) rfl (WO.p rfl rfl (WO.p rfl rfl (WO.nil ?_))))))))
   have p1:=prtS_bd (hb _ (getD_mem (show i<l.length by omega) sd0)) (k:=k)
   have p2:=prtS_bd (sum_in (by omega) hb (i:=i) (by omega)) (k:=k)
   rw [← ho] at p2
   refine W.region (WO.p rfl rfl (WO.indexArrE (i:=k) (o':=0+k*1) rfl rfl rfl rfl (by omega) rfl rfl ?_))
   refine' WO.load (v:=_) rfl rfl ?hc rfl ?_
   case hc=>(first | (refine cellK (b:=b2) (o:=o) (s:=l.getD i sd0) (k:=k) (o':=0+k*1) (t:=101) (fr:=(0,0)) ?_ (by omega) (by omega);repeat (first | exact Sub.nil | refine Sub.cons (by repeat exact .head) ?_)))
   refine WO.p rfl rfl (WO.ar rfl rfl rfl (by unfold in64;omega) rfl (WO.indexArrE (i:=k) (o':=0+k*1) rfl rfl rfl rfl (by omega) rfl rfl (WO.store1 (cs:=encSd (addK o (l.getD i sd0) k)) rfl rfl rfl rfl (by repeat exact .head) (by rw [Nat.blt_eq];show 0+k*1<3;omega) ?_)))
   rw [show 0+k*1=k by omega,show (encSd (addK o (l.getD i sd0) k)).set k (.int .i64 (prtS o k+prtS (l.getD i sd0) k))=encSd (addK o (l.getD i sd0) (k+1)) by rw [← addK_set (by omega),addK_at (by omega)]]
   refine WO.nil (W.region (WO.ar rfl rfl rfl (by unfold in64;omega) rfl (WO.p rfl rfl (WO.nil ?_))))
   refine' ⟨k+1,?hp,?hmu,⟨rfl,rfl,rfl,rfl,rfl,rfl,rfl,trivial⟩,?hS⟩
   case hS=>repeat (first | exact Sub.nil | refine Sub.cons (by repeat exact .head) ?_)
   case hp=>omega
   case hmu=>omega
  ·refine W.exit (blk_same ?_)
   obtain rfl:3=k:=by omega
   rw [addK_3]
   refine W.region (WO.ar rfl rfl rfl (by unfold in64;omega) rfl (WO.p rfl rfl (WO.nil ?_)))
   refine' ⟨i+1,_,?hp,?hmu,⟨rfl,rfl,rfl,rfl,rfl,trivial⟩,?hS⟩
   case hS=>repeat (first | exact Sub.nil | refine Sub.cons (by repeat exact .head) ?_)
   case hp=>exact ⟨by omega,by rw [sumS_take (by omega),ho]⟩
   case hmu=>omega
 ·refine W.exit (blk_same (W.sreg (WO.loadA rfl rfl (Cells.own Pick.head) rfl rfl (WO.storeA rfl rfl rfl rfl (Pick.tail (Pick.head)) rfl rfl (WO.nil (W.ret (fin.ret (Res.one rfl (RV.cell rfl rfl rfl (Cells.own (by repeat exact .head)))) ?_)))))))
  rw [show i=l.length by omega,List.take_length] at ho
  (rw [← ho];done)
end Go.Proofs.YtfchgmiiicidcaaGreat.Sp
namespace Go.Proofs.YtfchgmiiicidcaaGreat.Sp
open Go Go.TH
attribute [local irreducible] W WO pt
set_option maxRecDepth 10000
set_option maxHeartbeats 1000000
def gcd2 (a b:Int):Int:=(Nat.gcd a.toNat b.toNat:Nat)
theorem gcd2_zero {a:Int} (h:0≤a):gcd2 a 0=a:=by simp [gcd2];omega
theorem gcd2_comm (a b:Int):gcd2 a b=gcd2 b a:=by unfold gcd2;rw [Nat.gcd_comm]
theorem gcd2_step {a b:Int} (ha:0≤a) (hb:0<b):gcd2 b (a.tmod b)=gcd2 a b:=by
 unfold gcd2
 obtain ⟨n,rfl⟩:=Int.eq_ofNat_of_zero_le ha
 obtain ⟨m,rfl⟩:=Int.eq_ofNat_of_zero_le (Int.le_of_lt hb)
 rw [Int.tmod_eq_emod_of_nonneg (by omega),← Int.natCast_emod]
 simp only [Int.toNat_natCast]
 rw [Nat.gcd_comm m (n%m),← Nat.gcd_rec,Nat.gcd_comm]
theorem tmod_lt {a b:Int} (ha:0≤a) (hb:0<b):0≤a.tmod b∧a.tmod b<b:=⟨Int.tmod_nonneg b ha,Int.tmod_lt_of_pos a hb⟩
theorem gcd2_pos {a b:Int} (hb:0<b):0<gcd2 a b:=by
 unfold gcd2
 have:0<Nat.gcd a.toNat b.toNat:=Nat.gcd_pos_of_pos_right _ (by omega)
 omega
theorem ab_nn (n:Int):0≤ab n:=by unfold ab;omega
def red (n d:Int):Int × Int:=(n.tdiv (gcd2 (ab n) d),d.tdiv (gcd2 (ab n) d))
abbrev raV (r:Int × Int):Value:=.agg #[.int .i64 r.1,.int .i64 r.2]
theorem gcd2_dvd (n:Int) {d:Int} (hd:0<d):gcd2 (ab n) d∣n∧gcd2 (ab n) d∣d:=by
 unfold gcd2
 have h1:(Nat.gcd (ab n).toNat d.toNat:Int)∣((ab n).toNat:Int):=Int.natCast_dvd_natCast.2 (Nat.gcd_dvd_left _ _)
 have h2:(Nat.gcd (ab n).toNat d.toNat:Int)∣(d.toNat:Int):=Int.natCast_dvd_natCast.2 (Nat.gcd_dvd_right _ _)
 rw [Int.toNat_of_nonneg (ab_nn n)] at h1
 rw [Int.toNat_of_nonneg (by omega)] at h2
 refine ⟨?_,h2⟩
 unfold ab at h1 ⊢
 rcases Int.le_total 0 n with h | h
 ·rwa [show max n (-n)=n by omega] at h1 ⊢
 ·rw [show max n (-n) = -n by omega] at h1 ⊢;exact Int.dvd_neg.1 h1
theorem red_parts (n:Int) {d:Int} (hd:0<d):∃ g:Int,0<g∧n=(red n d).1*g∧d=(red n d).2*g∧0<(red n d).2∧(red n d).2≤d∧ab (red n d).1≤ab n:=by
 have hg:=gcd2_pos (a:=ab n) hd
 obtain ⟨⟨x,hx⟩,⟨y,hy⟩⟩:=gcd2_dvd n hd
 have e1:n.tdiv (gcd2 (ab n) d)=x:=by
  generalize gcd2 (ab n) d=g at *
  rw [hx,Int.mul_tdiv_cancel_left _ (by omega)]
 have e2:d.tdiv (gcd2 (ab n) d)=y:=by
  generalize gcd2 (ab n) d=g at *
  rw [hy,Int.mul_tdiv_cancel_left _ (by omega)]
 have e3:red n d=(x,y):=by unfold red;rw [e1,e2]
 rw [e3]
 generalize gcd2 (ab n) d=g at *
 have hy0:0<y:=by
  rcases Int.lt_or_le 0 y with h | h
  ·exact h
  ·have:=Int.mul_nonneg (show 0≤g by omega) (show 0 ≤ -y by omega)
   rw [Int.mul_neg] at this;omega
 refine ⟨g,hg,by rw [hx];exact Int.mul_comm _ _,by rw [hy];exact Int.mul_comm _ _,hy0,?_,?_⟩
 ·show y≤d
  have:=Int.mul_le_mul_of_nonneg_right (show 1≤g by omega) (show 0≤y by omega)
  omega
 ·show ab x≤ab n
  rw [hx]
  unfold ab
  rcases Int.le_total 0 x with h | h
  ·have a1:=Int.mul_le_mul_of_nonneg_right (show 1≤g by omega) h
   rw [Int.one_mul] at a1;omega
  ·have a1:=Int.mul_le_mul_of_nonneg_right (show 1≤g by omega) (show 0 ≤ -x by omega)
   rw [Int.one_mul,Int.mul_neg] at a1;omega
theorem tdiv_bd {n g:Int} (hg:0<g) (h : -4000000000000000000≤n∧n≤4000000000000000000) : -4000000000000000000≤n.tdiv g∧n.tdiv g≤4000000000000000000:=by
 rcases Int.le_total 0 n with h0 | h0
 ·have h1:=Int.tdiv_nonneg (a:=n) (b:=g) h0 (by omega)
  have h2:=Int.tdiv_le_self (a:=n) g h0
  omega
 ·have h1:=Int.tdiv_nonneg (a := -n) (b:=g) (by omega) (by omega)
  have h2:=Int.tdiv_le_self (a := -n) g (by omega)
  rw [Int.neg_tdiv] at h1 h2;omega
theorem c_common (w:World) (n d:Int) (hn : -4000000000000000000≤n∧n≤4000000000000000000) (hd:0<d):Ret Tryz.prog 198 [.int .i64 n,.int .i64 d].toArray w (.int .i64 (gcd2 (ab n) d)):=by
 refine Ret.of mixed tyTab Tryz.func198 rfl rfl (W.sreg (WO.p rfl rfl (WO.nil (W.sreg (WO.p rfl rfl (WO.p rfl rfl (WO.neg rfl (by unfold in64;omega) rfl (WO.max2 rfl rfl rfl (WO.p rfl rfl (WO.nil (W.seq (W.block ?_))))))))))))
 refine W.loop2 (fun (x:Int) (y:Int)=>0≤x∧0≤y∧gcd2 x y=gcd2 (ab n) d)
  (fun (x:Int) (y:Int)=>[(0,.int .i64 x),(1,.int .i64 y)])
  (fun (x:Int) (y:Int)=>[])
  (fun (x:Int) (y:Int)=>x.toNat) (ab n) d
  (by exact ⟨ab_nn n,by omega,rfl⟩) ⟨rfl,rfl,trivial⟩ (by repeat (first | exact Sub.nil | refine Sub.cons (by repeat first | exact .head | apply Pick.tail) ?_)) ?_
 rintro x y ⟨hx,hy,hg⟩
 refine W.seq (W.sreg (WO.p rfl rfl (WO.p rfl rfl (WO.nil ?_))))
 refine W.cond_bl rfl (fun c1=>?_) (fun c1=>?_)
 ·refine W.skip (W.block (W.region (WO.p rfl rfl (WO.p rfl rfl (WO.rem rfl rfl (by omega) rfl (WO.p rfl rfl (WO.p rfl rfl (WO.p rfl rfl (WO.nil ?_)))))))))
  refine' ⟨_,_,?hp,?hmu,⟨rfl,rfl,trivial⟩,?hS⟩
  case hS=>repeat (first | exact Sub.nil | refine Sub.cons (by repeat first | exact .head | apply Pick.tail) ?_)
  case hp=>exact ⟨(tmod_lt hy (by omega)).1,hx,by rw [← hg,gcd2_comm (y.tmod x) x,gcd2_step hy (by omega),gcd2_comm]⟩
  case hmu=>have:=tmod_lt hy (show 0<x by omega);omega
 ·refine W.exit (blk_same (W.sreg (WO.p rfl rfl (WO.p rfl rfl (WO.nil (W.ret (fin.ret (Res.one rfl (RV.tmp rfl)) ?_)))))))
  obtain rfl:x=0:=by omega
  rw [← hg,gcd2_comm,gcd2_zero hy]
theorem c_ratio (w:World) (n d:Int) (hn : -4000000000000000000≤n∧n≤4000000000000000000) (hd:0<d∧d≤4000000000000000000):Ret Tryz.prog 107 [.int .i64 n,.int .i64 d].toArray w (raV (red n d)):=by
 refine Ret.of mixed tyTab Tryz.func107 rfl rfl ?_
 have hg:=gcd2_pos (a:=ab n) hd.1
 have h1:=tdiv_bd hg hn
 have h2:=tdiv_bd hg (n:=d) (by omega)
 refine W.sreg (WO.alloc rfl rfl rfl (fun b1 hb1=>(WO.nil (W.sreg (WO.p rfl rfl (WO.p rfl rfl (WO.callR rfl Tryz.call198 (fun L w hi=>c_common w n d hn hd.1) rfl (WO.p rfl rfl (WO.nil (W.seq ?_))))))))))
 refine W.drawD 6 [.r 0 [],.r 1 [],.r 2 [],.r 3 [],.r 4 [],.r 5 []] [] (A0:=[]) (Sub.refl _) (by kernel_rfl) ?_ ?_
 ·repeat constructor
 refine DT.r rfl rfl rfl (WO.p rfl rfl (WO.nil ⟨rfl,rfl⟩)) (DT.r rfl rfl rfl (WO.p rfl rfl (WO.nil ⟨rfl,rfl⟩)) (DT.r rfl rfl rfl (WO.quo rfl rfl (by omega) (by unfold in64;omega) rfl (WO.nil ⟨rfl,rfl⟩)) (DT.r rfl rfl rfl (WO.p rfl rfl (WO.nil ⟨rfl,rfl⟩)) (DT.r rfl rfl rfl (WO.p rfl rfl (WO.nil ⟨rfl,rfl⟩)) (DT.r rfl rfl rfl (WO.quo rfl rfl (by omega) (by unfold in64;omega) rfl (WO.nil ⟨rfl,rfl⟩)) (DT.nil [_] rfl (WO.build rfl rfl rfl rfl rfl (WO.storeA rfl rfl rfl rfl Pick.head rfl rfl (WO.nil (W.ret ?_))))))))))
 exact fin.ret (Res.one rfl (RV.cell rfl rfl rfl (Cells.own Pick.head))) rfl
theorem c_less (w:World) (a b c d:Int) (h1:in64 (a*d)) (h2:in64 (c*b)):Ret Tryz.prog 180 [.agg #[.int .i64 a,.int .i64 b],.agg #[.int .i64 c,.int .i64 d]].toArray w (.bool (bl (a*d<c*b))):=by
 refine Ret.of mixed tyTab Tryz.func180 rfl rfl (W.sreg (WO.boxA rfl rfl (fun b1 hb1=>(WO.boxA rfl rfl (fun b2 hb2=>(WO.p rfl rfl (WO.nil (W.sreg (WO.field0 rfl rfl rfl (WO.load rfl rfl (Cell.own (Pick.tail (Pick.head)) rfl) rfl (WO.fieldL rfl rfl rfl (WO.load rfl rfl (Cell.own Pick.head rfl) rfl (WO.ar rfl rfl rfl (by (assumption)) rfl (WO.field0 rfl rfl rfl (WO.load rfl rfl (Cell.own Pick.head rfl) rfl (WO.fieldL rfl rfl rfl (WO.load rfl rfl (Cell.own (Pick.tail (Pick.head)) rfl) rfl (WO.ar rfl rfl rfl (by (assumption)) rfl (WO.p rfl rfl (WO.p rfl rfl (WO.nil (W.ret ?_))))))))))))))))))))))
 exact fin.ret (Res.one rfl (RV.tmp rfl)) rfl
end Go.Proofs.YtfchgmiiicidcaaGreat.Sp
namespace Go.Proofs.YtfchgmiiicidcaaGreat.Sp
open Go Go.TH
attribute [local irreducible] W WO pt
set_option maxRecDepth 10000
set_option maxHeartbeats 1000000
def encPr (r:Rn):List Value:=[.int .i64 r.p,.int .i64 r.q,.int .i64 r.lo,.int .i64 r.hi,.int .i64 r.p,.int .i64 r.q,.int .i64 r.lo,.int .i64 (-r.p),.int .i64 (-r.q),.int .i64 (-r.hi)]
theorem encPr_ok:EncOk encPr 10:=⟨fun _=>rfl,fun x u hu=>by simp [encPr] at hu;rcases hu with rfl | rfl | rfl | rfl | rfl | rfl | rfl | rfl | rfl | rfl <;> rfl,by omega⟩
def sds (l:List Rn):List Sd:=l.flatMap fun r=>[loS r,hiS r]
theorem sds_len (l:List Rn):(sds l).length=2*l.length:=by
 induction l with
 | nil=>rfl
 | cons r l ih=>show (_::_::sds l).length=_;simp only [List.length_cons,ih];omega
theorem sds_step {l:List Rn} {i:Nat} (h:i<l.length):sds (l.take i)++[loS (l.getD i rn0),hiS (l.getD i rn0)]=sds (l.take (i+1)):=by
 unfold sds;rw [take_succ_getD h rn0,List.flatMap_append];rfl
theorem sds_ok {l:List Rn} (h:OkRs l):∀ s∈sds l,OkS 20 100000 s:=fun s hs=>by
 obtain ⟨r,hr,hm⟩:=List.mem_flatMap.1 hs
 have:s=loS r∨s=hiS r:=by simpa using hm
 rcases this with rfl | rfl
 ·exact OkS.lo (h r hr)
 ·exact OkS.hi (h r hr)
structure Tbl (B:Nat) (w:World) (p:Addr) (rv sv:Value) (l:List Rn):Prop where
 c:RdC B w p [rv,sv]
 r:RdF encPr 10 B w rv l
 s:RdF encSd 3 B w sv (sds l)
theorem Tbl.later {C:Cx Tryz.prog} {H L:List HP} {w:World} {p:Addr} {rv sv:Value} {l:List Rn} (h:Tbl C.B C.w0 p rv sv l) (hi:Inv C.w0 C.M (L++H) w):Tbl w.heap.size w p rv sv l:=⟨h.c.later hi,h.r.later hi,h.s.later hi⟩
theorem Tbl.agree {B:Nat} {w w':World} {p:Addr} {rv sv:Value} {l:List Rn} (h:Tbl B w p rv sv l) (hk:∀ k,k<B→w'.heap[k]?=w.heap[k]?):Tbl B w' p rv sv l:=⟨h.c.agree hk,h.r.agree hk,h.s.agree hk⟩
theorem Tbl.own {C:Cx Tryz.prog} {H H1 H2 H3 L:List HP} {w:World} {b:Nat} {rv sv:Value} {l:List Rn} (p:Pick (pt b (.cells #[rv,sv] 287 (0,0))) H H1) (q:Pick (OwE encPr 262 10 rv l) H H2) (r:Pick (OwE encSd 101 3 sv (sds l)) H H3) (hi:Inv C.w0 C.M (L++H) w):Tbl w.heap.size w ⟨b,0,none⟩ rv sv l :=
 ⟨RdC.own p hi,RdF.of_ow encPr_ok q hi,RdF.of_ow encSd_ok r hi⟩
theorem isSl_lit {a0:Option Addr} {n c:Nat} (h:n≤9223372036854775807) (h2:0<n→∃ b o,a0=some ⟨b,o,none⟩):IsSl (.slice a0 n c) n:=⟨h,a0,c,rfl,h2⟩
theorem c_newTable (w:World) (v:Value) (l:List Rn) (hR:RdF encRn 4 w.heap.size w v l) (hok:OkRs l) (hl:l.length≤12):Ct Tryz.prog 104 [v].toArray w fun u w'=>∃ Hq,(∃ (b:Nat) (rv sv:Value),u=.pointer (some ⟨b,0,none⟩)∧Hq=[pt b (.cells #[rv,sv] 287 (0,0)),OwE encPr 262 10 rv l,OwE encSd 101 3 sv (sds l)])∧Inv w [] Hq w':=by
 refine Ct.of mixed tyTab Tryz.func104 rfl rfl ?_
 replace hR:RdF encRn 4 (fnCx mixed tyTab Tryz.f104.ntmps w).B (fnCx mixed tyTab Tryz.f104.ntmps w).w0 v l:=hR
 have hle:=hR.sl.le
 refine W.sreg (WO.p rfl rfl (WO.nil (W.sreg (WO.build rfl rfl rfl rfl rfl (WO.boxA rfl rfl (fun b1 hb1=>(WO.p rfl rfl (WO.nil (W.seq (W.sreg (WO.p rfl rfl (WO.len rfl rfl hR.sl rfl (WO.p rfl rfl (WO.nil (W.block (W.chg (owNil (enc:=encSd) (e:=101) (sz:=3)) (W.chg (owNil (enc:=encPr) (e:=262) (sz:=10)) ?_)))))))))))))))))
 refine W.loop3 (fun (i:Nat) (rv:Value) (sv:Value)=>i≤l.length)
  (fun (i:Nat) (rv:Value) (sv:Value)=>[(11,.int .i64 (i:Int)),(10,.int .i64 (l.length:Int)),(9,v),(3,.pointer (some ⟨b1,0,none⟩))])
  (fun (i:Nat) (rv:Value) (sv:Value)=>[pt b1 (.cells #[rv,sv] 287 (0,0)),OwE encPr 262 10 rv (l.take i),OwE encSd 101 3 sv (sds (l.take i))])
  (fun (i:Nat) (rv:Value) (sv:Value)=>l.length-i) 0 (.slice none 0 0) (.slice none 0 0)
  (by omega) ⟨rfl,rfl,rfl,rfl,trivial⟩ (by repeat (first | exact Sub.nil | refine Sub.cons (by repeat first | exact .head | apply Pick.tail) ?_)) ?_
 rintro i rv sv hi0
 refine W.sreg (WO.p rfl rfl (WO.nil (W.seq ?_)))
 refine W.cond_bl rfl (fun c1=>?_) (fun c1=>?_)
 ·refine W.skip (W.seq (W.block (W.sreg (WO.indexAddr rfl rfl rfl hR.sl (by omega) rfl (WO.loadA rfl rfl (RdF.cells4 hR (i:=i) (by omega)) rfl rfl (WO.alloc rfl rfl rfl (fun b2 hb2=>(WO.storeA rfl rfl rfl rfl Pick.head rfl rfl (WO.nil (W.sreg (WO.loadA rfl rfl (Cells.own Pick.head) rfl rfl (WO.callR rfl Tryz.call170 (fun L w hi=>c_newPair w (l.getD i rn0) (hok _ (getD_mem (by omega) rn0))) rfl (WO.alloc rfl rfl rfl (fun b3 hb3=>(WO.storeA rfl rfl rfl rfl Pick.head rfl rfl (WO.nil (W.seq (W.fact (OwE.form (enc:=encPr) (e:=262) (sz:=10) (by repeat first | exact .head | apply Pick.tail)) (fun hf=>?_)))))))))))))))))))
  obtain ⟨fa,fc,rfl⟩:=hf
  refine W.fact (OwE.form (enc:=encSd) (e:=101) (sz:=3) (by repeat first | exact .head | apply Pick.tail)) (fun hf2=>?_)
  obtain ⟨ga,gc,rfl⟩:=hf2
  refine W.drawD 8 [.r 0 [],.r 1 [],.r 2 [],.r 3 [],.b 4 [],.b 5 [],.c 6 [],.c 7 []] [] (A0:=[_]) (H0:=[_,_,_,_]) (.cons (Pick.tail (Pick.tail (Pick.tail .head))) (.cons .head (.cons .head (.cons .head (.cons .head .nil))))) (by kernel_rfl) ?_ ?_
  ·repeat constructor
  refine DT.r rfl rfl rfl (WO.p rfl rfl (WO.nil ⟨rfl,rfl⟩)) (DT.r rfl rfl rfl (WO.p rfl rfl (WO.nil ⟨rfl,rfl⟩)) (DT.r rfl rfl rfl (WO.p rfl rfl (WO.nil ⟨rfl,rfl⟩)) (DT.r rfl rfl rfl (WO.field0 rfl rfl rfl (WO.nil ⟨rfl,rfl⟩)) (DT.b rfl rfl rfl (WO.load rfl rfl (Cell.own (Pick.tail (Pick.tail (Pick.head))) rfl) rfl (WO.nil ⟨rfl,rfl⟩)) (DT.b rfl rfl rfl (WO.loadA rfl rfl (Cells.own Pick.head) rfl rfl (WO.nil ⟨rfl,rfl⟩)) (DT.c [_,_,_,_,_] rfl rfl rfl rfl (WO.buildSl rfl rfl rfl rfl rfl rfl rfl rfl rfl (fun v4=>?_))))))))
  refine WO.nil ⟨_,[_,_],rfl,rfl,(Keep.b (Keep.b (Keep.r (Keep.r (Keep.r (Keep.r Keep.nil)))))),?_⟩
  refine DT.c [_,_,_,_,_,_] rfl rfl rfl rfl ?_
  refine' WO.appendE (enc:=encPr) (m:=1) (ys:=[l.getD i rn0]) encPr_ok rfl rfl rfl rfl rfl (by repeat first | exact .head | apply Pick.tail) (isSl_lit (by omega) (fun _=>⟨_,_,rfl⟩)) (by omega) rfl (OwC.cells .head) (by rw [List.length_take];omega) (by rw [List.length_take];omega) rfl (fun g c=>?_)
  rw [← take_succ_getD (by omega) rn0]
  refine WO.nil ⟨_,[_,_],rfl,rfl,(Keep.c (Keep.b (Keep.b (Keep.r (Keep.r (Keep.r (Keep.r Keep.nil))))))),?_⟩
  refine DT.nil [_,_,_,_,_,_] rfl (WO.p rfl rfl (WO.field0 rfl rfl rfl (WO.store1 rfl rfl rfl (by rfl) (Pick.tail (Pick.tail (Pick.tail (Pick.tail (Pick.head))))) rfl (WO.nil ?_))))
  refine W.drawD 11 [.r 0 [],.r 1 [],.r 2 [],.r 3 [],.b 4 [],.r 5 [],.b 6 [],.r 7 [],.b 8 [],.c 9 [],.c 10 []] [] (A0:=[_]) (H0:=[_,_,_,_,_]) (.cons (Pick.tail (Pick.tail (Pick.tail (Pick.tail (Pick.tail .head))))) (.cons .head (.cons .head (.cons .head (.cons .head (.cons .head .nil)))))) (by kernel_rfl) ?_ ?_
  ·repeat constructor
  refine DT.r rfl rfl rfl (WO.p rfl rfl (WO.nil ⟨rfl,rfl⟩)) (DT.r rfl rfl rfl (WO.p rfl rfl (WO.nil ⟨rfl,rfl⟩)) (DT.r rfl rfl rfl (WO.p rfl rfl (WO.nil ⟨rfl,rfl⟩)) (DT.r rfl rfl rfl (WO.fieldL rfl rfl rfl (WO.nil ⟨rfl,rfl⟩)) (DT.b rfl rfl rfl (WO.load rfl rfl (Cell.own Pick.head rfl) rfl (WO.nil ⟨rfl,rfl⟩)) (DT.r rfl rfl rfl (WO.fieldL rfl rfl rfl (WO.nil ⟨rfl,rfl⟩)) (DT.b rfl rfl rfl (WO.loadA rfl rfl (Cells.ownAt (n:=3) (Pick.tail (Pick.tail (Pick.tail (Pick.head)))) rfl) rfl rfl (WO.nil ⟨rfl,rfl⟩)) (DT.r rfl rfl rfl (WO.fieldL rfl rfl rfl (WO.nil ⟨rfl,rfl⟩)) ?_)))))))
  refine DT.b rfl rfl rfl (WO.loadA rfl rfl (Cells.ownAt (n:=3) (Pick.tail (Pick.tail (Pick.tail (Pick.head)))) rfl) rfl rfl (WO.nil ⟨rfl,rfl⟩)) (DT.c [_,_,_,_,_,_] rfl rfl rfl rfl (WO.buildSl rfl rfl rfl rfl rfl rfl rfl rfl rfl (fun v5=>?_)))
  refine WO.nil ⟨_,[_,_],rfl,rfl,(Keep.b (Keep.r (Keep.b (Keep.r (Keep.b (Keep.r (Keep.r (Keep.r (Keep.r Keep.nil))))))))),?_⟩
  refine DT.c [_,_,_,_,_,_,_] rfl rfl rfl rfl ?_
  refine' WO.appendE (enc:=encSd) (m:=2) (ys:=[loS (l.getD i rn0),hiS (l.getD i rn0)]) encSd_ok rfl rfl rfl rfl rfl (by repeat first | exact .head | apply Pick.tail) (isSl_lit (by omega) (fun _=>⟨_,_,rfl⟩)) (by omega) rfl (OwC.cells .head) (by rw [sds_len,List.length_take];omega) (by rw [sds_len,List.length_take];omega) rfl (fun g c=>?_)
  rw [sds_step (by omega)]
  refine WO.nil ⟨_,[_,_],rfl,rfl,(Keep.c (Keep.b (Keep.r (Keep.b (Keep.r (Keep.b (Keep.r (Keep.r (Keep.r (Keep.r Keep.nil)))))))))),?_⟩
  refine DT.nil [_,_,_,_,_,_,_] rfl (WO.p rfl rfl (WO.fieldL rfl rfl rfl (WO.store1 rfl rfl rfl (by rfl) (Pick.tail (Pick.tail (Pick.head))) rfl (WO.nil (W.region (WO.ar rfl rfl rfl (by unfold in64;omega) rfl (WO.p rfl rfl (WO.nil ?_))))))))
  refine' ⟨i+1,_,_,?hp,?hmu,⟨rfl,rfl,rfl,rfl,trivial⟩,?hS⟩
  case hS=>repeat (first | exact Sub.nil | refine Sub.cons (by repeat first | exact .head | apply Pick.tail) ?_)
  case hp=>omega
  case hmu=>omega
 ·refine W.exit (blk_same ?_)
  obtain rfl:l.length=i:=by omega
  rw [List.take_length]
  refine W.sreg (WO.p rfl rfl (WO.p rfl rfl (WO.nil (W.ret ?_))))
  exact fin.ret (Res.one rfl (RV.tmp rfl)) ⟨b1,rv,sv,rfl,rfl⟩
end Go.Proofs.YtfchgmiiicidcaaGreat.Sp
namespace Go.Proofs.YtfchgmiiicidcaaGreat.Sp
open Go Go.TH
attribute [local irreducible] W WO pt
set_option maxRecDepth 10000
set_option maxHeartbeats 1000000
def seg {β:Type} (lo hi:Nat) (g:Nat→List β):List β:=(List.range (hi-lo)).flatMap fun t=>g (lo+t)
theorem seg_none {β:Type} (lo:Nat) (g:Nat→List β):seg lo lo g=[]:=by unfold seg;simp
theorem seg_succ {β:Type} {lo hi:Nat} (h:lo≤hi) (g:Nat→List β):seg lo (hi+1) g=seg lo hi g++g hi:=by
 unfold seg;rw [show hi+1-lo=(hi-lo)+1 by omega,List.range_succ,List.flatMap_append];simp [show lo+(hi-lo)=hi by omega]
theorem seg_get {β:Type} {lo i t:Nat} {g:Nat→List β} {x:β} (h1:lo≤i) (ht:(g i)[t]?=some x):∀ {hi:Nat},i<hi→(seg lo hi g)[(seg lo i g).length+t]?=some x
 | 0,h=>by omega
 | hi+1,h=>by
  rw [seg_succ (by omega)]
  rcases Nat.lt_or_ge i hi with g1 | g1
  ·have:=seg_get (lo:=lo) h1 ht (hi:=hi) g1
   rw [List.getElem?_append_left (List.getElem?_eq_some_iff.1 this).1];exact this
  ·obtain rfl:i=hi:=by omega
   rw [List.getElem?_append_right (by omega),Nat.add_sub_cancel_left];exact ht
theorem seg_one {β:Type} (lo:Nat) (g:Nat→β):∀ {hi:Nat},lo≤hi→(seg lo hi fun i=>[g i]).length=hi-lo
 | 0,h=>by obtain rfl:lo=0:=(by omega);rw [seg_none];rfl
 | hi+1,h=>by
  rcases Nat.lt_or_ge hi lo with g1 | g1
  ·obtain rfl:lo=hi+1:=(by omega);rw [seg_none];simp
  ·rw [seg_succ g1,List.length_append,seg_one lo g g1];simp;omega
theorem mem_seg {β:Type} {lo hi:Nat} {g:Nat→List β} {x:β}:x∈seg lo hi g↔∃ i,lo≤i∧i<hi∧x∈g i:=by
 unfold seg
 simp only [List.mem_flatMap,List.mem_range]
 constructor
 ·rintro ⟨t,ht,hx⟩;exact ⟨lo+t,by omega,by omega,hx⟩
 ·rintro ⟨i,h1,h2,hx⟩;exact ⟨i-lo,by omega,by rw [show lo+(i-lo)=i by omega];exact hx⟩
def F3 (n a b:Nat):List (List Int):=seg (b+1) n fun c=>[[(a:Int),(b:Int),(c:Int)]]
def F2 (m n a b:Nat):List (List Int):=[(a:Int),(b:Int)]::(if m=3 then F3 n a b else [])
def F1 (m n a:Nat):List (List Int):=[(a:Int)]::seg (a+1) n (F2 m n a)
def grp (m n:Nat):List (List Int):=seg 0 n (F1 m n)
def qa (m n a:Nat):Nat:=(seg 0 a (F1 m n)).length
def qb (m n a b:Nat):Nat:=qa m n a+((seg (a+1) b (F2 m n a)).length+1)
def qc (m n a b c:Nat):Nat:=qb m n a b+((c-(b+1))+1)
theorem ga_get {m n a:Nat} (h:a<n):(grp m n)[qa m n a]?=some [(a:Int)]:=seg_get (lo:=0) (i:=a) (t:=0) (g:=F1 m n) (by omega) rfl h
theorem gb_get {m n a b:Nat} (ha:a<n) (h1:a+1≤b) (h2:b<n):(grp m n)[qb m n a b]?=some [(a:Int),(b:Int)]:=by
 refine seg_get (lo:=0) (i:=a) (g:=F1 m n) (by omega) ?_ ha
 unfold F1
 rw [List.getElem?_cons_succ]
 exact seg_get (lo:=a+1) (i:=b) (t:=0) (g:=F2 m n a) h1 rfl h2
theorem gc_get {n a b c:Nat} (ha:a<n) (h1:a+1≤b) (h2:b<n) (h3:b+1≤c) (h4:c<n):(grp 3 n)[qc 3 n a b c]?=some [(a:Int),(b:Int),(c:Int)]:=by
 have e:qc 3 n a b c=qa 3 n a+((seg (a+1) b (F2 3 n a)).length+((c-(b+1))+1)+1):=by unfold qc qb;omega
 rw [e]
 refine seg_get (lo:=0) (i:=a) (g:=F1 3 n) (by omega) ?_ ha
 unfold F1
 rw [List.getElem?_cons_succ]
 refine seg_get (lo:=a+1) (i:=b) (g:=F2 3 n a) h1 ?_ h2
 unfold F2
 rw [List.getElem?_cons_succ,if_pos rfl]
 have:=seg_get (lo:=b+1) (i:=c) (t:=0) (g:=fun c:Nat=>[[(a:Int),(b:Int),(c:Int)]]) (x:=[(a:Int),(b:Int),(c:Int)]) h3 rfl (hi:=n) h4
 rw [seg_one (b+1) (fun c:Nat=>[(a:Int),(b:Int),(c:Int)]) (by omega)] at this
 exact this
theorem qb_0 (m n a:Nat):qb m n a (a+1)=qa m n a+1:=by unfold qb;rw [seg_none];rfl
theorem qa_succ (m n a:Nat):qa m n (a+1)=qb m n a n:=by unfold qa qb;rw [seg_succ (by omega),List.length_append];rfl
theorem qc_0 (m n a b:Nat):qc m n a b (b+1)=qb m n a b+1:=by unfold qc;omega
theorem qc_succ {m n a b c:Nat} (h:b+1≤c):qc m n a b (c+1)=qc m n a b c+1:=by unfold qc;omega
theorem qb_succ {m n a b c:Nat} (h1:a+1≤b) (hb:b<n) (hm:m=2∨m=3) (hc:(m=2→c=b+1)∧(m=3→c=n)):qb m n a (b+1)=qc m n a b c:=by
 unfold qc qb
 rw [seg_succ (by omega),List.length_append]
 unfold F2
 rw [List.length_cons]
 rcases hm with rfl | rfl
 ·rw [hc.1 rfl,if_neg (by omega)];simp;omega
 ·rw [hc.2 rfl,if_pos rfl];unfold F3;rw [seg_one (b+1) (fun c:Nat=>[(a:Int),(b:Int),(c:Int)]) (by omega)];omega
theorem grp_len (m n:Nat):(grp m n).length=qa m n n:=rfl
theorem c_groups (w:World) (p:Addr) (m:Int):Ct Tryz.prog 191 [.pointer (some p),.int .i64 m].toArray w fun v w'=>∃ Hq,(∃ b1 b2,v=.func (.func 276) #[] #[.pointer (some ⟨b1,0,none⟩),.pointer (some ⟨b2,0,none⟩)] ∧
 Hq=[pt b2 (.cells #[.int .i64 m] 3 (0,0)),pt b1 (.cells #[.pointer (some p)] 186 (0,0))])∧Inv w [] Hq w':=by
 refine Ct.of mixed tyTab Tryz.func191 rfl rfl (W.sreg (WO.box1 rfl (by rfl) rfl (fun b1 hb1=>(WO.box1 rfl (by rfl) rfl (fun b2 hb2=>(WO.p rfl rfl (WO.nil (W.sreg (WO.p rfl rfl (WO.p rfl rfl (WO.nil (W.ret ?_))))))))))))
 exact fin.ret (Res.one rfl (RV.tmp rfl)) ⟨b1,b2,rfl,rfl⟩
theorem c_groups1 (B:Nat) (wr:World) (p:Addr) (rv sv:Value) (rl:List Rn) (hT:Tbl B wr p rv sv rl) (n:Nat) (hn:n=(sds rl).length) (m:Nat) (hm:m=2∨m=3) (hn24:n≤24) (last:Nat) (l:Nat) (Hc:Nat→List HP) (hy:∀ k x v,(grp m n)[k]?=some x→k≤last→YieldB Tryz.prog B wr l #[v] (bl (k<last)) (OwE encI 3 1 v x::Hc k) (Hc (k+1))) (b1 b2:Nat) (w:World) (M':List Nat) (hB:B≤w.heap.size) (hk:∀ k,k<B→w.heap[k]?=wr.heap[k]?) (hM:∀ b∈M',B≤b)
 (hi:Inv w M' ([pt b2 (.cells #[.int .i64 (m:Int)] 3 (0,0)),pt b1 (.cells #[.pointer (some p)] 186 (0,0))]++Hc 0) w) :
 Ct Tryz.prog 276 ([.func (.yield l) #[] #[],.pointer (some ⟨b1,0,none⟩),.pointer (some ⟨b2,0,none⟩)]:List Value).toArray w fun _ w'=>Inv w M' ([pt b2 (.cells #[.int .i64 (m:Int)] 3 (0,0)),pt b1 (.cells #[.pointer (some p)] 186 (0,0))]++Hc (min (grp m n).length (last+1))) w':=by
 refine Iter.of mixed tyTab hB hM Tryz.func276 rfl rfl hi ?_
 have hT2:=hT.agree hk
 have hsv:IsSl sv n:=by rw [hn];exact hT2.s.sl
 refine W.sreg (WO.load rfl rfl (Cell.own (Pick.tail (Pick.head)) rfl) rfl (WO.p rfl rfl (WO.field rfl rfl rfl ?_)))
 refine' WO.load (v:=_) rfl rfl ?hc rfl ?_
 case hc=>((refine RdC.cellAt hT2.c (j:=1) ?_;rfl))
 refine WO.len rfl rfl hsv rfl (WO.p rfl rfl (WO.nil (W.sreg (WO.p rfl rfl (WO.p rfl rfl (WO.nil (W.block ?_)))))))
 rw [show Hc 0=Hc (qa m n 0) by rw [show qa m n 0=0 from rfl]]
 refine W.loop (fun (a:Nat)=>a≤n∧qa m n a≤last)
  (fun (a:Nat)=>[(14,.int .i64 (a:Int)),(13,.int .i64 (n:Int)),(4,.int .i64 (n:Int)),(0,.func (.yield l) #[] #[]),(1,.pointer (some ⟨b1,0,none⟩)),(2,.pointer (some ⟨b2,0,none⟩))])
  (fun (a:Nat)=>[pt b1 (.cells #[.pointer (some p)] 186 (0,0)),pt b2 (.cells #[.int .i64 (m:Int)] 3 (0,0)),sat (Hc (qa m n a))])
  (fun (a:Nat)=>n-a) 0
  (by exact ⟨by omega,by show qa m n 0≤last;exact Nat.zero_le _⟩) ⟨rfl,rfl,rfl,rfl,rfl,rfl,trivial⟩ (by repeat (first | exact Sub.nil | refine Sub.cons (by repeat first | exact .head | apply Pick.tail) ?_)) ?_
 rintro a ⟨ha,hal⟩
 refine W.sreg (WO.p rfl rfl (WO.nil (W.seq ?_)))
 refine W.cond_bl rfl (fun c1=>?_) (fun c1=>?_)
 ·refine W.skip (W.seq (W.block (W.sreg (WO.p rfl rfl (WO.p rfl rfl (WO.nil (W.seq (W.sreg (WO.p rfl rfl (WO.p rfl rfl (WO.buildSl rfl rfl rfl rfl rfl rfl rfl rfl rfl (fun v1=>(WO.yieldB (go:=bl (qa m n a<last)) rfl rfl (by repeat exact .head) (by repeat first | exact .head | apply Pick.tail) (((hy _ _ _ (ga_get (by omega)) (by omega)).one).agree hk) rfl ?_)))))))))))))
  have hget:=(List.getElem?_eq_some_iff.1 (ga_get (by omega):(grp m n)[qa m n a]?=some _)).1
  refine WO.p rfl rfl (WO.nil ?_)
  refine W.cond_nbl rfl (fun c2=>?_) (fun c2=>?_)
  ·refine W.ret (fin.ret (Res.none rfl) ?_)
   rw [show min (grp m n).length (last+1)=qa m n a+1 by omega]
   repeat (first | exact Sub.nil | refine Sub.cons (by repeat first | exact .head | apply Pick.tail) ?_)
  ·refine W.skip (W.sreg (WO.p rfl rfl (WO.ar rfl rfl rfl (by unfold in64;omega) rfl (WO.p rfl rfl (WO.nil (W.block ?_))))))
   rw [show qa m n a+1=qb m n a (a+1) from (qb_0 m n a).symm]
   refine W.loop (fun (b:Nat)=>a+1≤b∧b≤n∧qb m n a b≤last)
    (fun (b:Nat)=>[(14,.int .i64 (a:Int)),(13,.int .i64 (n:Int)),(4,.int .i64 (n:Int)),(5,.int .i64 (a:Int)),(6,.int .i64 (b:Int)),(0,.func (.yield l) #[] #[]),(1,.pointer (some ⟨b1,0,none⟩)),(2,.pointer (some ⟨b2,0,none⟩))])
    (fun (b:Nat)=>[pt b1 (.cells #[.pointer (some p)] 186 (0,0)),pt b2 (.cells #[.int .i64 (m:Int)] 3 (0,0)),sat (Hc (qb m n a b))])
    (fun (b:Nat)=>n-b) (a+1)
    (by exact ⟨by omega,by omega,by rw [qb_0];omega⟩) ⟨rfl,rfl,rfl,rfl,rfl,rfl,rfl,rfl,trivial⟩ (by repeat (first | exact Sub.nil | refine Sub.cons (by repeat first | exact .head | apply Pick.tail) ?_)) ?_
   rintro b ⟨hb1,hb2,hbl⟩
   refine W.seq (W.sreg (WO.p rfl rfl (WO.p rfl rfl (WO.p rfl rfl (WO.p rfl rfl ?_)))))
   refine WO.guard_bl rfl rfl (fun c3=>?_) (fun c3=>?_)
   ·refine WO.go' rfl (WO.load rfl rfl (Cell.own (Pick.tail (Pick.head)) rfl) rfl (WO.pg rfl rfl rfl (WO.p rfl rfl (WO.nil ?_))))
    refine W.cond_bl rfl (fun c4=>?_) (fun c4=>?_)
    ·refine W.skip (W.seq (W.block (W.seq (W.sreg (WO.p rfl rfl (WO.p rfl rfl (WO.p rfl rfl (WO.buildSl rfl rfl rfl rfl rfl rfl rfl rfl rfl (fun v2=>(WO.yieldB (go:=bl (qb m n a b<last)) rfl rfl (by repeat exact .head) (by repeat first | exact .head | apply Pick.tail) (((hy _ _ _ (gb_get (by omega) (by omega) (by omega)) (by omega)).one).agree hk) rfl ?_))))))))))
     have hget:=(List.getElem?_eq_some_iff.1 (gb_get (by omega) (by omega) (by omega):(grp m n)[qb m n a b]?=some _)).1
     refine WO.p rfl rfl (WO.nil ?_)
     refine W.cond_nbl rfl (fun c5=>?_) (fun c5=>?_)
     ·refine W.ret (fin.ret (Res.none rfl) ?_)
      rw [show min (grp m n).length (last+1)=qb m n a b+1 by omega]
      repeat (first | exact Sub.nil | refine Sub.cons (by repeat first | exact .head | apply Pick.tail) ?_)
     ·refine W.skip (W.sreg (WO.p rfl rfl (WO.ar rfl rfl rfl (by unfold in64;omega) rfl (WO.p rfl rfl (WO.nil (W.block ?_))))))
      rw [show qb m n a b+1=qc m n a b (b+1) from (qc_0 m n a b).symm]
      refine W.loop (fun (c:Nat)=>b+1≤c∧c≤n∧(m=2→c=b+1)∧qc m n a b c≤last)
       (fun (c:Nat)=>[(14,.int .i64 (a:Int)),(13,.int .i64 (n:Int)),(4,.int .i64 (n:Int)),(5,.int .i64 (a:Int)),(6,.int .i64 (b:Int)),(7,.int .i64 (c:Int)),(0,.func (.yield l) #[] #[]),(1,.pointer (some ⟨b1,0,none⟩)),(2,.pointer (some ⟨b2,0,none⟩))])
       (fun (c:Nat)=>[pt b1 (.cells #[.pointer (some p)] 186 (0,0)),pt b2 (.cells #[.int .i64 (m:Int)] 3 (0,0)),sat (Hc (qc m n a b c))])
       (fun (c:Nat)=>n-c) (b+1)
       (by exact ⟨by omega,by omega,fun _=>rfl,by rw [qc_0];omega⟩) ⟨rfl,rfl,rfl,rfl,rfl,rfl,rfl,rfl,rfl,trivial⟩ (by repeat (first | exact Sub.nil | refine Sub.cons (by repeat first | exact .head | apply Pick.tail) ?_)) ?_
      rintro c ⟨hc1,hc2,hc3,hcl⟩
      refine W.seq (W.sreg (WO.p rfl rfl (WO.p rfl rfl (WO.p rfl rfl (WO.p rfl rfl ?_)))))
      refine WO.guard_bl rfl rfl (fun c6=>?_) (fun c6=>?_)
      ·refine WO.go' rfl (WO.load rfl rfl (Cell.own (Pick.tail (Pick.head)) rfl) rfl (WO.pg rfl rfl rfl (WO.p rfl rfl (WO.nil ?_))))
       refine W.cond_bl rfl (fun c7=>?_) (fun c7=>?_)
       ·refine W.skip (W.seq (W.block (W.sreg (WO.p rfl rfl (WO.p rfl rfl (WO.p rfl rfl (WO.p rfl rfl (WO.buildSl rfl rfl rfl rfl rfl rfl rfl rfl rfl (fun v3=>?_)))))))))
        obtain rfl:m=3:=by omega
        refine WO.yieldB (go:=bl (qc 3 n a b c<last)) rfl rfl (by repeat exact .head) (by repeat first | exact .head | apply Pick.tail) (((hy _ _ _ (gc_get (by omega) (by omega) (by omega) (by omega) (by omega)) (by omega)).one).agree hk) rfl ?_
        have hget:=(List.getElem?_eq_some_iff.1 (gc_get (by omega) (by omega) (by omega) (by omega) (by omega):(grp 3 n)[qc 3 n a b c]?=some _)).1
        refine WO.p rfl rfl (WO.nil ?_)
        refine W.cond_nbl rfl (fun c8=>?_) (fun c8=>?_)
        ·refine W.ret (fin.ret (Res.none rfl) ?_)
         rw [show min (grp 3 n).length (last+1)=qc 3 n a b c+1 by omega]
         repeat (first | exact Sub.nil | refine Sub.cons (by repeat first | exact .head | apply Pick.tail) ?_)
        ·refine W.skip ?_
         rw [← qc_succ (by omega)]
         have hnx3:qc 3 n a b (c+1)≤last:=by rw [qc_succ (by omega)];omega
         refine W.region (WO.p rfl rfl (WO.ar rfl rfl rfl (by unfold in64;omega) rfl (WO.p rfl rfl (WO.nil ?_))))
         refine' ⟨c+1,?hp,?hmu,⟨rfl,rfl,rfl,rfl,rfl,rfl,rfl,rfl,rfl,trivial⟩,?hS⟩
         case hS=>repeat (first | exact Sub.nil | refine Sub.cons (by repeat first | exact .head | apply Pick.tail) ?_)
         case hp=>exact ⟨by omega,by omega,fun q=>by omega,hnx3⟩
         case hmu=>omega
       ·refine W.exit (blk_same ?_)
        rw [← qb_succ (by omega) (by omega) hm ⟨hc3,fun q=>by omega⟩] at hcl ⊢
        have hnx2:=hcl
        refine W.region (WO.p rfl rfl (WO.ar rfl rfl rfl (by unfold in64;omega) rfl (WO.p rfl rfl (WO.nil ?_))))
        refine' ⟨b+1,?hp,?hmu,⟨rfl,rfl,rfl,rfl,rfl,rfl,rfl,rfl,trivial⟩,?hS⟩
        case hS=>repeat (first | exact Sub.nil | refine Sub.cons (by repeat exact .head) ?_)
        case hp=>exact ⟨by omega,by omega,hnx2⟩
        case hmu=>omega
      ·refine WO.no rfl rfl (WO.no rfl rfl (WO.p rfl rfl (WO.nil (W.cond_f rfl (W.exit (blk_same ?_))))))
       rw [← qb_succ (by omega) (by omega) hm ⟨hc3,fun q=>by omega⟩] at hcl ⊢
       have hnx2:=hcl
       refine W.region (WO.p rfl rfl (WO.ar rfl rfl rfl (by unfold in64;omega) rfl (WO.p rfl rfl (WO.nil ?_))))
       refine' ⟨b+1,?hp,?hmu,⟨rfl,rfl,rfl,rfl,rfl,rfl,rfl,rfl,trivial⟩,?hS⟩
       case hS=>repeat (first | exact Sub.nil | refine Sub.cons (by repeat exact .head) ?_)
       case hp=>exact ⟨by omega,by omega,hnx2⟩
       case hmu=>omega
    ·exfalso;omega
   ·refine WO.no rfl rfl (WO.no rfl rfl (WO.p rfl rfl (WO.nil (W.cond_f rfl (W.exit (blk_same ?_))))))
    obtain rfl:n=b:=by omega
    rw [← qa_succ] at hbl ⊢
    have hnx:=hbl
    refine W.region (WO.ar rfl rfl rfl (by unfold in64;omega) rfl (WO.p rfl rfl (WO.nil ?_)))
    refine' ⟨a+1,?hp,?hmu,⟨rfl,rfl,rfl,rfl,rfl,rfl,trivial⟩,?hS⟩
    case hS=>repeat (first | exact Sub.nil | refine Sub.cons (by repeat exact .head) ?_)
    case hp=>exact ⟨by omega,hnx⟩
    case hmu=>omega
 ·refine W.exit (blk_same ?_)
  obtain rfl:n=a:=by omega
  refine fin.normal (Res.none rfl) ?_
  rw [grp_len,show min (qa m n n) (last+1)=qa m n n by omega]
  repeat (first | exact Sub.nil | refine Sub.cons (by repeat first | exact .head | apply Pick.tail) ?_)
end Go.Proofs.YtfchgmiiicidcaaGreat.Sp
namespace Go.Proofs.YtfchgmiiicidcaaGreat.Sp
open Go Go.TH
attribute [local irreducible] W WO pt
set_option maxRecDepth 10000
set_option maxHeartbeats 1000000
def tkE (g ys:List Int) (i:Nat):MapEntry:={ key:=.int .i64 (g.getD i 0),val:=.int .i64 (ys.getD i 0),born:=i }
def tkL (g ys:List Int) (n:Nat):List MapEntry:=(List.range n).map (tkE g ys)
theorem tkL_push (g ys:List Int) (n:Nat):(tkL g ys n).toArray.push { key:=.int .i64 (g.getD n 0),val:=.int .i64 (ys.getD n 0),born:=n }=(tkL g ys (n+1)).toArray:=by
 unfold tkL;rw [List.range_succ,List.map_append];simp [tkE]
theorem find_none {k:Int}:∀ (es:List MapEntry) (i:Nat),(∀ e∈es,∃ z,e.key=.int .i64 z∧z≠k)→Instr.findNow (.int .i64) (.int .i64 k) es i=some none
 | [],i,_=>rfl
 | e::r,i,h=>by
  obtain ⟨z,hz,hn⟩:=h e (by simp)
  have e2:(k==z)=false:=by simp;omega
  have ih:=find_none r (i+1) (fun e he=>h e (by simp [he]))
  rw [← ih]
  obtain ⟨kk,vv,bb⟩:=e
  simp only at hz
  subst hz
  simp only [Instr.findNow,Instr.sameNow,if_true,e2]
theorem tkL_none {g ys:List Int} (hg:g.Nodup) {n:Nat} (h:n<g.length):Instr.findNow (.int .i64) (.int .i64 (g.getD n 0)) (tkL g ys n).toArray.toList 0=some none:=by
 refine find_none _ _ (fun e he=>?_)
 have he':e∈(List.range n).map (tkE g ys):=he
 obtain ⟨j,hj,rfl⟩:=List.mem_map.1 he'
 have hj':=List.mem_range.1 hj
 refine ⟨_,rfl,fun q=>?_⟩
 have h1:g.getD j 0=g[j]:=by simp [show j<g.length by omega]
 have h2:g.getD n 0=g[n]:=by simp [h]
 rw [h1,h2] at q
 have:=(List.getElem_inj hg).1 q
 omega
def tkS (S:List Sd) (g ys:List Int):Nat→Sd
 | 0=>sd0
 | i+1=>addS (tkS S g ys i) (byS (S.getD (g.getD i 0).toNat sd0) (ys.getD i 0))
theorem tkS_bd {S:List Sd} (hS:∀ s∈S,OkS 20 100000 s) {g ys:List Int} (hg:∀ x∈g,0≤x∧x<S.length) (hy:∀ y∈ys,-1000≤y∧y≤1000) (hl:ys.length=g.length):∀ {i:Nat},i≤g.length→OkS (100000000*i) (100000000*i) (tkS S g ys i)
 | 0,_=>⟨by simp [tkS,sd0],by simp [tkS,sd0],by simp [tkS,sd0]⟩
 | i+1,h=>by
  have h1:=tkS_bd hS hg hy hl (i:=i) (by omega)
  have hx:=hg _ (getD_mem (show i<g.length by omega) 0)
  have h2:=(hS _ (getD_mem (show (g.getD i 0).toNat<S.length by omega) sd0)).by_ (hy _ (getD_mem (show i<ys.length by omega) 0))
  have e:(100000000:Int)*((i+1:Nat):Int)=100000000*i+100000000:=by omega
  rw [e]
  obtain ⟨a1,a2,a3⟩:=h1
  obtain ⟨b1,b2,b3⟩:=h2
  exact ⟨by show _≤_+_∧_+_≤_;omega,by show _≤_+_∧_+_≤_;omega,by show _≤_+_∧_+_≤_;omega⟩
abbrev mdV (m:Value) (s:Sd) (t:Int):Value:=.agg #[m,.int .i64 s.a,.int .i64 s.b,.int .i64 s.c,.int .i64 t]
theorem all_twoS {A:Int} {s o:Sd} (h:OkS A A s) (g:OkS A A o):∀ x∈[s,o],OkS A A x:=fun x hx=>by
 have:x=s∨x=o:=by simpa using hx
 rcases this with rfl | rfl
 ·exact h
 ·exact g
theorem addS_two (s o:Sd):sumS [s,o]=addS s o:=by
 unfold sumS addS sd0;simp
theorem RdF.cellsT {C:Cx Tryz.prog} {H:List HP} {o:Value} {S:List Sd} (h:RdF encSd 3 C.B C.w0 o S) {x:Int} (h0:0≤x) (h1:x<S.length) {z:Int} (hz:z=x):Cells C H (elt o z.toNat 3) [.int .i64 (S.getD x.toNat sd0).a,.int .i64 (S.getD x.toNat sd0).b,.int .i64 (S.getD x.toNat sd0).c]:=by
 subst hz
 exact RdF.cells3 h (by omega)
theorem c_take (w:World) (p:Addr) (rv sv:Value) (rl:List Rn) (hT:Tbl w.heap.size w p rv sv rl) (hok:OkRs rl) (o u:Value) (g ys:List Int) (t:Int) (hG:RdF encI 1 w.heap.size w o g) (hY:RdF encI 1 w.heap.size w u ys) (hg:∀ x∈g,0≤x∧x<(sds rl).length) (hnd:g.Nodup) (hl:ys.length=g.length) (h3:g.length≤3) (hy:∀ y∈ys,-1000≤y∧y≤1000) :
 Ct Tryz.prog 195 [.pointer (some p),o,.int .i64 t,u].toArray w fun v w'=>∃ Hq,(∃ mb:Nat,v=mdV (.map (some mb)) (tkS (sds rl) g ys g.length) t∧Hq=[pt mb (.map (tkL g ys g.length).toArray g.length)])∧Inv w [] Hq w':=by
 refine Ct.ofI mixed tyTab Tryz.func195 rfl rfl ?_
 replace hG:RdF encI 1 (fnCx mixed tyTab Tryz.f195.ntmps w).B (fnCx mixed tyTab Tryz.f195.ntmps w).w0 o g:=hG
 replace hY:RdF encI 1 (fnCx mixed tyTab Tryz.f195.ntmps w).B (fnCx mixed tyTab Tryz.f195.ntmps w).w0 u ys:=hY
 replace hT:Tbl (fnCx mixed tyTab Tryz.f195.ntmps w).B (fnCx mixed tyTab Tryz.f195.ntmps w).w0 p rv sv rl:=hT
 have hS:=sds_ok hok
 refine W.sreg (WO.alloc rfl rfl rfl (fun b1 hb1=>(WO.nil (W.sreg (WO.makeMap rfl (fun mb=>(WO.build rfl rfl rfl rfl rfl (WO.p rfl rfl (WO.build rfl rfl rfl rfl rfl (WO.alloc rfl rfl rfl (fun b2 hb2=>(WO.storeA rfl rfl rfl rfl Pick.head rfl rfl (WO.nil (W.seq (W.sreg (WO.p rfl rfl (WO.len rfl rfl hG.sl rfl (WO.p rfl rfl (WO.nil (W.block ?_))))))))))))))))))))
 refine W.loop (fun (i:Nat)=>i≤g.length)
  (fun (i:Nat)=>[(18,.int .i64 (i:Int)),(17,.int .i64 (g.length:Int)),(16,o),(9,.pointer (some ⟨b2,0,none⟩)),(8,.pointer (some ⟨b1,0,none⟩)),(3,u),(0,.pointer (some p))])
  (fun (i:Nat)=>[pt b1 (.cells #[.map none,.int .i64 0,.int .i64 0,.int .i64 0,.int .i64 0] 103 (0,0)),pt b2 (.cells #[.map (some mb),.int .i64 (tkS (sds rl) g ys i).a,.int .i64 (tkS (sds rl) g ys i).b,.int .i64 (tkS (sds rl) g ys i).c,.int .i64 t] 103 (0,0)),pt mb (.map (tkL g ys i).toArray i)])
  (fun (i:Nat)=>g.length-i) 0
  (by omega) ⟨rfl,rfl,rfl,rfl,rfl,rfl,rfl,trivial⟩ (by repeat (first | exact Sub.nil | refine Sub.cons (by repeat first | exact .head | apply Pick.tail) ?_)) ?_
 rintro i hi0
 refine W.sreg (WO.p rfl rfl (WO.nil (W.seq ?_)))
 refine W.cond_bl rfl (fun c1=>?_) (fun c1=>?_)
 ·refine W.skip (W.seq (W.block (W.sreg (WO.p rfl rfl (WO.indexAddr rfl rfl rfl hG.sl (by omega) rfl ?_)))))
  refine' WO.load (v:=_) rfl rfl ?hc rfl ?_
  case hc=>((refine hG.cell0 (i:=i) (by omega) 0 ?_;rfl))
  refine WO.p rfl rfl (WO.p rfl rfl (WO.nil (W.seq ?_)))
  have hgi:=hg _ (getD_mem (show i<g.length by omega) 0)
  have hyi:=hy _ (getD_mem (show i<ys.length by omega) 0)
  have hsi:=hS _ (getD_mem (show (g.getD i 0).toNat<(sds rl).length by omega) sd0)
  have hbi:=(OkS.by_ hsi hyi).up (A':=1000000000000000) (B':=1000000000000000) (by omega) (by omega)
  have hti:=(tkS_bd hS hg hy hl (i:=i) (by omega)).up (A':=1000000000000000) (B':=1000000000000000) (by omega) (by omega)
  refine W.drawD 7 [.r 0 [],.b 1 [],.r 2 [],.r 3 [],.r 4 [],.r 5 [],.b 6 []] [] (A0:=[_]) (H0:=[_,_]) (.cons (Pick.tail (Pick.tail .head)) (.cons .head (.cons .head .nil))) (by kernel_rfl) ?_ ?_
  ·repeat constructor
  refine DT.r rfl rfl rfl (WO.field0 rfl rfl rfl (WO.nil ⟨rfl,rfl⟩)) (DT.b rfl rfl rfl (WO.load rfl rfl (Cell.own (Pick.tail (Pick.head)) rfl) rfl (WO.nil ⟨rfl,rfl⟩)) (DT.r rfl rfl rfl (WO.p rfl rfl (WO.nil ⟨rfl,rfl⟩)) (DT.r rfl rfl rfl (WO.p rfl rfl (WO.nil ⟨rfl,rfl⟩)) (DT.r rfl rfl rfl (WO.p rfl rfl (WO.nil ⟨rfl,rfl⟩)) (DT.r rfl rfl rfl (WO.indexAddr rfl rfl rfl hY.sl (by omega) rfl (WO.nil ⟨rfl,rfl⟩)) ?_)))))
  refine' DT.b rfl rfl rfl ?hq ?_
  case hq =>
   refine' WO.load (v:=_) rfl rfl ?hc rfl ?_
   case hc=>((refine hY.cell0 (i:=i) (by omega) 0 ?_;rfl))
   exact WO.nil ⟨rfl,rfl⟩
  refine DT.nil [_,_,_] rfl (WO.updateI Tryz.underlying99 Tryz.underlying3 rfl rfl rfl (by repeat exact .head) (tkL_none hnd (by omega)) ?_)
  rw [tkL_push]
  refine WO.nil ?_
  refine W.drawD 14 [.r 0 [],.b 1 [],.r 2 [],.r 3 [],.r 4 [],.b 5 [],.r 6 [],.r 7 [],.b 8 [],.r 9 [],.r 10 [],.r 11 [],.b 12 [],.b 13 []] [] (A0:=[]) (Sub.refl _) (by kernel_rfl) ?_ ?_
  ·repeat constructor
  refine DT.r rfl rfl rfl (WO.fieldL rfl rfl rfl (WO.nil ⟨rfl,rfl⟩)) (DT.b rfl rfl rfl (WO.loadA rfl rfl (Cells.ownAt (n:=3) (Pick.tail (Pick.tail (Pick.head))) rfl) rfl rfl (WO.nil ⟨rfl,rfl⟩)) (DT.r rfl rfl rfl (WO.p rfl rfl (WO.nil ⟨rfl,rfl⟩)) (DT.r rfl rfl rfl (WO.p rfl rfl (WO.nil ⟨rfl,rfl⟩)) (DT.r rfl rfl rfl (WO.field rfl rfl rfl (WO.nil ⟨rfl,rfl⟩)) ?_))))
  refine' DT.b rfl rfl rfl ?hq ?_
  case hq =>
   refine' WO.load (v:=_) rfl rfl ?hc rfl ?_
   case hc=>((refine RdC.cellAt hT.c (j:=1) ?_;rfl))
   exact WO.nil ⟨rfl,rfl⟩
  refine DT.r rfl rfl rfl (WO.p rfl rfl (WO.nil ⟨rfl,rfl⟩)) ?_
  refine' DT.r rfl rfl rfl ?hq ?_
  case hq =>
   refine' WO.indexAddrZ (n:=_) rfl rfl rfl ?hs ?h00 ?h1 rfl ?_
   case hs=>exact hT.s.sl
   case h00=>omega
   case h1=>(omega)
   exact WO.nil ⟨rfl,rfl⟩
  refine DT.b rfl rfl rfl (WO.loadA rfl rfl (RdF.cellsT hT.s hgi.1 hgi.2 rfl) rfl rfl (WO.nil ⟨rfl,rfl⟩)) (DT.r rfl rfl rfl (WO.p rfl rfl (WO.nil ⟨rfl,rfl⟩)) (DT.r rfl rfl rfl (WO.p rfl rfl (WO.nil ⟨rfl,rfl⟩)) (DT.r rfl rfl rfl (WO.indexAddr rfl rfl rfl hY.sl (by omega) rfl (WO.nil ⟨rfl,rfl⟩)) ?_)))
  refine' DT.b rfl rfl rfl ?hq ?_
  case hq =>
   refine' WO.load (v:=_) rfl rfl ?hc rfl ?_
   case hc=>((refine hY.cell0 (i:=i) (by omega) 0 ?_;rfl))
   exact WO.nil ⟨rfl,rfl⟩
  refine DT.b rfl rfl rfl (WO.callR rfl Tryz.call172 (fun L w hi=>c_by w ((sds rl).getD (g.getD i 0).toNat sd0) (ys.getD i 0) (hsi.up (by omega) (by omega)) (by omega)) rfl (WO.nil ⟨rfl,rfl⟩)) (DT.nil [_,_,_] rfl (WO.buildSl rfl rfl rfl rfl rfl rfl rfl rfl rfl (fun v3=>(WO.callR (r:=sdV (tkS (sds rl) g ys (i+1))) rfl Tryz.call171 (fun L w hi=>by have h:=c_sum w _ [tkS (sds rl) g ys i,byS ((sds rl).getD (g.getD i 0).toNat sd0) (ys.getD i 0)] (RdF.of_ow (e:=101) encSd_ok (by repeat exact .head) hi) (by simp) (all_twoS hti hbi);rw [addS_two] at h;exact h) rfl ?_))))
  refine WO.fieldL rfl rfl rfl (WO.storeP rfl rfl rfl rfl (Pick.tail (Pick.tail (Pick.tail (Pick.head)))) (Nat.le_of_ble_eq_true rfl) rfl (WO.nil (W.region (WO.ar rfl rfl rfl (by unfold in64;omega) rfl (WO.p rfl rfl (WO.nil ?_))))))
  refine' ⟨i+1,?hp,?hmu,⟨rfl,rfl,rfl,rfl,rfl,rfl,rfl,trivial⟩,?hS⟩
  case hS=>repeat (first | exact Sub.nil | refine Sub.cons (by repeat first | exact .head | apply Pick.tail) ?_)
  case hp=>omega
  case hmu=>omega
 ·refine W.exit (blk_same ?_)
  obtain rfl:g.length=i:=by omega
  refine W.sreg (WO.loadA rfl rfl (Cells.own (Pick.tail (Pick.head))) rfl rfl (WO.storeA rfl rfl rfl rfl Pick.head rfl rfl (WO.nil (W.ret ?_))))
  refine fin.ret (Res.one rfl (RV.cell rfl rfl rfl (Cells.own (by repeat exact .head)))) ⟨mb,rfl,fun h hs=>Sub.sat (by repeat (first | exact Sub.nil | refine Sub.cons (by repeat first | exact .head | apply Pick.tail) ?_)) hs⟩
end Go.Proofs.YtfchgmiiicidcaaGreat.Sp
namespace Go.Proofs.YtfchgmiiicidcaaGreat.Sp
open Go Go.TH
attribute [local irreducible] W WO pt
set_option maxRecDepth 10000
set_option maxHeartbeats 1000000
section
variable {P:Program} {C:Cx P} {E:Env} {H:List HP}
variable {ops:Array Oper} {K:KP} {rest:List Oper} {d:Nat} {ty:TypeId} {pos:String} {af:Array Edge} {x y z:Operand} {T:TypeId}
theorem WO.max3 {a b c:Int} {ts:Array TypeId} (hx:ev E x=some (.int .i64 a)) (hy:ev E y=some (.int .i64 b)) (hz:ev E z=some (.int .i64 c)) (hN:Nat.blt d C.N=true)
 (h:WO C ops rest K ((d,.int .i64 (max (max a b) c))::E) H):WO C ops (⟨some d,.call ⟨.builtin .max,#[x,y,z],ts⟩,ty,pos,af,none⟩::rest) K E H :=
 WO.pure _ (by simp) (fun L c w hf _=>by
  simp [execOp,resolve,hf.eval hx,hf.eval hy,hf.eval hz,invoke,builtin,run_max_int3]
  split <;> split <;> omega) hN h
theorem WO.min3 {a b c:Int} {ts:Array TypeId} (hx:ev E x=some (.int .i64 a)) (hy:ev E y=some (.int .i64 b)) (hz:ev E z=some (.int .i64 c)) (hN:Nat.blt d C.N=true)
 (h:WO C ops rest K ((d,.int .i64 (min (min a b) c))::E) H):WO C ops (⟨some d,.call ⟨.builtin .min,#[x,y,z],ts⟩,ty,pos,af,none⟩::rest) K E H :=
 WO.pure _ (by simp) (fun L c w hf _=>by
  simp [execOp,resolve,hf.eval hx,hf.eval hy,hf.eval hz,invoke,builtin,run_min_int3]
  split <;> split <;> omega) hN h
end
theorem eq124 (a b c d e f:Int):EqT Tryz.prog .eql 101 (.agg #[.int .i64 a,.int .i64 b,.int .i64 c]) (.agg #[.int .i64 d,.int .i64 e,.int .i64 f]) (.bool (bl (a=d∧b=e∧c=f))):=by
 intro x y w
 obtain ⟨i,hi⟩:∃ i,Tryz.prog.info? 2=some i:=⟨_,rfl⟩
 have hc:Tryz.prog.cellsOf 2=1:=rfl
 have h:(Op.equalIn 10000 101 (.agg #[.int .i64 a,.int .i64 b,.int .i64 c]) (.agg #[.int .i64 d,.int .i64 e,.int .i64 f])).run Tryz.prog w=.ok (bl (a=d∧b=e∧c=f)) w:=by
  rw [show (10000:Nat)=9999+1 from rfl,run_equalIn_array _ 9999 (t:=101) (e:=2) (n:=3) _ _ rfl hi,hc]
  simp [Op.eqItems,go_sem,List.range,List.range.loop,Tryz.underlying2]
  by_cases h1:a=d <;> by_cases h2:b=e <;> by_cases h3:c=f <;> simp [h1,h2,h3,bl_eq]
 simp [go_sem,Tryz.eqGuardType101,Tryz.underlying101,h]
theorem eq124z (a b:Int):EqT Tryz.prog .eql 101 (.agg #[.int .i64 a,.int .i64 b,.int .i64 0]) (.agg #[.int .i64 0,.int .i64 0,.int .i64 0]) (.bool (bl (a=0∧b=0))):=by
 have h:=eq124 a b 0 0 0 0
 rwa [show bl (a=0∧b=0∧(0:Int)=0)=bl (a=0∧b=0) by rw [bl_eq,bl_eq,decide_eq_decide];simp] at h
abbrev atS (S:List Sd) (g:List Int) (i:Nat):Sd:=S.getD (g.getD i 0).toNat sd0
def fit2 (a b:Sd) (x y:Int):Prop:=crs a b=0∧(addS (byS a x) (byS b y)).a=0∧(addS (byS a x) (byS b y)).b=0
instance (a b:Sd) (x y:Int):Decidable (fit2 a b x y):=by unfold fit2;infer_instance
def zr2 (a b:Sd):Option (List Int):=if fit2 a b (siz b) (siz a) then some [siz b,siz a] else none
def zr3 (a b c:Sd):Option (List Int) :=
 let x:=crs b c
 let y:=crs c a
 let z:=crs a b
 if max (max x y) z<0 then (if 0<min (min (-x) (-y)) (-z) then some [-x,-y,-z] else none)
 else (if 0<min (min x y) z then some [x,y,z] else none)
def zrY (S:List Sd) (g:List Int):Option (List Int) :=
 if g.length=2 then zr2 (atS S g 0) (atS S g 1) else if g.length=3 then zr3 (atS S g 0) (atS S g 1) (atS S g 2) else none
theorem zrY_len {S:List Sd} {g ys:List Int} (h:zrY S g=some ys):ys.length=g.length:=by
 unfold zrY at h
 split at h
 ·rename_i h2
  unfold zr2 at h
  split at h
  ·cases h;exact h2.symm
  ·cases h
 ·split at h
  ·rename_i h3
   unfold zr3 at h
   dsimp only at h
   split at h
   ·split at h
    ·cases h;exact h3.symm
    ·cases h
   ·split at h
    ·cases h;exact h3.symm
    ·cases h
  ·cases h
def zrP (g:List Int) (o:Option (List Int)) (mb:Nat):HP:=fun h=>∀ ys,o=some ys→pt mb (.map (tkL g ys g.length).toArray g.length) h
theorem zrP_some {g ys:List Int} {mb:Nat} {H H':List HP} (p:Pick (pt mb (.map (tkL g ys g.length).toArray g.length)) H H'):∀ h,sat H h→sat (zrP g (some ys) mb::H') h:=fun h hs=>by
 obtain ⟨h1,h2,s,hp,hr⟩:=p.sat hs
 exact ⟨h1,h2,s,fun ys' e=>by cases e;exact hp,hr⟩
theorem zrP_none {g:List Int} {mb:Nat} {H:List HP}:∀ h,sat H h→sat (zrP g none mb::H) h:=fun h hs=>⟨fun _=>none,h,split_none h,fun ys e=>(by cases e),hs⟩
def zrS (S:List Sd) (g:List Int) (o:Option (List Int)):Sd:=match o with
 | some ys=>tkS S g ys g.length
 | none=>sd0
def zrT (o:Option (List Int)):Int:=if o.isSome=true then 1 else 0
abbrev zrV (S:List Sd) (g:List Int) (o:Option (List Int)) (mb:Nat):Value:=mdV (.map (o.map fun _=>mb)) (zrS S g o) (zrT o)
structure Grp (n:Nat) (g:List Int):Prop where
 len:1≤g.length∧g.length≤3
 nd:g.Nodup
 rng:∀ x∈g,0≤x∧x<n
theorem grp_ok {m n:Nat} (hm:m=2∨m=3) {g:List Int} (h:g∈grp m n):Grp n g∧g.length≤m:=by
 obtain ⟨a,_,ha,h⟩:=mem_seg.1 h
 unfold F1 at h
 rcases List.mem_cons.1 h with rfl | h
 ·exact ⟨⟨by simp,by simp,fun x hx=>by simp at hx;omega⟩,by simp;omega⟩
 ·obtain ⟨b,hb1,hb2,h⟩:=mem_seg.1 h
  unfold F2 at h
  rcases List.mem_cons.1 h with rfl | h
  ·exact ⟨⟨by simp,by simp;omega,fun x hx=>by simp at hx;omega⟩,by simp;omega⟩
  ·split at h
   ·obtain ⟨c,hc1,hc2,h⟩:=mem_seg.1 h
    have e:g=[(a:Int),(b:Int),(c:Int)]:=by simpa using h
    subst e
    exact ⟨⟨by simp,by simp;omega,fun x hx=>by simp at hx;omega⟩,by simp;omega⟩
   ·simp at h
section
variable {S:List Sd} {g:List Int}
theorem zrY_2 (h:g.length=2) (f:fit2 (atS S g 0) (atS S g 1) (siz (atS S g 1)) (siz (atS S g 0))):zrY S g=some [siz (atS S g 1),siz (atS S g 0)]:=by unfold zrY zr2;rw [if_pos h,if_pos f]
theorem zrY_2n (h:g.length=2) (f:¬ fit2 (atS S g 0) (atS S g 1) (siz (atS S g 1)) (siz (atS S g 0))):zrY S g=none:=by unfold zrY zr2;rw [if_pos h,if_neg f]
theorem zrY_3p (h:g.length=3) (h1:¬ max (max (crs (atS S g 1) (atS S g 2)) (crs (atS S g 2) (atS S g 0))) (crs (atS S g 0) (atS S g 1))<0) (h2:0<min (min (crs (atS S g 1) (atS S g 2)) (crs (atS S g 2) (atS S g 0))) (crs (atS S g 0) (atS S g 1))):zrY S g=some [crs (atS S g 1) (atS S g 2),crs (atS S g 2) (atS S g 0),crs (atS S g 0) (atS S g 1)]:=by
 unfold zrY zr3;dsimp only;rw [if_neg (by omega),if_pos h,if_neg h1,if_pos h2]
theorem zrY_3pn (h:g.length=3) (h1:¬ max (max (crs (atS S g 1) (atS S g 2)) (crs (atS S g 2) (atS S g 0))) (crs (atS S g 0) (atS S g 1))<0) (h2:¬ 0<min (min (crs (atS S g 1) (atS S g 2)) (crs (atS S g 2) (atS S g 0))) (crs (atS S g 0) (atS S g 1))):zrY S g=none:=by
 unfold zrY zr3;dsimp only;rw [if_neg (by omega),if_pos h,if_neg h1,if_neg h2]
theorem zrY_3n (h:g.length=3) (h1:max (max (crs (atS S g 1) (atS S g 2)) (crs (atS S g 2) (atS S g 0))) (crs (atS S g 0) (atS S g 1))<0) (h2:0<min (min (-(crs (atS S g 1) (atS S g 2))) (-(crs (atS S g 2) (atS S g 0)))) (-(crs (atS S g 0) (atS S g 1)))):zrY S g=some [-(crs (atS S g 1) (atS S g 2)),-(crs (atS S g 2) (atS S g 0)),-(crs (atS S g 0) (atS S g 1))]:=by
 unfold zrY zr3;dsimp only;rw [if_neg (by omega),if_pos h,if_pos h1,if_pos h2]
theorem zrY_1 (h:¬ g.length=2) (h3:¬ g.length=3):zrY S g=none:=by unfold zrY;rw [if_neg h,if_neg h3]
end
theorem y2_bd {x y A:Int} (hx : -A≤x∧x≤A) (hy : -A≤y∧y≤A):∀ z∈[x,y],-A≤z∧z≤A:=fun z hz=>by
 have:z=x∨z=y:=by simpa using hz
 rcases this with rfl | rfl <;> assumption
theorem y3_bd {x y u A:Int} (hx : -A≤x∧x≤A) (hy : -A≤y∧y≤A) (hu : -A≤u∧u≤A):∀ z∈[x,y,u],-A≤z∧z≤A:=fun z hz=>by
 have:z=x∨z=y∨z=u:=by simpa using hz
 rcases this with rfl | rfl | rfl <;> assumption
theorem c_zero (w:World) (p:Addr) (rv sv:Value) (rl:List Rn) (hT:Tbl w.heap.size w p rv sv rl) (hok:OkRs rl) (o:Value) (g:List Int) (hG:RdF encI 1 w.heap.size w o g) (hg:Grp (sds rl).length g) :
 Ct Tryz.prog 192 [.pointer (some p),o].toArray w fun v w'=>∃ Hq,(∃ mb:Nat,v=zrV (sds rl) g (zrY (sds rl) g) mb∧Hq=[zrP g (zrY (sds rl) g) mb])∧Inv w [] Hq w':=by
 refine Ct.ofI mixed tyTab Tryz.func192 rfl rfl ?_
 replace hG:RdF encI 1 (fnCx mixed tyTab Tryz.f192.ntmps w).B (fnCx mixed tyTab Tryz.f192.ntmps w).w0 o g:=hG
 replace hT:Tbl (fnCx mixed tyTab Tryz.f192.ntmps w).B (fnCx mixed tyTab Tryz.f192.ntmps w).w0 p rv sv rl:=hT
 have hS:=sds_ok hok
 have hgn:=hg.len
 have hat:∀ i,i<g.length→OkS 20 100000 (atS (sds rl) g i):=fun i hi=>hS _ (getD_mem (show (g.getD i 0).toNat<(sds rl).length by have:=hg.rng _ (getD_mem hi 0);omega) sd0)
 have hri:∀ i,i<g.length→0≤g.getD i 0∧g.getD i 0<(sds rl).length:=fun i hi=>hg.rng _ (getD_mem hi 0)
 refine W.sreg (WO.alloc rfl rfl rfl (fun b1 hb1=>(WO.nil (W.seq (W.sreg (WO.p rfl rfl (WO.len rfl rfl hG.sl rfl (WO.nil (W.block (W.sreg (WO.p rfl rfl (WO.p rfl rfl (WO.nil ?_)))))))))))))
 refine W.cond_bl rfl (fun c1=>?_) (fun c1=>?_)
 ·refine W.seq ?_
  have h0:=hri 0 (by omega)
  have h1:=hri 1 (by omega)
  have s0:=hat 0 (by omega)
  have s1:=hat 1 (by omega)
  have z0:=siz_bd s0
  have z1:=siz_bd s1
  have u0:=s0.up (A':=20) (B':=1000000) (by omega) (by omega)
  have u1:=s1.up (A':=20) (B':=1000000) (by omega) (by omega)
  have v0:=(OkS.by_ s0 (n:=siz (atS (sds rl) g 1)) (N:=40) (by omega)).up (A':=1000000000000000) (B':=1000000000000000) (by omega) (by omega)
  have v1:=(OkS.by_ s1 (n:=siz (atS (sds rl) g 0)) (N:=40) (by omega)).up (A':=1000000000000000) (B':=1000000000000000) (by omega) (by omega)
  refine W.drawD 21 [.r 0 [],.r 1 [],.r 2 [],.b 3 [],.r 4 [],.r 5 [],.b 6 [],.r 7 [],.b 8 [],.r 9 [],.r 10 [],.r 11 [],.b 12 [],.r 13 [],.r 14 [],.b 15 [],.r 16 [],.b 17 [],.a 18 5 (.cells #[.int .i64 0,.int .i64 0,.int .i64 0] 101 (0,0)),.a 19 6 (.cells #[.int .i64 0,.int .i64 0,.int .i64 0] 101 (0,0)),.s 20 []] [] (A0:=[]) (Sub.refl _) (by kernel_rfl) ?_ ?_
  ·exact (ALok.r (ALok.r (ALok.r (ALok.b (ALok.r (ALok.r (ALok.b (ALok.r (ALok.b (ALok.r (ALok.r (ALok.r (ALok.b (ALok.r (ALok.r (ALok.b (ALok.r (ALok.b (ALok.cons rfl rfl rfl rfl rfl (ALok.cons rfl rfl rfl rfl rfl (ALok.s ALok.nil)))))))))))))))))))))
  refine DT.r rfl rfl rfl (WO.p rfl rfl (WO.nil ⟨rfl,rfl⟩)) (DT.r rfl rfl rfl (WO.p rfl rfl (WO.nil ⟨rfl,rfl⟩)) (DT.r rfl rfl rfl (WO.field rfl rfl rfl (WO.nil ⟨rfl,rfl⟩)) ?_))
  refine' DT.b rfl rfl rfl ?hq ?_
  case hq =>
   refine' WO.load (v:=_) rfl rfl ?hc rfl ?_
   case hc=>((refine RdC.cellAt hT.c (j:=1) ?_;rfl))
   exact WO.nil ⟨rfl,rfl⟩
  refine DT.r rfl rfl rfl (WO.p rfl rfl (WO.nil ⟨rfl,rfl⟩)) (DT.r rfl rfl rfl (WO.indexAddr (i:=0) rfl rfl rfl hG.sl (by omega) rfl (WO.nil ⟨rfl,rfl⟩)) ?_)
  refine' DT.b rfl rfl rfl ?hq ?_
  case hq =>
   refine' WO.load (v:=_) rfl rfl ?hc rfl ?_
   case hc=>((refine hG.cell0 (i:=0) (by omega) 0 ?_;rfl))
   exact WO.nil ⟨rfl,rfl⟩
  refine' DT.r rfl rfl rfl ?hq ?_
  case hq =>
   refine' WO.indexAddrZ (n:=_) rfl rfl rfl ?hs ?h00 ?h1 rfl ?_
   case hs=>exact hT.s.sl
   case h00=>omega
   case h1=>(omega)
   exact WO.nil ⟨rfl,rfl⟩
  refine DT.b rfl rfl rfl (WO.loadA rfl rfl (RdF.cellsT hT.s h0.1 h0.2 rfl) rfl rfl (WO.nil ⟨rfl,rfl⟩)) (DT.r rfl rfl rfl (WO.p rfl rfl (WO.nil ⟨rfl,rfl⟩)) (DT.r rfl rfl rfl (WO.p rfl rfl (WO.nil ⟨rfl,rfl⟩)) (DT.r rfl rfl rfl (WO.field rfl rfl rfl (WO.nil ⟨rfl,rfl⟩)) ?_)))
  refine' DT.b rfl rfl rfl ?hq ?_
  case hq =>
   refine' WO.load (v:=_) rfl rfl ?hc rfl ?_
   case hc=>((refine RdC.cellAt hT.c (j:=1) ?_;rfl))
   exact WO.nil ⟨rfl,rfl⟩
  refine DT.r rfl rfl rfl (WO.p rfl rfl (WO.nil ⟨rfl,rfl⟩)) (DT.r rfl rfl rfl (WO.indexAddr (i:=1) rfl rfl rfl hG.sl (by omega) rfl (WO.nil ⟨rfl,rfl⟩)) ?_)
  refine' DT.b rfl rfl rfl ?hq ?_
  case hq =>
   refine' WO.load (v:=_) rfl rfl ?hc rfl ?_
   case hc=>((refine hG.cell0 (i:=1) (by omega) 0 ?_;rfl))
   exact WO.nil ⟨rfl,rfl⟩
  refine' DT.r rfl rfl rfl ?hq ?_
  case hq =>
   refine' WO.indexAddrZ (n:=_) rfl rfl rfl ?hs ?h00 ?h1 rfl ?_
   case hs=>exact hT.s.sl
   case h00=>omega
   case h1=>(omega)
   exact WO.nil ⟨rfl,rfl⟩
  refine DT.b rfl rfl rfl (WO.loadA rfl rfl (RdF.cellsT hT.s h1.1 h1.2 rfl) rfl rfl (WO.nil ⟨rfl,rfl⟩)) (DT.a (fun b2=>(DT.a (fun b3=>(DT.s [_,_,_] rfl rfl rfl (WO.storeA rfl rfl rfl rfl (Pick.tail (Pick.head)) rfl rfl ?_))))))
  refine WO.nil ⟨[_,_],rfl,rfl,(Keep.a (Keep.a (Keep.b (Keep.r (Keep.b (Keep.r (Keep.r (Keep.b (Keep.r (Keep.r (Keep.r (Keep.b (Keep.r (Keep.b (Keep.r (Keep.r (Keep.b (Keep.r (Keep.r (Keep.r Keep.nil)))))))))))))))))))),?_⟩
  refine DT.nil [_,_,_] rfl (WO.storeA rfl rfl rfl rfl (Pick.tail (Pick.head)) rfl rfl (WO.nil (W.seq ?_)))
  refine W.drawD 3 [.b 0 [],.b 1 [],.b 2 []] [] (A0:=[]) (Sub.refl _) (by kernel_rfl) ?_ ?_
  ·repeat constructor
  refine DT.b rfl rfl rfl (WO.loadA rfl rfl (Cells.own Pick.head) rfl rfl (WO.nil ⟨rfl,rfl⟩)) (DT.b rfl rfl rfl (WO.callR rfl Tryz.call193 (fun L w hi=>c_size w (atS (sds rl) g 1) u1) rfl (WO.nil ⟨rfl,rfl⟩)) (DT.b rfl rfl rfl (WO.loadA rfl rfl (Cells.own (Pick.tail (Pick.head))) rfl rfl (WO.nil ⟨rfl,rfl⟩)) (DT.nil [_,_,_] rfl (WO.callR rfl Tryz.call193 (fun L w hi=>c_size w (atS (sds rl) g 0) u0) rfl (WO.p rfl rfl (WO.p rfl rfl (WO.nil (W.seq ?_))))))))
  refine W.drawD 15 [.b 0 [],.b 1 [],.b 2 [],.r 3 [],.r 4 [],.b 5 [],.r 6 [],.b 7 [],.b 8 [],.r 9 [],.b 10 [],.r 14 [],.c 11 [],.f 12 [],.b 13 []] [] (A0:=[]) (Sub.refl _) (by kernel_rfl) ?_ ?_
  ·repeat constructor
  refine DT.b rfl rfl rfl (WO.loadA rfl rfl (Cells.own (Pick.tail (Pick.head))) rfl rfl (WO.nil ⟨rfl,rfl⟩)) (DT.b rfl rfl rfl (WO.loadA rfl rfl (Cells.own Pick.head) rfl rfl (WO.nil ⟨rfl,rfl⟩)) (DT.b rfl rfl rfl (WO.callR rfl Tryz.call194 (fun L w hi=>c_cross w (atS (sds rl) g 0) (atS (sds rl) g 1) u0 u1) rfl (WO.nil ⟨rfl,rfl⟩)) (DT.r rfl rfl rfl (WO.p rfl rfl (WO.nil ⟨rfl,rfl⟩)) ?_)))
  refine DT.rB rfl rfl rfl (WO.p rfl rfl (WO.nil ⟨rfl,rfl⟩)) (fun c2=>?_) (fun c2=>?_)
  ·refine DT.b rfl rfl rfl (WO.go' rfl (WO.loadA rfl rfl (Cells.own (Pick.tail (Pick.head))) rfl rfl (WO.nil ⟨rfl,rfl⟩))) (DT.r rfl rfl rfl (WO.pg rfl rfl rfl (WO.nil ⟨rfl,rfl⟩)) (DT.b rfl rfl rfl (WO.go' rfl (WO.callR rfl Tryz.call172 (fun L w hi=>c_by w (atS (sds rl) g 0) (siz (atS (sds rl) g 1)) (s0.up (by omega) (by omega)) (by omega)) rfl (WO.nil ⟨rfl,rfl⟩))) (DT.b rfl rfl rfl (WO.go' rfl (WO.loadA rfl rfl (Cells.own Pick.head) rfl rfl (WO.nil ⟨rfl,rfl⟩))) (DT.r rfl rfl rfl (WO.pg rfl rfl rfl (WO.nil ⟨rfl,rfl⟩)) ?_))))
   refine DT.b rfl rfl rfl (WO.go' rfl (WO.callR rfl Tryz.call172 (fun L w hi=>c_by w (atS (sds rl) g 1) (siz (atS (sds rl) g 0)) (s1.up (by omega) (by omega)) (by omega)) rfl (WO.nil ⟨rfl,rfl⟩))) (DT.r rfl rfl rfl (WO.go' rfl (WO.build rfl rfl rfl rfl rfl (WO.nil ⟨rfl,rfl⟩))) (DT.c [_,_,_] rfl rfl rfl rfl (WO.go' rfl (WO.buildSl rfl rfl rfl rfl rfl rfl rfl rfl rfl (fun v4=>?_)))))
   refine WO.nil ⟨_,[_],rfl,rfl,(Keep.r (Keep.b (Keep.r (Keep.b (Keep.b (Keep.r (Keep.b (Keep.r (Keep.r (Keep.b (Keep.b (Keep.b Keep.nil)))))))))))),?_⟩
   refine DT.f [_,_,_,_] rfl rfl rfl rfl (WO.go' rfl (WO.callR (r:=sdV (addS (byS (atS (sds rl) g 0) (siz (atS (sds rl) g 1))) (byS (atS (sds rl) g 1) (siz (atS (sds rl) g 0))))) rfl Tryz.call171 (fun L w hi=>by have h:=c_sum w _ [byS (atS (sds rl) g 0) (siz (atS (sds rl) g 1)),byS (atS (sds rl) g 1) (siz (atS (sds rl) g 0))] (RdF.of_ow (e:=101) encSd_ok (by repeat exact .head) hi) (by simp) (all_twoS v0 v1);rw [addS_two] at h;exact h) rfl (WO.nil ⟨rfl,rfl⟩))) (DT.b rfl rfl rfl (WO.go' rfl (WO.callR rfl Tryz.call173 (fun L w hi=>c_flat w _) rfl (WO.nil ⟨rfl,rfl⟩))) (DT.nil [_,_,_,_] rfl (WO.go' rfl ?_)))
   refine WO.eqT rfl rfl (eq124z (addS (byS (atS (sds rl) g 0) (siz (atS (sds rl) g 1))) (byS (atS (sds rl) g 1) (siz (atS (sds rl) g 0)))).a (addS (byS (atS (sds rl) g 0) (siz (atS (sds rl) g 1))) (byS (atS (sds rl) g 1) (siz (atS (sds rl) g 0)))).b) rfl (WO.p rfl rfl (WO.nil ?_))
   refine W.cond_bl rfl (fun c3=>?_) (fun c3=>?_)
   ·refine W.sreg (WO.p rfl rfl (WO.p rfl rfl (WO.p rfl rfl (WO.p rfl rfl (WO.buildSl rfl rfl rfl rfl rfl rfl rfl rfl rfl (fun v5=>?_))))))
    refine WO.call (Post:=fun v Hq=>∃ mb:Nat,v=mdV (.map (some mb)) (tkS (sds rl) g [siz (atS (sds rl) g 1),siz (atS (sds rl) g 0)] g.length) 1∧Hq=[pt mb (.map (tkL g [siz (atS (sds rl) g 1),siz (atS (sds rl) g 0)] g.length).toArray g.length)]) rfl Tryz.call195 (fun L w hi=>c_take w p rv sv rl (hT.later hi) hok o _ g _ 1 (hG.later hi) (RdF.of_ow (e:=2) (xs:=[siz (atS (sds rl) g 1),siz (atS (sds rl) g 0)]) encI_ok (by repeat exact .head) hi) hg.rng hg.nd (by show 2=_;omega) hg.len.2 (y2_bd (by omega) (by omega))) rfl ?_
    rintro _ _ ⟨mb,rfl,rfl⟩
    refine WO.storeA rfl rfl rfl rfl (Pick.tail (Pick.tail (Pick.tail (Pick.tail (Pick.tail (Pick.head)))))) rfl rfl (WO.nil (W.ret ?_))
    (have e:=zrY_2 (S:=sds rl) (g:=g) (by omega) ⟨by assumption,by assumption⟩;exact fin.ret (Res.one rfl (RV.cell rfl rfl rfl (Cells.own (by repeat exact .head)))) ⟨mb,by rw [e];rfl,by rw [e];exact fun h hs=>Sub.sat (.cons .head .nil) (zrP_some (by repeat first | exact .head | apply Pick.tail) h hs)⟩)
   ·refine W.skip (W.sreg (WO.build rfl rfl rfl rfl rfl (WO.storeA rfl rfl rfl rfl (Pick.tail (Pick.tail (Pick.tail (Pick.head)))) rfl rfl (WO.nil (W.ret ?_)))))
    (have e:=zrY_2n (S:=sds rl) (g:=g) (by omega) (fun q=>by exact absurd q.2 (by assumption));exact fin.ret (Res.one rfl (RV.cell rfl rfl rfl (Cells.own (by repeat exact .head)))) ⟨0,by rw [e];rfl,by rw [e];exact fun h hs=>Sub.sat (.cons .head .nil) (zrP_none h hs)⟩)
  ·refine DT.b rfl rfl rfl (WO.no rfl rfl (WO.nil ⟨rfl,rfl⟩)) (DT.r rfl rfl rfl (WO.no rfl rfl (WO.nil ⟨rfl,rfl⟩)) (DT.b rfl rfl rfl (WO.no rfl rfl (WO.nil ⟨rfl,rfl⟩)) (DT.b rfl rfl rfl (WO.no rfl rfl (WO.nil ⟨rfl,rfl⟩)) (DT.r rfl rfl rfl (WO.no rfl rfl (WO.nil ⟨rfl,rfl⟩)) (DT.b rfl rfl rfl (WO.no rfl rfl (WO.nil ⟨rfl,rfl⟩)) (DT.r rfl rfl rfl (WO.no rfl rfl (WO.nil ⟨rfl,rfl⟩)) (DT.c [_,_,_] rfl rfl rfl rfl (WO.no rfl rfl ?_))))))))
   refine WO.nil ⟨_,[],rfl,rfl,(Keep.r (Keep.b (Keep.r (Keep.b (Keep.b (Keep.r (Keep.b (Keep.r (Keep.r (Keep.b (Keep.b (Keep.b Keep.nil)))))))))))),?_⟩
   refine DT.f [_,_,_] rfl rfl rfl rfl (WO.no rfl rfl (WO.nil ⟨rfl,rfl⟩)) (DT.b rfl rfl rfl (WO.no rfl rfl (WO.nil ⟨rfl,rfl⟩)) (DT.nil [_,_,_] rfl (WO.no rfl rfl (WO.p rfl rfl (WO.nil (W.cond_f rfl (W.skip (W.sreg (WO.build rfl rfl rfl rfl rfl (WO.storeA rfl rfl rfl rfl (Pick.tail (Pick.tail (Pick.head))) rfl rfl (WO.nil (W.ret ?_))))))))))))
   (have e:=zrY_2n (S:=sds rl) (g:=g) (by omega) (fun q=>by exact absurd q.1 (by assumption));exact fin.ret (Res.one rfl (RV.cell rfl rfl rfl (Cells.own (by repeat exact .head)))) ⟨0,by rw [e];rfl,by rw [e];exact fun h hs=>Sub.sat (.cons .head .nil) (zrP_none h hs)⟩)
 ·refine W.sreg (WO.p rfl rfl (WO.p rfl rfl (WO.nil ?_)))
  refine W.cond_bl rfl (fun c4=>?_) (fun c4=>?_)
  ·refine W.seq ?_
   have h0:=hri 0 (by omega)
   have h1:=hri 1 (by omega)
   have h2:=hri 2 (by omega)
   have s0:=hat 0 (by omega)
   have s1:=hat 1 (by omega)
   have s2:=hat 2 (by omega)
   have u0:=s0.up (A':=20) (B':=1000000) (by omega) (by omega)
   have u1:=s1.up (A':=20) (B':=1000000) (by omega) (by omega)
   have u2:=s2.up (A':=20) (B':=1000000) (by omega) (by omega)
   have d0:=(crs_bd s1 s2).2.2
   have d1:=(crs_bd s2 s0).2.2
   have d2:=(crs_bd s0 s1).2.2
   refine W.drawD 32 [.r 0 [],.r 1 [],.r 2 [],.b 3 [],.r 4 [],.r 5 [],.b 6 [],.r 7 [],.b 8 [],.r 9 [],.r 10 [],.r 11 [],.b 12 [],.r 13 [],.r 14 [],.b 15 [],.r 16 [],.b 17 [],.r 18 [],.r 19 [],.r 20 [],.b 21 [],.r 22 [],.r 23 [],.b 24 [],.r 25 [],.b 26 [],.a 27 9 (.cells #[.int .i64 0,.int .i64 0,.int .i64 0] 101 (0,0)),.a 28 10 (.cells #[.int .i64 0,.int .i64 0,.int .i64 0] 101 (0,0)),.a 29 11 (.cells #[.int .i64 0,.int .i64 0,.int .i64 0] 101 (0,0)),.s 30 [],.s 31 []] [] (A0:=[]) (Sub.refl _) (by kernel_rfl) ?_ ?_
   ·exact (ALok.r (ALok.r (ALok.r (ALok.b (ALok.r (ALok.r (ALok.b (ALok.r (ALok.b (ALok.r (ALok.r (ALok.r (ALok.b (ALok.r (ALok.r (ALok.b (ALok.r (ALok.b (ALok.r (ALok.r (ALok.r (ALok.b (ALok.r (ALok.r (ALok.b (ALok.r (ALok.b (ALok.cons rfl rfl rfl rfl rfl (ALok.cons rfl rfl rfl rfl rfl (ALok.cons rfl rfl rfl rfl rfl (ALok.s (ALok.s ALok.nil))))))))))))))))))))))))))))))))
   refine DT.r rfl rfl rfl (WO.p rfl rfl (WO.nil ⟨rfl,rfl⟩)) (DT.r rfl rfl rfl (WO.p rfl rfl (WO.nil ⟨rfl,rfl⟩)) (DT.r rfl rfl rfl (WO.field rfl rfl rfl (WO.nil ⟨rfl,rfl⟩)) ?_))
   refine' DT.b rfl rfl rfl ?hq ?_
   case hq =>
    refine' WO.load (v:=_) rfl rfl ?hc rfl ?_
    case hc=>((refine RdC.cellAt hT.c (j:=1) ?_;rfl))
    exact WO.nil ⟨rfl,rfl⟩
   refine DT.r rfl rfl rfl (WO.p rfl rfl (WO.nil ⟨rfl,rfl⟩)) (DT.r rfl rfl rfl (WO.indexAddr (i:=0) rfl rfl rfl hG.sl (by omega) rfl (WO.nil ⟨rfl,rfl⟩)) ?_)
   refine' DT.b rfl rfl rfl ?hq ?_
   case hq =>
    refine' WO.load (v:=_) rfl rfl ?hc rfl ?_
    case hc=>((refine hG.cell0 (i:=0) (by omega) 0 ?_;rfl))
    exact WO.nil ⟨rfl,rfl⟩
   refine' DT.r rfl rfl rfl ?hq ?_
   case hq =>
    refine' WO.indexAddrZ (n:=_) rfl rfl rfl ?hs ?h00 ?h1 rfl ?_
    case hs=>exact hT.s.sl
    case h00=>omega
    case h1=>(omega)
    exact WO.nil ⟨rfl,rfl⟩
   refine DT.b rfl rfl rfl (WO.loadA rfl rfl (RdF.cellsT hT.s h0.1 h0.2 rfl) rfl rfl (WO.nil ⟨rfl,rfl⟩)) (DT.r rfl rfl rfl (WO.p rfl rfl (WO.nil ⟨rfl,rfl⟩)) (DT.r rfl rfl rfl (WO.p rfl rfl (WO.nil ⟨rfl,rfl⟩)) (DT.r rfl rfl rfl (WO.field rfl rfl rfl (WO.nil ⟨rfl,rfl⟩)) ?_)))
   refine' DT.b rfl rfl rfl ?hq ?_
   case hq =>
    refine' WO.load (v:=_) rfl rfl ?hc rfl ?_
    case hc=>((refine RdC.cellAt hT.c (j:=1) ?_;rfl))
    exact WO.nil ⟨rfl,rfl⟩
   refine DT.r rfl rfl rfl (WO.p rfl rfl (WO.nil ⟨rfl,rfl⟩)) (DT.r rfl rfl rfl (WO.indexAddr (i:=1) rfl rfl rfl hG.sl (by omega) rfl (WO.nil ⟨rfl,rfl⟩)) ?_)
   refine' DT.b rfl rfl rfl ?hq ?_
   case hq =>
    refine' WO.load (v:=_) rfl rfl ?hc rfl ?_
    case hc=>((refine hG.cell0 (i:=1) (by omega) 0 ?_;rfl))
    exact WO.nil ⟨rfl,rfl⟩
   refine' DT.r rfl rfl rfl ?hq ?_
   case hq =>
    refine' WO.indexAddrZ (n:=_) rfl rfl rfl ?hs ?h00 ?h1 rfl ?_
    case hs=>exact hT.s.sl
    case h00=>omega
    case h1=>(omega)
    exact WO.nil ⟨rfl,rfl⟩
   refine DT.b rfl rfl rfl (WO.loadA rfl rfl (RdF.cellsT hT.s h1.1 h1.2 rfl) rfl rfl (WO.nil ⟨rfl,rfl⟩)) (DT.r rfl rfl rfl (WO.p rfl rfl (WO.nil ⟨rfl,rfl⟩)) (DT.r rfl rfl rfl (WO.p rfl rfl (WO.nil ⟨rfl,rfl⟩)) (DT.r rfl rfl rfl (WO.field rfl rfl rfl (WO.nil ⟨rfl,rfl⟩)) ?_)))
   refine' DT.b rfl rfl rfl ?hq ?_
   case hq =>
    refine' WO.load (v:=_) rfl rfl ?hc rfl ?_
    case hc=>((refine RdC.cellAt hT.c (j:=1) ?_;rfl))
    exact WO.nil ⟨rfl,rfl⟩
   refine DT.r rfl rfl rfl (WO.p rfl rfl (WO.nil ⟨rfl,rfl⟩)) (DT.r rfl rfl rfl (WO.indexAddr (i:=2) rfl rfl rfl hG.sl (by omega) rfl (WO.nil ⟨rfl,rfl⟩)) ?_)
   refine' DT.b rfl rfl rfl ?hq ?_
   case hq =>
    refine' WO.load (v:=_) rfl rfl ?hc rfl ?_
    case hc=>((refine hG.cell0 (i:=2) (by omega) 0 ?_;rfl))
    exact WO.nil ⟨rfl,rfl⟩
   refine' DT.r rfl rfl rfl ?hq ?_
   case hq =>
    refine' WO.indexAddrZ (n:=_) rfl rfl rfl ?hs ?h00 ?h1 rfl ?_
    case hs=>exact hT.s.sl
    case h00=>omega
    case h1=>(omega)
    exact WO.nil ⟨rfl,rfl⟩
   refine DT.b rfl rfl rfl (WO.loadA rfl rfl (RdF.cellsT hT.s h2.1 h2.2 rfl) rfl rfl (WO.nil ⟨rfl,rfl⟩)) (DT.a (fun b6=>(DT.a (fun b7=>(DT.a (fun b8=>(DT.s [_,_,_,_] rfl rfl rfl (WO.storeA rfl rfl rfl rfl (Pick.tail (Pick.tail (Pick.head))) rfl rfl ?_))))))))
   refine WO.nil ⟨[_,_,_],rfl,rfl,(Keep.a (Keep.a (Keep.a (Keep.b (Keep.r (Keep.b (Keep.r (Keep.r (Keep.b (Keep.r (Keep.r (Keep.r (Keep.b (Keep.r (Keep.b (Keep.r (Keep.r (Keep.b (Keep.r (Keep.r (Keep.r (Keep.b (Keep.r (Keep.b (Keep.r (Keep.r (Keep.b (Keep.r (Keep.r (Keep.r Keep.nil)))))))))))))))))))))))))))))),?_⟩
   refine DT.s [_,_,_,_] rfl rfl rfl (WO.storeA rfl rfl rfl rfl (Pick.tail (Pick.tail (Pick.head))) rfl rfl ?_)
   refine WO.nil ⟨[_,_,_],rfl,rfl,(Keep.s (Keep.a (Keep.a (Keep.a (Keep.b (Keep.r (Keep.b (Keep.r (Keep.r (Keep.b (Keep.r (Keep.r (Keep.r (Keep.b (Keep.r (Keep.b (Keep.r (Keep.r (Keep.b (Keep.r (Keep.r (Keep.r (Keep.b (Keep.r (Keep.b (Keep.r (Keep.r (Keep.b (Keep.r (Keep.r (Keep.r Keep.nil))))))))))))))))))))))))))))))),?_⟩
   refine DT.nil [_,_,_,_] rfl (WO.storeA rfl rfl rfl rfl (Pick.tail (Pick.tail (Pick.head))) rfl rfl (WO.nil (W.seq ?_)))
   refine W.drawD 8 [.b 0 [],.b 1 [],.b 2 [],.b 3 [],.b 4 [],.b 5 [],.b 6 [],.b 7 []] [] (A0:=[]) (Sub.refl _) (by kernel_rfl) ?_ ?_
   ·repeat constructor
   refine DT.b rfl rfl rfl (WO.loadA rfl rfl (Cells.own (Pick.tail (Pick.head))) rfl rfl (WO.nil ⟨rfl,rfl⟩)) (DT.b rfl rfl rfl (WO.loadA rfl rfl (Cells.own Pick.head) rfl rfl (WO.nil ⟨rfl,rfl⟩)) (DT.b rfl rfl rfl (WO.callR rfl Tryz.call194 (fun L w hi=>c_cross w (atS (sds rl) g 1) (atS (sds rl) g 2) u1 u2) rfl (WO.nil ⟨rfl,rfl⟩)) (DT.b rfl rfl rfl (WO.loadA rfl rfl (Cells.own Pick.head) rfl rfl (WO.nil ⟨rfl,rfl⟩)) (DT.b rfl rfl rfl (WO.loadA rfl rfl (Cells.own (Pick.tail (Pick.tail (Pick.head)))) rfl rfl (WO.nil ⟨rfl,rfl⟩)) (DT.b rfl rfl rfl (WO.callR rfl Tryz.call194 (fun L w hi=>c_cross w (atS (sds rl) g 2) (atS (sds rl) g 0) u2 u0) rfl (WO.nil ⟨rfl,rfl⟩)) ?_)))))
   refine DT.b rfl rfl rfl (WO.loadA rfl rfl (Cells.own (Pick.tail (Pick.tail (Pick.head)))) rfl rfl (WO.nil ⟨rfl,rfl⟩)) (DT.b rfl rfl rfl (WO.loadA rfl rfl (Cells.own (Pick.tail (Pick.head))) rfl rfl (WO.nil ⟨rfl,rfl⟩)) (DT.nil [_,_,_,_] rfl (WO.callR rfl Tryz.call194 (fun L w hi=>c_cross w (atS (sds rl) g 0) (atS (sds rl) g 1) u0 u1) rfl (WO.p rfl rfl (WO.p rfl rfl (WO.p rfl rfl (WO.nil (W.seq (W.sreg (WO.p rfl rfl (WO.p rfl rfl (WO.p rfl rfl (WO.max3 rfl rfl rfl rfl (WO.p rfl rfl (WO.nil ?_)))))))))))))))
   refine W.cond_bl rfl (fun c5=>?_) (fun c5=>?_)
   ·have hneg:=trivial
    refine W.region (WO.p rfl rfl (WO.neg rfl (by unfold in64;omega) rfl (WO.p rfl rfl (WO.neg rfl (by unfold in64;omega) rfl (WO.p rfl rfl (WO.neg rfl (by unfold in64;omega) rfl (WO.p rfl rfl (WO.p rfl rfl (WO.p rfl rfl (WO.nil (W.sreg (WO.p rfl rfl (WO.p rfl rfl (WO.p rfl rfl (WO.min3 rfl rfl rfl rfl (WO.p rfl rfl (WO.nil ?_)))))))))))))))))
    refine W.cond_bl rfl (fun c6=>?_) (fun c6=>?_)
    ·refine W.sreg (WO.p rfl rfl (WO.p rfl rfl (WO.p rfl rfl (WO.p rfl rfl (WO.p rfl rfl (WO.buildSl rfl rfl rfl rfl rfl rfl rfl rfl rfl (fun v9=>?_)))))))
     (have q:=hneg;refine WO.call (Post:=fun v Hq=>∃ mb:Nat,v=mdV (.map (some mb)) (tkS (sds rl) g [-crs (atS (sds rl) g 1) (atS (sds rl) g 2),-crs (atS (sds rl) g 2) (atS (sds rl) g 0),-crs (atS (sds rl) g 0) (atS (sds rl) g 1)] g.length) 1∧Hq=[pt mb (.map (tkL g [-crs (atS (sds rl) g 1) (atS (sds rl) g 2),-crs (atS (sds rl) g 2) (atS (sds rl) g 0),-crs (atS (sds rl) g 0) (atS (sds rl) g 1)] g.length).toArray g.length)]) rfl Tryz.call195 (fun L w hi=>c_take w p rv sv rl (hT.later hi) hok o _ g _ 1 (hG.later hi) (RdF.of_ow (e:=2) (xs:=[-crs (atS (sds rl) g 1) (atS (sds rl) g 2),-crs (atS (sds rl) g 2) (atS (sds rl) g 0),-crs (atS (sds rl) g 0) (atS (sds rl) g 1)]) encI_ok (by repeat exact .head) hi) hg.rng hg.nd (by show 3=_;omega) hg.len.2 (y3_bd (by omega) (by omega) (by omega))) rfl ?_)
     rintro _ _ ⟨mb,rfl,rfl⟩
     refine WO.storeA rfl rfl rfl rfl (Pick.tail (Pick.tail (Pick.tail (Pick.tail (Pick.tail (Pick.head)))))) rfl rfl (WO.nil (W.ret ?_))
     (have q:=hneg;have e:=zrY_3n (S:=sds rl) (g:=g) (by omega) (by assumption) (by assumption);exact fin.ret (Res.one rfl (RV.cell rfl rfl rfl (Cells.own (by repeat exact .head)))) ⟨mb,by rw [e];rfl,by rw [e];exact fun h hs=>Sub.sat (.cons .head .nil) (zrP_some (by repeat first | exact .head | apply Pick.tail) h hs)⟩)
    ·exfalso;omega
   ·refine W.skip (W.sreg (WO.p rfl rfl (WO.p rfl rfl (WO.p rfl rfl (WO.min3 rfl rfl rfl rfl (WO.p rfl rfl (WO.nil ?_)))))))
    refine W.cond_bl rfl (fun c7=>?_) (fun c7=>?_)
    ·refine W.sreg (WO.p rfl rfl (WO.p rfl rfl (WO.p rfl rfl (WO.p rfl rfl (WO.p rfl rfl (WO.buildSl rfl rfl rfl rfl rfl rfl rfl rfl rfl (fun v10=>?_)))))))
     (refine WO.call (Post:=fun v Hq=>∃ mb:Nat,v=mdV (.map (some mb)) (tkS (sds rl) g [crs (atS (sds rl) g 1) (atS (sds rl) g 2),crs (atS (sds rl) g 2) (atS (sds rl) g 0),crs (atS (sds rl) g 0) (atS (sds rl) g 1)] g.length) 1∧Hq=[pt mb (.map (tkL g [crs (atS (sds rl) g 1) (atS (sds rl) g 2),crs (atS (sds rl) g 2) (atS (sds rl) g 0),crs (atS (sds rl) g 0) (atS (sds rl) g 1)] g.length).toArray g.length)]) rfl Tryz.call195 (fun L w hi=>c_take w p rv sv rl (hT.later hi) hok o _ g _ 1 (hG.later hi) (RdF.of_ow (e:=2) (xs:=[crs (atS (sds rl) g 1) (atS (sds rl) g 2),crs (atS (sds rl) g 2) (atS (sds rl) g 0),crs (atS (sds rl) g 0) (atS (sds rl) g 1)]) encI_ok (by repeat exact .head) hi) hg.rng hg.nd (by show 3=_;omega) hg.len.2 (y3_bd (by omega) (by omega) (by omega))) rfl ?_)
     rintro _ _ ⟨mb,rfl,rfl⟩
     refine WO.storeA rfl rfl rfl rfl (Pick.tail (Pick.tail (Pick.tail (Pick.tail (Pick.tail (Pick.head)))))) rfl rfl (WO.nil (W.ret ?_))
     (have e:=zrY_3p (S:=sds rl) (g:=g) (by omega) (by assumption) (by assumption);exact fin.ret (Res.one rfl (RV.cell rfl rfl rfl (Cells.own (by repeat exact .head)))) ⟨mb,by rw [e];rfl,by rw [e];exact fun h hs=>Sub.sat (.cons .head .nil) (zrP_some (by repeat first | exact .head | apply Pick.tail) h hs)⟩)
    ·refine W.skip (W.sreg (WO.build rfl rfl rfl rfl rfl (WO.storeA rfl rfl rfl rfl (Pick.tail (Pick.tail (Pick.tail (Pick.head)))) rfl rfl (WO.nil (W.ret ?_)))))
     (have e:=zrY_3pn (S:=sds rl) (g:=g) (by omega) (by assumption) (by assumption);exact fin.ret (Res.one rfl (RV.cell rfl rfl rfl (Cells.own (by repeat exact .head)))) ⟨0,by rw [e];rfl,by rw [e];exact fun h hs=>Sub.sat (.cons .head .nil) (zrP_none h hs)⟩)
  ·refine W.skip (W.sreg (WO.build rfl rfl rfl rfl rfl (WO.storeA rfl rfl rfl rfl Pick.head rfl rfl (WO.nil (W.ret ?_)))))
   (have e:=zrY_1 (S:=sds rl) (g:=g) (by omega) (by omega);exact fin.ret (Res.one rfl (RV.cell rfl rfl rfl (Cells.own (by repeat exact .head)))) ⟨0,by rw [e];rfl,by rw [e];exact fun h hs=>Sub.sat (.cons .head .nil) (zrP_none h hs)⟩)
end Go.Proofs.YtfchgmiiicidcaaGreat.Sp
namespace Go.Proofs.YtfchgmiiicidcaaGreat.Sp
open Go Go.TH
attribute [local irreducible] W WO pt
set_option maxRecDepth 10000
set_option maxHeartbeats 1000000
theorem fi_ne {α:Type} {p:α→Bool} {xs:List α} {k:Nat} {x:α} (hx:xs[k]?=some x) (hle:k≤xs.findIdx p) (hn:¬ p x=true):k<xs.findIdx p:=by
 rcases Nat.lt_or_ge k (xs.findIdx p) with h | h
 ·exact h
 ·obtain rfl:k=xs.findIdx p:=by omega
  obtain ⟨hl,e⟩:=List.getElem?_eq_some_iff.1 hx
  have:=List.findIdx_getElem (w:=hl)
  rw [e] at this
  exact absurd this hn
theorem fi_eq {α:Type} {p:α→Bool} {xs:List α} {k:Nat} {x:α} (hx:xs[k]?=some x) (hle:k≤xs.findIdx p) (hp:p x=true):k=xs.findIdx p:=by
 rcases Nat.lt_or_ge k (xs.findIdx p) with h | h
 ·have:=List.not_of_lt_findIdx h
  obtain ⟨hl,e⟩:=List.getElem?_eq_some_iff.1 hx
  rw [e] at this
  rw [this] at hp
  cases hp
 ·omega
def dbt (S:List Sd) (g:List Int):Option (List Int):=match zrY S g with
 | some ys=>if (tkS S g ys g.length).a=0∧(tkS S g ys g.length).b=0∧0<(tkS S g ys g.length).c then some ys else none
 | none=>none
theorem dbt_some {S:List Sd} {g:List Int}:(dbt S g).isSome=true↔zrT (zrY S g)=1∧((zrS S g (zrY S g)).a=0∧(zrS S g (zrY S g)).b=0)∧0<(zrS S g (zrY S g)).c:=by
 unfold dbt zrT zrS
 cases zrY S g with
 | none=>simp
 | some ys =>
  dsimp only
  split
  ·rename_i h;simp [h]
  ·rename_i h;simp;omega
theorem dbt_zrY {S:List Sd} {g ys:List Int} (h:dbt S g=some ys):zrY S g=some ys:=by
 unfold dbt at h
 cases hz:zrY S g with
 | none=>rw [hz] at h;cases h
 | some zs =>
  rw [hz] at h
  dsimp only at h
  split at h
  ·exact h
  ·cases h
theorem dbt_def {S:List Sd} {g:List Int} (h:(dbt S g).isSome=true):∃ ys,dbt S g=some ys∧zrY S g=some ys:=by
 obtain ⟨ys,e⟩:=Option.isSome_iff_exists.1 h
 exact ⟨ys,e,dbt_zrY e⟩
abbrev grS (S:List Sd):List (List Int):=grp 3 S.length
def hitD (S:List Sd):Nat:=(grS S).findIdx fun g=>(dbt S g).isSome
abbrev hitG (S:List Sd):List Int:=(grS S).getD (hitD S) []
def Dbt (S:List Sd):Prop:=hitD S<(grS S).length
instance (S:List Sd):Decidable (Dbt S):=by unfold Dbt;infer_instance
theorem Dbt.iff {S:List Sd}:Dbt S↔∃ g∈grS S,(dbt S g).isSome=true:=by
 unfold Dbt hitD
 rw [List.findIdx_lt_length]
theorem Dbt.hit {S:List Sd} (h:Dbt S):hitG S∈grS S∧(dbt S (hitG S)).isSome=true:=by
 have e:hitG S=(grS S)[hitD S]:=by rw [hitG,List.getD_eq_getElem?_getD,List.getElem?_eq_getElem h];rfl
 rw [e]
 exact ⟨List.getElem_mem _,List.findIdx_getElem (w:=h)⟩
def dbS (S:List Sd):Sd:=if Dbt S then zrS S (hitG S) (zrY S (hitG S)) else sd0
def dbT (S:List Sd):Int:=if Dbt S then 1 else 0
def dbQ (S:List Sd) (mb:Nat):Option Nat:=if Dbt S then some mb else none
def dbP (S:List Sd) (mb:Nat):HP:=fun h=>Dbt S→∃ ys,dbt S (hitG S)=some ys∧pt mb (.map (tkL (hitG S) ys (hitG S).length).toArray (hitG S).length) h
def DbR (S:List Sd) (b3 b4:Nat):Option (List Int)→HP
 | none=>sat [pt b3 (.cells #[.map none,.int .i64 0,.int .i64 0,.int .i64 0,.int .i64 0] 103 (0,0)),pt b4 (.cells #[.bool false] 4 (0,0))]
 | some g=>fun h=>∃ (mb:Nat),sat [pt b3 (.cells #[.map (some mb),.int .i64 (zrS S g (zrY S g)).a,.int .i64 (zrS S g (zrY S g)).b,.int .i64 (zrS S g (zrY S g)).c,.int .i64 1] 103 (0,0)),pt b4 (.cells #[.bool true] 4 (0,0)),zrP g (zrY S g) mb] h
section
variable {S:List Sd} {b3 b4:Nat} {g:List Int} {H H' H2:List HP}
theorem dbR_none (p:Pick (pt b3 (.cells #[.map none,.int .i64 0,.int .i64 0,.int .i64 0,.int .i64 0] 103 (0,0))) H H') (q:Pick (pt b4 (.cells #[.bool false] 4 (0,0))) H' H2):∀ h,sat H h→sat (DbR S b3 b4 none::H2) h:=fun h hs =>
 sat_one (Hs:=[_,_]) h (Sub.sat (.cons p (.cons q (Sub.refl _))) hs)
theorem dbR_open (p:Pick (DbR S b3 b4 none) H H'):∀ h,sat H h→sat (pt b3 (.cells #[.map none,.int .i64 0,.int .i64 0,.int .i64 0,.int .i64 0] 103 (0,0))::pt b4 (.cells #[.bool false] 4 (0,0))::H') h:=fun h hs =>
 sat_many (Hs:=[_,_]) h (p.sat hs)
theorem dbR_some (p:Pick (DbR S b3 b4 (some g)) H H'):∀ h,sat H h→∃ mb:Nat,True∧sat (pt b3 (.cells #[.map (some mb),.int .i64 (zrS S g (zrY S g)).a,.int .i64 (zrS S g (zrY S g)).b,.int .i64 (zrS S g (zrY S g)).c,.int .i64 1] 103 (0,0))::pt b4 (.cells #[.bool true] 4 (0,0))::zrP g (zrY S g) mb::H') h:=fun h hs=>by
 obtain ⟨h1,h2,s,⟨v,hp⟩,hr⟩:=p.sat hs
 exact ⟨v,trivial,sat_join (H1:=[_,_,_]) s hp hr⟩
theorem dbR_pack {mb:Nat} {q:Option Nat} {t:Int} {s:Sd} {Hr:List HP} (hq:q=some mb) (hs0:s=zrS S g (zrY S g)) (ht:t=1) (sb:Sub H (pt b3 (.cells #[.map q,.int .i64 s.a,.int .i64 s.b,.int .i64 s.c,.int .i64 t] 103 (0,0))::pt b4 (.cells #[.bool true] 4 (0,0))::zrP g (zrY S g) mb::Hr)):∀ h,sat H h→sat (DbR S b3 b4 (some g)::Hr) h:=fun h hs=>by
 subst hq ht hs0
 obtain ⟨h1,h2,s2,hp,hr⟩:=sat_app (H1:=[_,_,_]) (sb.sat hs)
 exact ⟨h1,h2,s2,⟨mb,hp⟩,hr⟩
theorem dbP_no {mb:Nat} (h:¬ Dbt S):∀ h,sat H h→sat (dbP S mb::H) h:=fun _ hs=>⟨fun _=>none,_,split_none _,fun q=>absurd q h,hs⟩
theorem dbP_yes {mb:Nat} (h:Dbt S) (p:Pick (zrP (hitG S) (zrY S (hitG S)) mb) H H'):∀ h,sat H h→sat (dbP S mb::H') h:=fun hh hs=>by
 obtain ⟨h1,h2,s,hp,hr⟩:=p.sat hs
 obtain ⟨ys,e,ez⟩:=dbt_def h.hit.2
 exact ⟨h1,h2,s,fun _=>⟨ys,e,hp ys ez⟩,hr⟩
end
theorem c_doubt (w:World) (p:Addr) (rv sv:Value) (rl:List Rn) (hT:Tbl w.heap.size w p rv sv rl) (hok:OkRs rl) (hl:rl.length≤12) :
 Ct Tryz.prog 105 [.pointer (some p)].toArray w fun v w'=>∃ Hq,(∃ mb:Nat,v=.tuple #[mdV (.map (dbQ (sds rl) mb)) (dbS (sds rl)) (dbT (sds rl)),.bool (bl (Dbt (sds rl)))]∧Hq=[dbP (sds rl) mb])∧Inv w [] Hq w':=by
 refine Ct.ofI mixed tyTab Tryz.func105 rfl rfl ?_
 replace hT:Tbl (fnCx mixed tyTab Tryz.f105.ntmps w).B (fnCx mixed tyTab Tryz.f105.ntmps w).w0 p rv sv rl:=hT
 have hsl:=sds_len rl
 refine W.sreg (WO.box1 rfl (by rfl) rfl (fun b1 hb1=>(WO.alloc rfl rfl rfl (fun b2 hb2=>(WO.p rfl rfl (WO.nil (W.scope (W.sreg (WO.alloc rfl rfl rfl (fun b3 hb3=>(WO.nil (W.sreg (WO.alloc rfl rfl rfl (fun b4 hb4=>(WO.store1 rfl rfl rfl (by rfl) Pick.head rfl (WO.nil (W.seq (W.label (W.seq (W.sreg (WO.load rfl rfl (Cell.own (Pick.tail (Pick.tail (Pick.tail (Pick.head)))) rfl) rfl ?_)))))))))))))))))))))
 refine WO.call (Post:=fun v Hq=>∃ b1 b2,v=.func (.func 276) #[] #[.pointer (some ⟨b1,0,none⟩),.pointer (some ⟨b2,0,none⟩)]∧Hq=[pt b2 (.cells #[.int .i64 3] 3 (0,0)),pt b1 (.cells #[.pointer (some p)] 186 (0,0))]) rfl Tryz.call191 (fun L w hi=>c_groups w p 3) rfl ?_
 rintro _ _ ⟨b5,b6,rfl,rfl⟩
 refine WO.nil (W.block (W.chg (dbR_none (S:=sds rl) (b3:=b3) (b4:=b4) (by repeat first | exact .head | apply Pick.tail) (by repeat first | exact .head | apply Pick.tail)) ?_))
 refine W.rangeFuncB (Jmp.exit 0) [pt b6 (.cells #[.int .i64 ((3:Nat):Int)] 3 (0,0)),pt b5 (.cells #[.pointer (some p)] 186 (0,0))] (fun t=>[DbR (sds rl) b3 b4 (if t≤hitD (sds rl) then none else some (hitG (sds rl))),pt b1 (.cells #[.pointer (some p)] 186 (0,0)),pt b2 (.cells #[.map none,.int .i64 0,.int .i64 0,.int .i64 0,.int .i64 0] 103 (0,0))]) (grS (sds rl)) (fun g1 v1=>OwE encI 3 1 v1 g1) (hitD (sds rl)) rfl rfl rfl Tryz.call276 (by repeat (first | exact Sub.nil | refine Sub.cons (by repeat first | exact .head | apply Pick.tail) ?_)) ?_ ?_ ?_ ?_
 ·intro ll Hc hy w1 M1 hB1 hk1 hM1 hi1
  exact c_groups1 _ _ p rv sv rl hT (sds rl).length rfl 3 (by omega) (by omega) _ ll Hc hy b5 b6 w1 M1 hB1 hk1 hM1 hi1
 ·intro ll w1 M1 hB1 hM1 hk1 t g1 v1 hx hle1
  have hgr:=(grp_ok (by omega) (List.mem_of_getElem? hx)).1
  replace hT:=hT.agree hk1
  rw [if_pos hle1]
  refine W.region (WO.p rfl rfl (WO.nil (W.block (W.sreg (WO.load rfl rfl (Cell.own (Pick.tail (Pick.tail (Pick.head))) rfl) rfl (WO.p rfl rfl (WO.call (Post:=fun v Hq=>∃ mb:Nat,v=zrV (sds rl) g1 (zrY (sds rl) g1) mb∧Hq=[zrP g1 (zrY (sds rl) g1) mb]) rfl Tryz.call192 (fun L w hi=>c_zero w p rv sv rl (hT.later hi) hok v1 g1 (RdF.of_ow (e:=3) encI_ok (by repeat exact .head) hi) hgr) rfl ?_)))))))
  rintro _ _ ⟨mb,rfl,rfl⟩
  refine WO.alloc rfl rfl rfl (fun b5 hb5=>(WO.storeA rfl rfl rfl rfl Pick.head rfl rfl (WO.nil (W.sreg (WO.fieldL rfl rfl rfl (WO.load rfl rfl (Cell.own Pick.head rfl) rfl (WO.p rfl rfl (WO.p rfl rfl ?_))))))))
  refine WO.guard_bl rfl rfl (fun c1=>?_) (fun c1=>?_)
  ·refine WO.go' rfl (WO.fieldL rfl rfl rfl (WO.go' rfl (WO.loadA rfl rfl (Cells.ownAt (n:=3) Pick.head rfl) rfl rfl (WO.go' rfl (WO.callR rfl Tryz.call173 (fun L w hi=>c_flat w (zrS (sds rl) g1 (zrY (sds rl) g1))) rfl (WO.go' rfl (WO.build rfl rfl rfl rfl rfl (WO.go' rfl (WO.eqT rfl rfl (eq124z (zrS (sds rl) g1 (zrY (sds rl) g1)).a (zrS (sds rl) g1 (zrY (sds rl) g1)).b) rfl (WO.p rfl rfl (WO.p rfl rfl ?_)))))))))))
   refine WO.guard_bl rfl rfl (fun c2=>?_) (fun c2=>?_)
   ·refine WO.go' rfl (WO.fieldL rfl rfl rfl (WO.go' rfl (WO.indexArrL (o':=3) rfl rfl rfl (by decide) rfl rfl (WO.go' rfl (WO.load rfl rfl (Cell.own Pick.head rfl) rfl (WO.pg rfl rfl rfl (WO.p rfl rfl (WO.nil ?_))))))))
    refine W.cond_bl rfl (fun c3=>?_) (fun c3=>?_)
    ·refine W.chg (dbR_open (S:=sds rl) (b3:=b3) (b4:=b4) (by repeat first | exact .head | apply Pick.tail)) (W.sreg (WO.loadA rfl rfl (Cells.own (Pick.tail (Pick.tail (Pick.head)))) rfl rfl (WO.storeA rfl rfl rfl rfl Pick.head rfl rfl (WO.store1 rfl rfl rfl (by rfl) (Pick.tail (Pick.head)) rfl (WO.nil (W.exit (blk_other rfl ?_)))))))
     have hds:=dbt_some.2 ⟨by assumption,by assumption,by assumption⟩
     have htt:=fi_eq (p:=fun g=>(dbt (sds rl) g).isSome) hx hle1 hds
     obtain ⟨ys,_,hzy⟩:=dbt_def hds
     refine endR.stop (bl_f.2 (by have:t=hitD (sds rl):=htt;omega)) rfl ?_
     rw [if_neg (show ¬ t+1≤hitD (sds rl) by have:t=hitD (sds rl):=htt;omega),show hitG (sds rl)=g1 by unfold hitG;rw [← (show t=hitD (sds rl) from htt),List.getD_eq_getElem?_getD,hx];rfl]
     exact dbR_pack (mb:=mb) (q:=(zrY (sds rl) g1).map fun _=>mb) (s:=zrS (sds rl) g1 (zrY (sds rl) g1)) (t:=zrT (zrY (sds rl) g1)) (by rw [hzy];rfl) rfl (by rw [hzy];rfl) (by repeat (first | exact Sub.nil | refine Sub.cons (by repeat first | exact .head | apply Pick.tail) ?_))
    ·refine W.skip ?_
     have hlt:=fi_ne (p:=fun g=>(dbt (sds rl) g).isSome) hx hle1 (fun q=>by have:=dbt_some.1 q;omega)
     refine endR.go (bl_t.2 hlt) ?_
     rw [if_pos (show t+1≤hitD (sds rl) from hlt)]
     exact fun h hs=>Sub.sat (by repeat (first | exact Sub.nil | refine Sub.cons (by repeat first | exact .head | apply Pick.tail) ?_)) hs
   ·refine WO.no rfl rfl (WO.no rfl rfl (WO.no rfl rfl (WO.no rfl rfl (WO.p rfl rfl (WO.nil (W.cond_f rfl (W.skip ?_)))))))
    have hlt:=fi_ne (p:=fun g=>(dbt (sds rl) g).isSome) hx hle1 (fun q=>by have:=dbt_some.1 q;omega)
    refine endR.go (bl_t.2 hlt) ?_
    rw [if_pos (show t+1≤hitD (sds rl) from hlt)]
    exact fun h hs=>Sub.sat (by repeat (first | exact Sub.nil | refine Sub.cons (by repeat first | exact .head | apply Pick.tail) ?_)) hs
  ·refine WO.no rfl rfl (WO.no rfl rfl (WO.no rfl rfl (WO.no rfl rfl (WO.no rfl rfl (WO.p rfl rfl (WO.p rfl rfl (WO.no rfl rfl (WO.no rfl rfl (WO.no rfl rfl (WO.no rfl rfl (WO.p rfl rfl (WO.nil (W.cond_f rfl (W.skip ?_))))))))))))))
   have hlt:=fi_ne (p:=fun g=>(dbt (sds rl) g).isSome) hx hle1 (fun q=>by have:=dbt_some.1 q;omega)
   refine endR.go (bl_t.2 hlt) ?_
   rw [if_pos (show t+1≤hitD (sds rl) from hlt)]
   exact fun h hs=>Sub.sat (by repeat (first | exact Sub.nil | refine Sub.cons (by repeat first | exact .head | apply Pick.tail) ?_)) hs
 ·intro hAll
  rw [if_pos hAll]
  refine W.chg (dbR_open (S:=sds rl) (b3:=b3) (b4:=b4) (by repeat first | exact .head | apply Pick.tail)) ?_
  have hnd:¬ Dbt (sds rl):=by unfold Dbt;omega
  refine W.chg (dbP_no (mb:=0) hnd) (W.seq ?_)
  refine W.drawD 3 [.b 0 [],.b 1 [],.s 2 []] [] (A0:=[_]) (H0:=[_,_,_,_,_,_]) (.cons (Pick.tail (Pick.tail (Pick.tail (Pick.tail (Pick.tail (Pick.tail .head)))))) (.cons .head (.cons .head (.cons .head (.cons .head (.cons .head (.cons .head .nil))))))) (by kernel_rfl) ?_ ?_
  ·exact (ALok.b (ALok.b (ALok.s ALok.nil)))
  refine DT.b rfl rfl rfl (WO.loadA rfl rfl (Cells.own (Pick.tail (Pick.head))) rfl rfl (WO.nil ⟨rfl,rfl⟩)) (DT.b rfl rfl rfl (WO.load rfl rfl (Cell.own (Pick.tail (Pick.tail (Pick.head))) rfl) rfl (WO.nil ⟨rfl,rfl⟩)) (DT.s [_,_,_,_,_,_,_] rfl rfl rfl (WO.storeA rfl rfl rfl rfl Pick.head rfl rfl ?_)))
  refine WO.nil ⟨[_],rfl,rfl,(Keep.b (Keep.b Keep.nil)),?_⟩
  refine DT.nil [_,_,_,_,_,_,_] rfl (WO.p rfl rfl (WO.nil (W.ret (fin.ret (Res.two rfl (RV.cell rfl rfl rfl (Cells.own (by repeat exact .head))) (RV.tmp rfl)) ?_))))
  first | exact ⟨0,by rw [show dbQ (sds rl) 0=none from if_neg hnd,show dbS (sds rl)=sd0 from if_neg hnd,show dbT (sds rl)=0 from if_neg hnd,bl_f.2 hnd] <;> rfl,fun h hs=>Sub.sat (by repeat (first | exact Sub.nil | refine Sub.cons (by repeat first | exact .head | apply Pick.tail) ?_)) hs⟩ | exact ⟨mb,by rw [show dbQ (sds rl) mb=some mb from if_pos hyd,show dbS (sds rl)=_ from if_pos hyd,show dbT (sds rl)=1 from if_pos hyd,bl_t.2 hyd] <;> rfl,fun h hs=>Sub.sat (by repeat (first | exact Sub.nil | refine Sub.cons (by repeat first | exact .head | apply Pick.tail) ?_)) hs⟩
 ·intro hStop
  rw [if_neg (show ¬ hitD (sds rl)+1≤hitD (sds rl) by omega)]
  have hyd:Dbt (sds rl):=hStop
  refine W.chgE (dbR_some (S:=sds rl) (b3:=b3) (b4:=b4) (by repeat first | exact .head | apply Pick.tail)) ?_
  rintro mb -
  refine W.chg (dbP_yes (mb:=mb) hyd (by repeat first | exact .head | apply Pick.tail)) (W.exit (blk_same (W.seq ?_)))
  refine W.drawD 3 [.b 0 [],.b 1 [],.s 2 []] [] (A0:=[_]) (H0:=[_,_,_,_,_,_]) (.cons (Pick.tail (Pick.tail (Pick.tail (Pick.tail (Pick.tail (Pick.tail .head)))))) (.cons .head (.cons .head (.cons .head (.cons .head (.cons .head (.cons .head .nil))))))) (by kernel_rfl) ?_ ?_
  ·exact (ALok.b (ALok.b (ALok.s ALok.nil)))
  refine DT.b rfl rfl rfl (WO.loadA rfl rfl (Cells.own (Pick.tail (Pick.head))) rfl rfl (WO.nil ⟨rfl,rfl⟩)) (DT.b rfl rfl rfl (WO.load rfl rfl (Cell.own (Pick.tail (Pick.tail (Pick.head))) rfl) rfl (WO.nil ⟨rfl,rfl⟩)) (DT.s [_,_,_,_,_,_,_] rfl rfl rfl (WO.storeA rfl rfl rfl rfl Pick.head rfl rfl ?_)))
  refine WO.nil ⟨[_],rfl,rfl,(Keep.b (Keep.b Keep.nil)),?_⟩
  refine DT.nil [_,_,_,_,_,_,_] rfl (WO.p rfl rfl (WO.nil (W.ret (fin.ret (Res.two rfl (RV.cell rfl rfl rfl (Cells.own (by repeat exact .head))) (RV.tmp rfl)) ?_))))
  first | exact ⟨0,by rw [show dbQ (sds rl) 0=none from if_neg hnd,show dbS (sds rl)=sd0 from if_neg hnd,show dbT (sds rl)=0 from if_neg hnd,bl_f.2 hnd] <;> rfl,fun h hs=>Sub.sat (by repeat (first | exact Sub.nil | refine Sub.cons (by repeat first | exact .head | apply Pick.tail) ?_)) hs⟩ | exact ⟨mb,by rw [show dbQ (sds rl) mb=some mb from if_pos hyd,show dbS (sds rl)=_ from if_pos hyd,show dbT (sds rl)=1 from if_pos hyd,bl_t.2 hyd] <;> rfl,fun h hs=>Sub.sat (by repeat (first | exact Sub.nil | refine Sub.cons (by repeat first | exact .head | apply Pick.tail) ?_)) hs⟩
end Go.Proofs.YtfchgmiiicidcaaGreat.Sp
namespace Go.Proofs.YtfchgmiiicidcaaGreat.Sp
open Go Go.TH
attribute [local irreducible] W WO pt
set_option maxRecDepth 10000
set_option maxHeartbeats 1000000
abbrev Md:=Nat × Sd × Int
def encMd (x:Md):List Value:=[.map (some x.1),.int .i64 x.2.1.a,.int .i64 x.2.1.b,.int .i64 x.2.1.c,.int .i64 x.2.2]
theorem encMd_ok:EncOk encMd 5:=⟨fun _=>rfl,fun x u hu=>by simp [encMd] at hu;rcases hu with rfl | rfl | rfl | rfl | rfl <;> rfl,by omega⟩
def md0:Md:=(0,sd0,0)
abbrev Mds.at (xs:List Md) (i:Nat):Md:=xs.getD i md0
structure OkM (x:Sd × Int):Prop where
 c : -400000000≤x.1.c∧x.1.c≤400000000
 t:0<x.2∧x.2≤1000
def gtM (x y:Sd × Int):Prop:=y.1.c*x.2<x.1.c*y.2
instance (x y:Sd × Int):Decidable (gtM x y):=by unfold gtM;infer_instance
theorem red_lt {n d m e:Int} (hd:0<d) (he:0<e):(red n d).1*(red m e).2<(red m e).1*(red n d).2↔n*e<m*d:=by
 obtain ⟨g,hg,h1,h2,_⟩:=red_parts n hd
 obtain ⟨k,hk,h3,h4,_⟩:=red_parts m he
 generalize red n d=u at *
 generalize red m e=v at *
 have e1:n*e=u.1*v.2*(g*k):=by rw [h1,h4];grind
 have e2:m*d=v.1*u.2*(g*k):=by rw [h3,h2];grind
 have hp:=Int.mul_pos hg hk
 rw [e1,e2]
 constructor
 ·exact fun h=>Int.mul_lt_mul_of_pos_right h hp
 ·intro h
  rcases Int.lt_or_le (u.1*v.2) (v.1*u.2) with q | q
  ·exact q
  ·have:=Int.mul_le_mul_of_nonneg_right q (Int.le_of_lt hp);omega
theorem red_in {n d:Int} (hn : -400000000≤n∧n≤400000000) (hd:0<d∧d≤1000):(-400000000≤(red n d).1∧(red n d).1≤400000000)∧0<(red n d).2∧(red n d).2≤1000:=by
 obtain ⟨g,hg,h1,h2,h3,h4,h5⟩:=red_parts n hd.1
 unfold ab at h5
 omega
theorem c_bound (w:World) (x:Md) (h:OkM x.2):Ret Tryz.prog 40 [mdV (.map (some x.1)) x.2.1 x.2.2].toArray w (raV (red x.2.1.c x.2.2)):=by
 refine Ret.of mixed tyTab Tryz.func40 rfl rfl ?_
 obtain ⟨h1,h2⟩:=h
 refine W.sreg (WO.boxA rfl rfl (fun b1 hb1=>(WO.alloc rfl rfl rfl (fun b2 hb2=>(WO.nil (W.sreg (WO.fieldL rfl rfl rfl (WO.indexArrL (o':=3) rfl rfl rfl (by decide) rfl rfl (WO.load rfl rfl (Cell.own (Pick.tail (Pick.head)) rfl) rfl (WO.fieldL rfl rfl rfl (WO.load rfl rfl (Cell.own (Pick.tail (Pick.head)) rfl) rfl (WO.callR rfl Tryz.call107 (fun L w hi=>c_ratio w x.2.1.c x.2.2 (by omega) (by omega)) rfl (WO.storeA rfl rfl rfl rfl Pick.head rfl rfl (WO.nil (W.ret ?_)))))))))))))))
 exact fin.ret (Res.one rfl (RV.cell rfl rfl rfl (Cells.own Pick.head))) rfl
theorem c_boundQ (w:World) (q:Option Nat) (s:Sd) (t:Int) (h:OkM (s,t)):Ret Tryz.prog 40 [mdV (.map q) s t].toArray w (raV (red s.c t)):=by
 refine Ret.of mixed tyTab Tryz.func40 rfl rfl ?_
 obtain ⟨h1,h2⟩:=h
 dsimp only at h1 h2
 refine W.sreg (WO.boxA rfl rfl (fun b1 hb1=>(WO.alloc rfl rfl rfl (fun b2 hb2=>(WO.nil (W.sreg (WO.fieldL rfl rfl rfl (WO.indexArrL (o':=3) rfl rfl rfl (by decide) rfl rfl (WO.load rfl rfl (Cell.own (Pick.tail (Pick.head)) rfl) rfl (WO.fieldL rfl rfl rfl (WO.load rfl rfl (Cell.own (Pick.tail (Pick.head)) rfl) rfl (WO.callR rfl Tryz.call107 (fun L w hi=>c_ratio w s.c t (by omega) (by omega)) rfl (WO.storeA rfl rfl rfl rfl Pick.head rfl rfl (WO.nil (W.ret ?_)))))))))))))))
 exact fin.ret (Res.one rfl (RV.cell rfl rfl rfl (Cells.own Pick.head))) rfl
theorem c_before (w:World) (x y:Md) (hx:OkM x.2) (hy:OkM y.2):Ret Tryz.prog 197 [mdV (.map (some x.1)) x.2.1 x.2.2,mdV (.map (some y.1)) y.2.1 y.2.2].toArray w (.bool (bl (gtM x.2 y.2))):=by
 refine Ret.of mixed tyTab Tryz.func197 rfl rfl ?_
 have rx:=red_in hx.c hx.t
 have ry:=red_in hy.c hy.t
 have m1:=mul_bd (A:=400000000) (B:=1000) ry.1 (show -1000≤(red x.2.1.c x.2.2).2∧(red x.2.1.c x.2.2).2≤1000 by omega)
 have m2:=mul_bd (A:=400000000) (B:=1000) rx.1 (show -1000≤(red y.2.1.c y.2.2).2∧(red y.2.1.c y.2.2).2≤1000 by omega)
 refine W.sreg (WO.boxA rfl rfl (fun b1 hb1=>(WO.boxA rfl rfl (fun b2 hb2=>(WO.p rfl rfl (WO.nil (W.seq ?_)))))))
 refine W.drawD 3 [.b 0 [],.b 1 [],.b 2 []] [] (A0:=[]) (Sub.refl _) (by kernel_rfl) ?_ ?_
 ·repeat constructor
 refine DT.b rfl rfl rfl (WO.loadA rfl rfl (Cells.own Pick.head) rfl rfl (WO.nil ⟨rfl,rfl⟩)) (DT.b rfl rfl rfl (WO.callR rfl Tryz.call40 (fun L w hi=>c_bound w y hy) rfl (WO.nil ⟨rfl,rfl⟩)) (DT.b rfl rfl rfl (WO.loadA rfl rfl (Cells.own (Pick.tail (Pick.head))) rfl rfl (WO.nil ⟨rfl,rfl⟩)) (DT.nil [_,_] rfl (WO.callR rfl Tryz.call40 (fun L w hi=>c_bound w x hx) rfl ?_))))
 refine WO.callR (r:=.bool (bl (gtM x.2 y.2))) rfl Tryz.call180 (fun L w hi=>by have h:=c_less w (red y.2.1.c y.2.2).1 (red y.2.1.c y.2.2).2 (red x.2.1.c x.2.2).1 (red x.2.1.c x.2.2).2 (by unfold in64;omega) (by unfold in64;omega);rw [show bl ((red y.2.1.c y.2.2).1*(red x.2.1.c x.2.2).2<(red x.2.1.c x.2.2).1*(red y.2.1.c y.2.2).2)=bl (gtM x.2 y.2) by rw [bl_eq,bl_eq,decide_eq_decide];exact red_lt hy.t.1 hx.t.1] at h;exact h) rfl (WO.p rfl rfl (WO.nil (W.ret ?_)))
 exact fin.ret (Res.one rfl (RV.tmp rfl)) rfl
theorem RdF.cellsM {C:Cx Tryz.prog} {H:List HP} {o:Value} {xs:List Md} (h:RdF encMd 5 C.B C.w0 o xs) {i:Nat} (h1:i<xs.length):Cells C H (elt o i 5) [.map (some (Mds.at xs i).1),.int .i64 (Mds.at xs i).2.1.a,.int .i64 (Mds.at xs i).2.1.b,.int .i64 (Mds.at xs i).2.1.c,.int .i64 (Mds.at xs i).2.2]:=RdF.cells h h1 _
theorem tail_at {xs:List Md} {i:Nat} {n:Nat} (h:n=xs.length):Mds.at ((xs.drop 1).take (n-1)) i=Mds.at xs (i+1)∨xs.length≤i+1:=by
 subst h
 rcases Nat.lt_or_ge (i+1) xs.length with g | g
 ·refine .inl ?_
  simp only [Mds.at,List.getD_eq_getElem?_getD]
  rw [List.getElem?_take_of_lt (by omega),List.getElem?_drop,Nat.add_comm]
 ·exact .inr g
structure FirstM (xs:List Md) (n:Nat) (x:Md):Prop where
 mem:x∈xs
 max:∀ j,j<n→j<xs.length→¬ gtM (Mds.at xs j).2 x.2
theorem gtM_trans {x y z:Sd × Int} (hx:OkM x) (hy:OkM y) (hz:OkM z) (h1:gtM x y) (h2:¬ gtM z y):¬ gtM z x:=fun h3=>by
 unfold gtM at h1 h2 h3
 have k1:=Int.mul_lt_mul_of_pos_right h1 hz.t.1
 have k2:=Int.mul_le_mul_of_nonneg_right (Int.not_lt.1 h2) (Int.le_of_lt hx.t.1)
 have k3:=Int.mul_lt_mul_of_pos_right h3 hy.t.1
 have e1:x.1.c*y.2*z.2=x.1.c*z.2*y.2:=by grind
 have e2:y.1.c*z.2*x.2=y.1.c*x.2*z.2:=by grind
 have e3:z.1.c*x.2*y.2=z.1.c*y.2*x.2:=by grind
 omega
theorem first_no {xs:List Md} {i:Nat} {x:Md} (h:FirstM xs (i+1) x) (hn:¬ gtM (Mds.at xs (i+1)).2 x.2):FirstM xs (i+1+1) x :=
 ⟨h.mem,fun j hj hl=>by
  rcases Nat.lt_or_ge j (i+1) with g | g
  ·exact h.max j g hl
  ·obtain rfl:j=i+1:=by omega
   exact hn⟩
theorem first_yes {xs:List Md} {i:Nat} {x:Md} (h:FirstM xs (i+1) x) (hk:∀ x∈xs,OkM x.2) (hi:i+1<xs.length) (hn:gtM (Mds.at xs (i+1)).2 x.2):FirstM xs (i+1+1) (Mds.at xs (i+1)) :=
 ⟨getD_mem hi _,fun j hj hl=>by
  rcases Nat.lt_or_ge j (i+1) with g | g
  ·exact gtM_trans (hk _ (getD_mem hi _)) (hk _ h.mem) (hk _ (getD_mem hl md0)) hn (h.max j g hl)
  ·obtain rfl:j=i+1:=by omega
   unfold gtM;omega⟩
theorem c_first (w:World) (a:Option Addr) (c:Nat) (xs:List Md) (hR:RdF encMd 5 w.heap.size w (.slice a xs.length c) xs) (hcap:xs.length≤c) (h0:0<xs.length) (hk:∀ x∈xs,OkM x.2) :
 RetE Tryz.prog 196 [.slice a xs.length c,.func (.func 197) #[] #[]].toArray w (fun r=>∃ x,FirstM xs xs.length x∧r=.agg (encMd x).toArray):=by
 refine RetE.of mixed tyTab Tryz.func196 rfl rfl ?_
 replace hR:RdF encMd 5 (fnCx mixed tyTab Tryz.f196.ntmps w).B (fnCx mixed tyTab Tryz.f196.ntmps w).w0 (.slice a xs.length c) xs:=hR
 have hle:=hR.sl.le
 have hT:=hR.sub (lo:=1) (hi:=xs.length) (mx:=c) (by omega) hcap (Nat.le_refl _)
 generalize hsv:(Value.slice (if c=1 then a else ofs a (1*5)) (xs.length-1) (c-1))=sv at hT
 have hTl:((xs.drop 1).take (xs.length-1)).length=xs.length-1:=by rw [List.length_take,List.length_drop];omega
 have hTs:IsSl sv (xs.length-1):=hTl▸hT.sl
 refine W.sreg (WO.alloc rfl rfl rfl (fun b1 hb1=>(WO.nil (W.sreg (WO.p rfl rfl (WO.indexAddr (i:=0) rfl rfl rfl hR.sl (by omega) rfl (WO.loadA rfl rfl (RdF.cellsM hR (i:=0) h0) rfl rfl (WO.alloc rfl rfl rfl (fun b2 hb2=>(WO.storeA rfl rfl rfl rfl Pick.head rfl rfl (WO.nil (W.seq (W.sreg (WO.p rfl rfl (WO.slSl (lo:=1) (hi:=xs.length) (mx:=c) rfl rfl (bnd.at (n:=1) rfl) bnd.no bnd.no (fun h => (by cases h)) (by omega) hcap (Nat.le_refl _) rfl ?_)))))))))))))))
 rw [hsv]
 refine WO.len rfl rfl hTs rfl (WO.p rfl rfl (WO.nil (W.block ?_)))
 refine W.loop2 (fun (i:Nat) (x:Md)=>i≤xs.length-1∧FirstM xs (i+1) x)
  (fun (i:Nat) (x:Md)=>[(14,.int .i64 (i:Int)),(13,.int .i64 ((xs.length-1:Nat):Int)),(12,sv),(5,.pointer (some ⟨b2,0,none⟩)),(4,.pointer (some ⟨b1,0,none⟩)),(1,.func (.func 197) #[] #[])])
  (fun (i:Nat) (x:Md)=>[pt b2 (.cells #[.map (some x.1),.int .i64 x.2.1.a,.int .i64 x.2.1.b,.int .i64 x.2.1.c,.int .i64 x.2.2] 103 (0,0)),pt b1 (.cells #[.map none,.int .i64 0,.int .i64 0,.int .i64 0,.int .i64 0] 103 (0,0))])
  (fun (i:Nat) (x:Md)=>xs.length-1-i) 0 (Mds.at xs 0)
  (by exact ⟨by omega,getD_mem h0 _,fun j hj _=>by obtain rfl:j=0:=(by omega);unfold gtM;omega⟩) ⟨rfl,rfl,rfl,rfl,rfl,rfl,trivial⟩ (by repeat (first | exact Sub.nil | refine Sub.cons (by repeat exact .head) ?_)) ?_
 rintro i x ⟨hi0,hF⟩
 refine W.sreg (WO.p rfl rfl (WO.nil (W.seq ?_)))
 refine W.cond_bl rfl (fun c1=>?_) (fun c1=>?_)
 ·refine W.skip (W.seq (W.block ?_))
  have ht:=(tail_at (xs:=xs) (i:=i) rfl).resolve_right (by omega)
  refine W.sreg (WO.indexAddr rfl rfl rfl hTs (by omega) rfl (WO.loadA rfl rfl (RdF.cellsM hT (i:=i) (by omega)) rfl rfl (WO.alloc rfl rfl rfl (fun b3 hb3=>(WO.storeA rfl rfl rfl rfl Pick.head rfl rfl (WO.nil (W.sreg (WO.p rfl rfl (WO.loadA rfl rfl (Cells.own Pick.head) rfl rfl (WO.loadA rfl rfl (Cells.own (Pick.tail (Pick.head))) rfl rfl (WO.callCR (first:=[]) (captured:=[]) rfl rfl Tryz.call197 (fun L w hi'=>by rw [ht];exact c_before w (Mds.at xs (i+1)) x (hk _ (getD_mem (by omega) _)) (hk _ hF.mem)) rfl (WO.nil ?_))))))))))))
  refine W.cond_bl rfl (fun c2=>?_) (fun c2=>?_)
  ·refine W.region (WO.loadA rfl rfl (Cells.own Pick.head) rfl rfl (WO.storeA rfl rfl rfl rfl (Pick.tail (Pick.head)) rfl rfl (WO.nil (W.region (WO.ar rfl rfl rfl (by unfold in64;omega) rfl (WO.p rfl rfl (WO.nil ?_)))))))
   refine' ⟨i+1,_,?hp,?hmu,⟨rfl,rfl,rfl,rfl,rfl,rfl,trivial⟩,?hS⟩
   case hS=>repeat (first | exact Sub.nil | refine Sub.cons (by repeat first | exact .head | apply Pick.tail) ?_)
   case hp=>exact ⟨by omega,by rw [ht];exact first_yes hF hk (by omega) (by assumption)⟩
   case hmu=>omega
  ·refine W.skip (W.region (WO.ar rfl rfl rfl (by unfold in64;omega) rfl (WO.p rfl rfl (WO.nil ?_))))
   refine' ⟨i+1,_,?hp,?hmu,⟨rfl,rfl,rfl,rfl,rfl,rfl,trivial⟩,?hS⟩
   case hS=>repeat (first | exact Sub.nil | refine Sub.cons (by repeat first | exact .head | apply Pick.tail) ?_)
   case hp=>exact ⟨by omega,first_no hF (by assumption)⟩
   case hmu=>omega
 ·refine W.exit (blk_same (W.sreg (WO.loadA rfl rfl (Cells.own Pick.head) rfl rfl (WO.storeA rfl rfl rfl rfl (Pick.tail (Pick.head)) rfl rfl (WO.nil (W.ret ?_))))))
  obtain rfl:i=xs.length-1:=by omega
  refine fin.ret (Res.one rfl (RV.cell rfl rfl rfl (Cells.own (by repeat exact .head)))) ⟨x,?_,rfl⟩
  rw [show xs.length-1+1=xs.length by omega] at hF;exact hF
end Go.Proofs.YtfchgmiiicidcaaGreat.Sp
namespace Go.Proofs.YtfchgmiiicidcaaGreat.Sp
open Go Go.TH
attribute [local irreducible] W WO pt
set_option maxRecDepth 10000
set_option maxHeartbeats 1000000
def mst1 (a:Sd) (p q:Int):Option (List Int × Int):=if fit2 a ⟨p,q,0⟩ (siz ⟨p,q,0⟩) (-(siz a)) then some ([siz ⟨p,q,0⟩],siz a) else none
def mst2 (a b:Sd) (p q:Int):Option (List Int × Int) :=
 if crs a b<0 then (if 0 < -(crs a b)∧0 ≤ -(crs ⟨p,q,0⟩ b)∧0 ≤ -(crs a ⟨p,q,0⟩) then some ([-(crs ⟨p,q,0⟩ b),-(crs a ⟨p,q,0⟩)],-(crs a b)) else none)
 else (if 0<crs a b∧0≤crs ⟨p,q,0⟩ b∧0≤crs a ⟨p,q,0⟩ then some ([crs ⟨p,q,0⟩ b,crs a ⟨p,q,0⟩],crs a b) else none)
def mstG (S:List Sd) (p q:Int) (g:List Int):Option (List Int × Int):=if g.length=1 then mst1 (atS S g 0) p q else mst2 (atS S g 0) (atS S g 1) p q
def mstL (S:List Sd) (p q:Int) (g:List Int):List (Sd × Int):=match mstG S p q g with
 | some x=>[(tkS S g x.1 g.length,x.2)]
 | none=>[]
abbrev g2S (S:List Sd):List (List Int):=grp 2 S.length
def msts (S:List Sd) (p q:Int) (k:Nat):List (Sd × Int):=((g2S S).take k).flatMap (mstL S p q)
abbrev mstA (S:List Sd) (p q:Int):List (Sd × Int):=(g2S S).flatMap (mstL S p q)
theorem msts_succ {S:List Sd} {p q:Int} {k:Nat} {g:List Int} (h:(g2S S)[k]?=some g):msts S p q (k+1)=msts S p q k++mstL S p q g:=by
 unfold msts;rw [List.take_add_one,h,List.flatMap_append];simp
theorem msts_end (S:List Sd) (p q:Int):msts S p q (g2S S).length=mstA S p q:=by unfold msts;rw [List.take_length]
theorem mstL_len (S:List Sd) (p q:Int) (g:List Int):(mstL S p q g).length≤1:=by unfold mstL;split <;> simp
theorem msts_len (S:List Sd) (p q:Int):∀ k,(msts S p q k).length≤k
 | 0=>by simp [msts]
 | k+1=>by
  have ih:=msts_len S p q k
  cases h:(g2S S)[k]? with
  | none =>
   have hl:=List.getElem?_eq_none_iff.1 h
   have e:msts S p q (k+1)=msts S p q k:=by unfold msts;rw [List.take_of_length_le hl,List.take_of_length_le (by omega)]
   rw [e];omega
  | some g =>
   rw [msts_succ h,List.length_append]
   have:=mstL_len S p q g
   omega
theorem seg_le {β:Type} {lo:Nat} {g:Nat→List β} {B:Nat} (h:∀ i,(g i).length≤B):∀ {hi:Nat},(seg lo hi g).length≤hi*B
 | 0=>by unfold seg;simp
 | hi+1=>by
  rcases Nat.lt_or_ge hi lo with c | c
  ·unfold seg;rw [show hi+1-lo=0 by omega];simp
  ·rw [seg_succ c,List.length_append,Nat.succ_mul]
   have:=seg_le (lo:=lo) h (hi:=hi)
   have:=h hi
   omega
theorem g2_len {S:List Sd} (h:S.length≤24):(g2S S).length≤1000:=by
 have h2:∀ a,(F1 2 S.length a).length≤25:=fun a=>by
  unfold F1
  rw [List.length_cons]
  have:=seg_le (lo:=a+1) (g:=F2 2 S.length a) (B:=1) (fun b=>by unfold F2;simp) (hi:=S.length)
  omega
 have:=seg_le (lo:=0) h2 (hi:=S.length)
 have e:(g2S S).length=(seg 0 S.length (F1 2 S.length)).length:=rfl
 rw [e]
 have:S.length*25≤600:=by omega
 omega
theorem want_ok {p q:Int} (hp:OkN p) (hq:OkN q):OkS 20 1000000 ⟨p,q,0⟩:=⟨hp,hq,by dsimp only;omega,by dsimp only;omega⟩
theorem mst_ok {S:List Sd} (hS:∀ s∈S,OkS 20 100000 s) {p q:Int} (hp:OkN p) (hq:OkN q) {g:List Int} (hg:Grp S.length g) (h2:g.length≤2) {x:List Int × Int} (h:mstG S p q g=some x):x.1.length=g.length∧(∀ y∈x.1,-1000≤y∧y≤1000)∧(-1000≤x.2∧x.2≤1000):=by
 have hgn:=hg.len
 have hat:∀ i,i<g.length→OkS 20 1000000 (atS S g i):=fun i hi=>(hS _ (getD_mem (show (g.getD i 0).toNat<S.length by have:=hg.rng _ (getD_mem hi 0);omega) sd0)).up (by omega) (by omega)
 have hw:=want_ok hp hq
 have zw:=siz_bd hw
 have s0:=hat 0 (by omega)
 have z0:=siz_bd s0
 unfold mstG at h
 split at h
 ·rename_i h1
  unfold mst1 at h
  split at h
  ·cases h
   exact ⟨h1.symm,fun y hy=>by simp at hy;subst hy;omega,by dsimp only;omega⟩
  ·cases h
 ·rename_i h1
  have s1:=hat 1 (by omega)
  have c1:=(crs_bd s0 s1).2.2
  have c2:=(crs_bd hw s1).2.2
  have c3:=(crs_bd s0 hw).2.2
  unfold mst2 at h
  split at h
  ·split at h
   ·cases h
    exact ⟨by show 2=_;omega,y2_bd (by omega) (by omega),by dsimp only;omega⟩
   ·cases h
  ·split at h
   ·cases h
    exact ⟨by show 2=_;omega,y2_bd (by omega) (by omega),by dsimp only;omega⟩
   ·cases h
theorem siz_pos {s:Sd} (h:s.a≠0∨s.b≠0):0<siz s:=by unfold siz ab;omega
theorem mst_pos {S:List Sd} (hn:∀ s∈S,s.a≠0∨s.b≠0) {p q:Int} {g:List Int} (hg:Grp S.length g) {x:List Int × Int} (h:mstG S p q g=some x):0<x.2:=by
 have hgn:=hg.len
 unfold mstG at h
 split at h
 ·unfold mst1 at h
  split at h
  ·cases h
   exact siz_pos (hn _ (getD_mem (show (g.getD 0 0).toNat<S.length by have:=hg.rng _ (getD_mem (show 0<g.length by omega) 0);omega) sd0))
  ·cases h
 ·unfold mst2 at h
  split at h
  ·split at h
   ·rename_i c;cases h;exact c.1
   ·cases h
  ·split at h
   ·rename_i c;cases h;exact c.1
   ·cases h
theorem mstL_ok {S:List Sd} (hS:∀ s∈S,OkS 20 100000 s) (hn:∀ s∈S,s.a≠0∨s.b≠0) {p q:Int} (hp:OkN p) (hq:OkN q) {g:List Int} (hg:Grp S.length g) (h2:g.length≤2):∀ y∈mstL S p q g,OkM y:=fun y hy=>by
 unfold mstL at hy
 cases h:mstG S p q g with
 | none=>rw [h] at hy;simp at hy
 | some x =>
  rw [h] at hy
  obtain rfl:y=(tkS S g x.1 g.length,x.2):=by simpa using hy
  obtain ⟨a1,a2,a3⟩:=mst_ok hS hp hq hg h2 h
  have a4:=mst_pos hn hg h
  have a5:=(tkS_bd hS hg.rng a2 a1 (i:=g.length) (Nat.le_refl _)).c
  exact ⟨by dsimp only;omega,by dsimp only;omega⟩
theorem mstA_ok {S:List Sd} (hS:∀ s∈S,OkS 20 100000 s) (hn:∀ s∈S,s.a≠0∨s.b≠0) {p q:Int} (hp:OkN p) (hq:OkN q):∀ y∈mstA S p q,OkM y:=fun y hy=>by
 obtain ⟨g,hg,h⟩:=List.mem_flatMap.1 hy
 have:=grp_ok (m:=2) (by omega) hg
 exact mstL_ok hS hn hp hq this.1 this.2 y h
theorem sds_nz {l:List Rn} (h:OkRs l):∀ s∈sds l,s.a≠0∨s.b≠0:=fun s hs=>by
 obtain ⟨r,hr,hm⟩:=List.mem_flatMap.1 hs
 have h3:=(h r hr).2.2.1
 have:s=loS r∨s=hiS r:=by simpa using hm
 rcases this with rfl | rfl
 ·exact h3
 ·show -r.p≠0 ∨ -r.q≠0;omega
def AllP (b:Nat) (cs:List (Sd × Int)):HP:=fun h=>∃ (v:Value) (xs:List Md),xs.map (·.2)=cs∧sat [pt b (.cells #[v] 292 (0,0)),OwE encMd 103 5 v xs] h
def AllV (b:Nat) (v:Value) (cs:List (Sd × Int)):HP:=fun h=>∃ (xs:List Md),xs.map (·.2)=cs∧sat [pt b (.cells #[v] 292 (0,0)),OwE encMd 103 5 v xs] h
theorem all_open1 {b:Nat} {cs:List (Sd × Int)} {H H':List HP} (p:Pick (AllP b cs) H H'):∀ h,sat H h→∃ v:Value,True∧sat (AllV b v cs::H') h:=fun h hs=>by
 obtain ⟨h1,h2,s,⟨gv,xs,e,hp⟩,hr⟩:=p.sat hs
 exact ⟨gv,trivial,h1,h2,s,⟨xs,e,hp⟩,hr⟩
theorem all_open2 {b:Nat} {v:Value} {cs:List (Sd × Int)} {H:List HP}:∀ h,sat (AllV b v cs::H) h→∃ xs:List Md,xs.map (·.2)=cs∧sat (pt b (.cells #[v] 292 (0,0))::OwE encMd 103 5 v xs::H) h:=fun h hs=>by
 obtain ⟨h1,h2,s,⟨xs,e,hp⟩,hr⟩:=hs
 exact ⟨xs,e,sat_join (H1:=[_,_]) s hp hr⟩
theorem all_pack {b:Nat} {gv:Value} {xs:List Md} {cs:List (Sd × Int)} {H Hr:List HP} (s:Sub H (pt b (.cells #[gv] 292 (0,0))::OwE encMd 103 5 gv xs::Hr)) (e:xs.map (·.2)=cs):∀ h,sat H h→sat (AllP b cs::Hr) h:=fun h hs=>by
 obtain ⟨h1,h2,s2,hp,hr⟩:=sat_app (H1:=[_,_]) (s.sat hs)
 exact ⟨h1,h2,s2,⟨gv,xs,e,hp⟩,hr⟩
theorem all_nil {b:Nat} {H H':List HP} (p:Pick (pt b (.cells #[.slice none 0 0] 292 (0,0))) H H'):∀ h,sat H h→sat (AllP b []::H') h:=fun h hs =>
 all_pack (xs:=[]) (.cons (.tail .head) (.cons .head (Sub.refl _))) rfl h (owNil (enc:=encMd) (e:=103) (sz:=5) h (p.sat hs))
theorem OwE.formCap {α:Type} {P:Program} {C:Cx P} {H H':List HP} {enc:α→List Value} {e sz:Nat} {v:Value} {xs:List α} (p:Pick (OwE enc e sz v xs) H H'):∀ (L:List HP) w,Inv C.w0 C.M (L++H) w→∃ a c,v=.slice a xs.length c∧xs.length≤c:=fun L w hi=>by
 obtain ⟨_,hcase⟩:=OwC.open (hi.pickL p)
 rcases hcase with ⟨h1,h2,_⟩ | ⟨g,cap,cur,rfl,q1,_⟩
 ·exact ⟨none,0,by rw [h1,h2],by omega⟩
 ·exact ⟨_,_,rfl,q1⟩
def Bnd (S:List Sd) (p q:Int):Prop:=(p=0∧q=0)∨mstA S p q≠[]
instance (S:List Sd) (p q:Int):Decidable (Bnd S p q):=by unfold Bnd;infer_instance
structure MostI (S:List Sd) (p q:Int) (x:Sd × Int):Prop where
 mem:(p=0∧q=0∧x=(sd0,1))∨(¬ (p=0∧q=0)∧x∈mstA S p q)
 max:∀ y∈mstA S p q,¬ (p=0∧q=0)→¬ gtM y x
theorem MostI.ok {l:List Rn} (h:OkRs l) {p q:Int} (hp:OkN p) (hq:OkN q) {x:Sd × Int} (hm:MostI (sds l) p q x):OkM x:=by
 rcases hm.mem with ⟨_,_,rfl⟩ | ⟨_,g⟩
 ·exact ⟨by simp [sd0],by simp⟩
 ·exact mstA_ok (sds_ok h) (sds_nz h) hp hq x g
theorem firstM_most {S:List Sd} {p q:Int} (h0:¬ (p=0∧q=0)) {xs:List Md} {x:Md} (e:xs.map (·.2)=mstA S p q) (h:FirstM xs xs.length x):MostI S p q x.2:=by
 refine ⟨.inr ⟨h0,e▸List.mem_map_of_mem h.mem⟩,fun y hy _=>?_⟩
 rw [← e] at hy
 obtain ⟨z,hz,rfl⟩:=List.mem_map.1 hy
 obtain ⟨j,hj,rfl⟩:=List.getElem_of_mem hz
 have:=h.max j hj hj
 have e2:Mds.at xs j=xs[j]:=by simp [Mds.at,hj]
 rwa [e2] at this
end Go.Proofs.YtfchgmiiicidcaaGreat.Sp
