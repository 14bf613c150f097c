/-
  What is proved here: the period of a register. Conditions: none; each contract states its own.
-/
import Derived.Test.YtncjabmlkgacdaaGreatM6
import Derived.WideKeyRuns
import Derived.Test.YtncjabmlkgacdaaGreatM2
import Derived.Deep.Strs
import Derived.OpenShut
import Derived.Test.YtncjabmlkgacdaaGreatM4
import Derived.Test.YtncjabmlkgacdaaGreatM5
set_option linter.unusedVariables false
set_option linter.unusedSimpArgs false
namespace Go.Proofs.YtncjabmlkgacdaaGreat.Wv
open Go Go.TH Go.TH.Wv
attribute [local irreducible] W WO pt
set_option maxRecDepth 10000
set_option maxHeartbeats 1000000
theorem neq67 (a b:Nat):EqT Tryz.prog .neq 113 (.agg #[.int .u32 (a:Int)]) (.agg #[.int .u32 (b:Int)]) (.bool (bl (a≠b))):=by
 intro x y w
 simp [go_sem,Tryz.eqGuardType113,Tryz.underlying113]
 by_cases h1:a=b
 ·subst h1;simp [bl_eq]
 ·have h2:¬ (a:Int)=(b:Int):=by omega
  simp [h1,h2,bl_eq]
theorem on_win {taps start:List Int} (hl:start.length=taps.length) (k:Nat):(if taps.length=0 then sN (winL taps start k) else sN (stepW taps (winL taps start k)))=sN (winL taps start (k+1)):=by
 by_cases h:taps.length=0
 ·rw [if_pos h]
  have h1:winL taps start k=[]:=List.eq_nil_of_length_eq_zero (by rw [win_len];omega)
  have h2:winL taps start (k+1)=[]:=List.eq_nil_of_length_eq_zero (by rw [win_len];omega)
  rw [h1,h2]
 ·rw [if_neg h,win_step (by omega) hl]
theorem per_lt {taps start:List Int} {n q:Nat} (hq:IsPer taps start q) (hn:n≤q) (h:winL taps start n≠start):n<q:=by
 rcases Nat.lt_or_ge n q with g | g
 ·exact g
 ·obtain rfl:n=q:=by omega
  exact absurd hq.2.1 h
theorem per_at {taps start:List Int} {n q:Nat} (hq:IsPer taps start q) (h0:0<n) (hn:n≤q) (h:winL taps start n=start):n=q:=by
 rcases Nat.lt_or_ge n q with g | g
 ·exact absurd h (hq.2.2 n h0 g)
 ·omega
noncomputable def perV (taps start:List Int):Value:=.tuple #[.int .i64 (perN taps start:Int),.int .i64 (perE taps start)]
theorem perV_err {taps start:List Int} {E:Int} (h:perE taps start=E) (h0:E≠0):Value.tuple #[.int .i64 0,.int .i64 E]=perV taps start:=by
 unfold perV perN
 rw [h,if_neg h0];rfl
theorem perV_ok {taps start:List Int} {n:Nat} (h:perE taps start=0) (hn:IsPer taps start n):Value.tuple #[.int .i64 (n:Int),.int .i64 0]=perV taps start:=by
 unfold perV perN
 rw [h,if_pos rfl,per_eq hn]
theorem perE_k {taps start:List Int} (h:chk2 taps start≠0):perE taps start=chk2 taps start:=by
 have hs:chkS taps start=chk2 taps start:=if_pos h
 rw [perE_a (by rw [hs];exact h),hs]
theorem perE_l {taps start:List Int} (h:¬ chk2 taps start≠0) (h2:start.length≠taps.length):perE taps start=15:=by
 have hs:chkS taps start=15:=by unfold chkS;rw [if_neg h,if_pos h2]
 rw [perE_a (by rw [hs];decide),hs]
theorem chkS_of {taps start:List Int} (h:¬ chk2 taps start≠0) (h2:¬ start.length≠taps.length):chkS taps start=0:=chkS0.2 ⟨chk20.1 (by omega),by omega⟩
theorem per_last {taps:List Int} (h:¬ 0<(taps.length:Int)∨¬ taps.getD ((taps.length:Int)-1).toNat 0=0):¬ (0<taps.length∧bt taps (taps.length-1)=0):=by
 rintro ⟨h1,h2⟩
 rw [show ((taps.length:Int)-1).toNat=taps.length-1 by omega] at h
 rcases h with h | h
 ·omega
 ·exact h h2
theorem per_last' {taps:List Int} (h0:0<taps.length) (h:taps.getD ((taps.length:Int)-1).toNat 0=0):0<taps.length∧bt taps (taps.length-1)=0:=by
 rw [show ((taps.length:Int)-1).toNat=taps.length-1 by omega] at h
 exact ⟨h0,h⟩
theorem c_Period (w:World) (v u:Value) (taps start:List Int) (hR:RdF encI 1 w.heap.size w v taps) (hU:RdF encI 1 w.heap.size w u start):Ret Tryz.prog 18 [v,u].toArray w (perV taps start):=by
 refine Ret.of mixed tyTab Tryz.func18 rfl rfl ?_
 replace hR:RdF encI 1 (fnCx mixed tyTab Tryz.f18.ntmps w).B (fnCx mixed tyTab Tryz.f18.ntmps w).w0 v taps:=hR
 replace hU:RdF encI 1 (fnCx mixed tyTab Tryz.f18.ntmps w).B (fnCx mixed tyTab Tryz.f18.ntmps w).w0 u start:=hU
 obtain ⟨hle,va,vc,hve,_⟩:=id hR.sl
 subst hve
 obtain ⟨hlu,ua,uc,hue,_⟩:=id hU.sl
 subst hue
 refine W.sreg (WO.p rfl rfl (WO.p rfl rfl (WO.nil (W.sreg (WO.p rfl rfl (WO.p rfl rfl (WO.buildSl rfl rfl rfl rfl rfl rfl rfl rfl rfl (fun v1=>(WO.callR (r:=.int .i64 (chk2 taps start)) rfl Tryz.call47 (fun L w hi=>by rw [← chkAll_two];exact c_checkAll w _ [.slice va taps.length vc,.slice ua start.length uc] [taps,start] (RdR.of_two (e':=64) (a:=.slice va taps.length vc) (b:=.slice ua start.length uc) (xs:=taps) (ys:=start) (by repeat exact .head) hi (hR.later hi) (hU.later hi))) rfl (WO.p rfl rfl (WO.nil (W.seq (W.block (W.sreg (WO.p rfl rfl (WO.p rfl rfl (WO.p rfl rfl (WO.nil ?_))))))))))))))))))
 refine W.cond_bl rfl (fun c1=>?_) (fun c1=>?_)
 ·refine W.sreg (WO.p rfl rfl (WO.p rfl rfl (WO.p rfl rfl (WO.nil (W.ret (fin.ret (Res.two rfl (RV.tmp rfl) (RV.tmp rfl)) ?_))))))
  exact perV_err (perE_k (by assumption)) (by assumption)
 ·refine W.sreg (WO.p rfl rfl (WO.len rfl rfl hU.sl rfl (WO.p rfl rfl (WO.len rfl rfl hR.sl rfl (WO.p rfl rfl (WO.p rfl rfl (WO.nil ?_)))))))
  refine W.cond_bl rfl (fun c2=>?_) (fun c2=>?_)
  ·refine W.sreg (WO.p rfl rfl (WO.p rfl rfl (WO.nil (W.ret (fin.ret (Res.two rfl (RV.tmp rfl) (RV.tmp rfl)) ?_)))))
   exact perV_err (perE_l (by assumption) (by omega)) (by decide)
  ·refine W.sreg (WO.p rfl rfl (WO.len rfl rfl hR.sl rfl (WO.p rfl rfl (WO.p rfl rfl (WO.nil ?_)))))
   refine W.cond_bl rfl (fun c3=>?_) (fun c3=>?_)
   ·refine W.sreg (WO.p rfl rfl (WO.p rfl rfl (WO.nil (W.ret (fin.ret (Res.two rfl (RV.tmp rfl) (RV.tmp rfl)) ?_)))))
    exact perV_err (perE_b (chkS_of (by assumption) (by omega)) (by omega)) (by decide)
   ·refine W.sreg (WO.p rfl rfl (WO.len rfl rfl hR.sl rfl (WO.p rfl rfl (WO.p rfl rfl ?_))))
    refine WO.guard_bl rfl rfl (fun c4=>?_) (fun c4=>?_)
    ·refine WO.pg rfl rfl rfl (WO.pg rfl rfl rfl (WO.go' rfl (WO.len rfl rfl hR.sl rfl (WO.go' rfl (WO.ar rfl rfl rfl (by unfold in64;omega) rfl (WO.go' rfl ?_))))))
     refine' WO.indexAddrZ (n:=_) rfl rfl rfl ?hs ?h00 ?h1 rfl ?_
     case hs=>exact hR.sl
     case h00=>omega
     case h1=>(omega)
     refine WO.go' rfl ?_
     refine' WO.load (v:=_) rfl rfl ?hc rfl ?_
     case hc=>(first | (refine hR.cell0 (i:=((taps.length:Int)-1).toNat) ?_ 0 ?_ <;> first | rfl | omega))
     refine WO.pg rfl rfl rfl (WO.p rfl rfl (WO.p rfl rfl (WO.nil ?_)))
     refine W.cond_bl rfl (fun c5=>?_) (fun c5=>?_)
     ·refine W.sreg (WO.p rfl rfl (WO.p rfl rfl (WO.nil (W.ret (fin.ret (Res.two rfl (RV.tmp rfl) (RV.tmp rfl)) ?_)))))
      exact perV_err (perE_c (chkS_of (by assumption) (by omega)) (by omega) (per_last' (by omega) (by assumption))) (by decide)
     ·refine W.skip ?_
      have hok:chkS taps start=0:=chkS_of (by omega) (by omega)
      have hpe:perE taps start=0:=perE_d hok (by omega) (per_last (by (right;assumption)))
      obtain ⟨_,h12,hlast⟩:=perE_0 hpe
      have h1:=chkB0.1 (chkS0.1 hok).1.1
      have h2:=chkB0.1 (chkS0.1 hok).1.2
      have hln:=(chkS0.1 hok).2
      obtain ⟨q,hq1,hq⟩:=per_ex h2.2 hln hlast
      have hq2:q≤4096:=Nat.le_trans hq1 (Nat.le_trans (Nat.pow_le_pow_right (by decide) h12) (by decide))
      refine W.sreg (WO.p rfl rfl (WO.callR (r:=stepV (tN taps) taps.length) rfl Tryz.call45 (fun L w hi=>c_newStep w _ taps (hR.later hi) h1.2 (by omega)) rfl (WO.p rfl rfl (WO.callR (r:=stateV (sN start)) rfl Tryz.call48 (fun L w hi=>c_newState w _ start (hU.later hi) h2.2 (by omega)) rfl (WO.alloc rfl rfl rfl (fun b2 hb2=>(WO.alloc rfl rfl rfl (fun b3 hb3=>(WO.storeA rfl rfl rfl rfl (Pick.tail (Pick.head)) rfl rfl (WO.storeA rfl rfl rfl rfl (Pick.tail (Pick.head)) rfl rfl (WO.nil (W.sreg (WO.p rfl rfl (WO.nil (W.seq (W.sreg (WO.loadA rfl rfl (Cells.own (Pick.tail (Pick.head))) rfl rfl (WO.loadA rfl rfl (Cells.own Pick.head) rfl rfl ?_))))))))))))))))))
      refine WO.callR (r:=stateV (sN (winL taps start 1))) rfl Tryz.call46 (fun L w hi=>by rw [← on_win hln 0];exact c_on w taps (winL taps start 0) h1.2 (win_ok h2.2 0) (by rw [win_len];exact hln) (by omega)) rfl (WO.alloc rfl rfl rfl (fun b4 hb4=>(WO.storeA rfl rfl rfl rfl Pick.head rfl rfl (WO.nil (W.block ?_)))))
      refine W.loop4 (fun (n:Nat) (fb:Nat) (sb:Nat) (xb:Nat)=>0<n∧n≤q)
       (fun (n:Nat) (fb:Nat) (sb:Nat) (xb:Nat)=>[(10,.pointer (some ⟨xb,0,none⟩)),(9,.int .i64 (n:Int)),(8,.pointer (some ⟨fb,0,none⟩)),(7,.pointer (some ⟨sb,0,none⟩))])
       (fun (n:Nat) (fb:Nat) (sb:Nat) (xb:Nat)=>[pt xb (.cells #[.int .u32 (sN (winL taps start n):Int)] 113 (0,0)),pt fb (.cells #[.int .u32 (sN start:Int)] 113 (0,0)),pt sb (.cells #[.int .u32 (tN taps:Int),.int .i64 (taps.length:Int)] 109 (0,0))])
       (fun (n:Nat) (fb:Nat) (sb:Nat) (xb:Nat)=>q-n) 1 _ _ _
       (by exact ⟨by omega,hq.1⟩) ⟨rfl,rfl,rfl,rfl,trivial⟩ (by repeat (first | exact Sub.nil | refine Sub.cons (by repeat exact .head) ?_)) ?_
      rintro n fb sb xb ⟨hn0,hnq⟩
      refine W.seq (W.sreg (WO.loadA rfl rfl (Cells.own Pick.head) rfl rfl (WO.loadA rfl rfl (Cells.own (Pick.tail (Pick.head))) rfl rfl (WO.eqT rfl rfl (neq67 _ _) rfl (WO.nil ?_)))))
      refine W.cond_bl rfl (fun c6=>?_) (fun c6=>?_)
      ·refine W.skip (W.seq (W.block ?_))
       have hlt:=per_lt hq hnq (fun e=>absurd (congrArg sN e) (by assumption))
       refine W.region (WO.p rfl rfl (WO.ar rfl rfl rfl (by unfold in64;omega) rfl (WO.p rfl rfl (WO.nil (W.seq (W.sreg (WO.loadA rfl rfl (Cells.own Pick.head) rfl rfl (WO.nil (W.region (WO.alloc rfl rfl rfl (fun b5 hb5=>(WO.storeA rfl rfl rfl rfl Pick.head rfl rfl (WO.nil (W.region (WO.loadA rfl rfl (Cells.own (Pick.tail (Pick.tail (Pick.tail (Pick.head))))) rfl rfl (WO.loadA rfl rfl (Cells.own Pick.head) rfl rfl (WO.callR (r:=stateV (sN (winL taps start (n+1)))) rfl Tryz.call46 (fun L w hi=>by rw [← on_win hln n];exact c_on w taps (winL taps start n) h1.2 (win_ok h2.2 n) (by rw [win_len];exact hln) (by omega)) rfl ?_)))))))))))))))))
       refine WO.storeA rfl rfl rfl rfl Pick.head rfl rfl (WO.nil ?_)
       refine' ⟨n+1,_,_,_,?hp,?hmu,⟨rfl,rfl,rfl,rfl,trivial⟩,?hS⟩
       case hS=>repeat (first | exact Sub.nil | refine Sub.cons (by repeat first | exact .head | apply Pick.tail) ?_)
       case hp=>exact ⟨by omega,hlt⟩
       case hmu=>omega
      ·refine W.exit (blk_same (W.sreg (WO.p rfl rfl (WO.p rfl rfl (WO.p rfl rfl (WO.nil (W.ret (fin.ret (Res.two rfl (RV.tmp rfl) (RV.tmp rfl)) ?_))))))))
       (have q1:=hnq;refine perV_ok hpe ?_;have e:sN (winL taps start n)=sN start:=Decidable.not_not.1 (by assumption);have e2:=sN_inj (win_ok h2.2 n) h2.2 (win_len _ _ _) e;rw [per_at hq hn0 hnq e2];exact hq)
    ·refine WO.no rfl rfl (WO.no rfl rfl (WO.no rfl rfl (WO.no rfl rfl (WO.no rfl rfl (WO.no rfl rfl (WO.no rfl rfl (WO.p rfl rfl (WO.p rfl rfl (WO.nil (W.cond_f rfl (W.skip ?_)))))))))))
     have hok:chkS taps start=0:=chkS_of (by omega) (by omega)
     have hpe:perE taps start=0:=perE_d hok (by omega) (per_last (by (left;omega)))
     obtain ⟨_,h12,hlast⟩:=perE_0 hpe
     have h1:=chkB0.1 (chkS0.1 hok).1.1
     have h2:=chkB0.1 (chkS0.1 hok).1.2
     have hln:=(chkS0.1 hok).2
     obtain ⟨q,hq1,hq⟩:=per_ex h2.2 hln hlast
     have hq2:q≤4096:=Nat.le_trans hq1 (Nat.le_trans (Nat.pow_le_pow_right (by decide) h12) (by decide))
     refine W.sreg (WO.p rfl rfl (WO.callR (r:=stepV (tN taps) taps.length) rfl Tryz.call45 (fun L w hi=>c_newStep w _ taps (hR.later hi) h1.2 (by omega)) rfl (WO.p rfl rfl (WO.callR (r:=stateV (sN start)) rfl Tryz.call48 (fun L w hi=>c_newState w _ start (hU.later hi) h2.2 (by omega)) rfl (WO.alloc rfl rfl rfl (fun b6 hb6=>(WO.alloc rfl rfl rfl (fun b7 hb7=>(WO.storeA rfl rfl rfl rfl (Pick.tail (Pick.head)) rfl rfl (WO.storeA rfl rfl rfl rfl (Pick.tail (Pick.head)) rfl rfl (WO.nil (W.sreg (WO.p rfl rfl (WO.nil (W.seq (W.sreg (WO.loadA rfl rfl (Cells.own (Pick.tail (Pick.head))) rfl rfl (WO.loadA rfl rfl (Cells.own Pick.head) rfl rfl ?_))))))))))))))))))
     refine WO.callR (r:=stateV (sN (winL taps start 1))) rfl Tryz.call46 (fun L w hi=>by rw [← on_win hln 0];exact c_on w taps (winL taps start 0) h1.2 (win_ok h2.2 0) (by rw [win_len];exact hln) (by omega)) rfl (WO.alloc rfl rfl rfl (fun b8 hb8=>(WO.storeA rfl rfl rfl rfl Pick.head rfl rfl (WO.nil (W.block ?_)))))
     refine W.loop4 (fun (n:Nat) (fb:Nat) (sb:Nat) (xb:Nat)=>0<n∧n≤q)
      (fun (n:Nat) (fb:Nat) (sb:Nat) (xb:Nat)=>[(10,.pointer (some ⟨xb,0,none⟩)),(9,.int .i64 (n:Int)),(8,.pointer (some ⟨fb,0,none⟩)),(7,.pointer (some ⟨sb,0,none⟩))])
      (fun (n:Nat) (fb:Nat) (sb:Nat) (xb:Nat)=>[pt xb (.cells #[.int .u32 (sN (winL taps start n):Int)] 113 (0,0)),pt fb (.cells #[.int .u32 (sN start:Int)] 113 (0,0)),pt sb (.cells #[.int .u32 (tN taps:Int),.int .i64 (taps.length:Int)] 109 (0,0))])
      (fun (n:Nat) (fb:Nat) (sb:Nat) (xb:Nat)=>q-n) 1 _ _ _
      (by exact ⟨by omega,hq.1⟩) ⟨rfl,rfl,rfl,rfl,trivial⟩ (by repeat (first | exact Sub.nil | refine Sub.cons (by repeat exact .head) ?_)) ?_
     rintro n fb sb xb ⟨hn0,hnq⟩
     refine W.seq (W.sreg (WO.loadA rfl rfl (Cells.own Pick.head) rfl rfl (WO.loadA rfl rfl (Cells.own (Pick.tail (Pick.head))) rfl rfl (WO.eqT rfl rfl (neq67 _ _) rfl (WO.nil ?_)))))
     refine W.cond_bl rfl (fun c7=>?_) (fun c7=>?_)
     ·refine W.skip (W.seq (W.block ?_))
      have hlt:=per_lt hq hnq (fun e=>absurd (congrArg sN e) (by assumption))
      refine W.region (WO.p rfl rfl (WO.ar rfl rfl rfl (by unfold in64;omega) rfl (WO.p rfl rfl (WO.nil (W.seq (W.sreg (WO.loadA rfl rfl (Cells.own Pick.head) rfl rfl (WO.nil (W.region (WO.alloc rfl rfl rfl (fun b9 hb9=>(WO.storeA rfl rfl rfl rfl Pick.head rfl rfl (WO.nil (W.region (WO.loadA rfl rfl (Cells.own (Pick.tail (Pick.tail (Pick.tail (Pick.head))))) rfl rfl (WO.loadA rfl rfl (Cells.own Pick.head) rfl rfl (WO.callR (r:=stateV (sN (winL taps start (n+1)))) rfl Tryz.call46 (fun L w hi=>by rw [← on_win hln n];exact c_on w taps (winL taps start n) h1.2 (win_ok h2.2 n) (by rw [win_len];exact hln) (by omega)) rfl ?_)))))))))))))))))
      refine WO.storeA rfl rfl rfl rfl Pick.head rfl rfl (WO.nil ?_)
      refine' ⟨n+1,_,_,_,?hp,?hmu,⟨rfl,rfl,rfl,rfl,trivial⟩,?hS⟩
      case hS=>repeat (first | exact Sub.nil | refine Sub.cons (by repeat first | exact .head | apply Pick.tail) ?_)
      case hp=>exact ⟨by omega,hlt⟩
      case hmu=>omega
     ·refine W.exit (blk_same (W.sreg (WO.p rfl rfl (WO.p rfl rfl (WO.p rfl rfl (WO.nil (W.ret (fin.ret (Res.two rfl (RV.tmp rfl) (RV.tmp rfl)) ?_))))))))
      (have q1:=hnq;refine perV_ok hpe ?_;have e:sN (winL taps start n)=sN start:=Decidable.not_not.1 (by assumption);have e2:=sN_inj (win_ok h2.2 n) h2.2 (win_len _ _ _) e;rw [per_at hq hn0 hnq e2];exact hq)
end Go.Proofs.YtncjabmlkgacdaaGreat.Wv
namespace Go.Proofs.YtncjabmlkgacdaaGreat.Wv
open Go Go.TH Go.TH.Wv
attribute [local irreducible] W WO pt
set_option maxRecDepth 10000
set_option maxHeartbeats 1000000
end Go.Proofs.YtncjabmlkgacdaaGreat.Wv
namespace Go.Proofs.YtncjabmlkgacdaaGreat.Wv
open Go Go.TH Go.TH.Wv
attribute [local irreducible] W WO pt
set_option maxRecDepth 10000
set_option maxHeartbeats 1000000
def SetP (b:Nat) (ks:List Nat):HP:=fun h=>∃ (es:Array MapEntry) (clk:Nat),es.toList.map (·.key)=ks.map stateV∧pt b (.map es clk) h
theorem run_eq67 (w:World) (a b:Nat):(Op.equal 113 (stateV a) (stateV b)).run Tryz.prog w=.ok (bl (a=b)) w:=by
 unfold stateV
 simp [Op.equal,Op.maxDepth,go_sem,Tryz.underlying113]
 by_cases h1:a=b
 ·subst h1;simp [bl_eq]
 ·have h2:¬ (a:Int)=(b:Int):=by omega
  simp [h1,h2,bl_eq]
theorem run_check62 (w:World) (e:Bool) (n:Nat) (v:Value):(Instr.checkKey e (n+1) 25 v).run Tryz.prog w=.ok () w:=by
 unfold Instr.checkKey
 simp [run_underlying Tryz.underlying25]
theorem run_check67 (w:World) (e:Bool) (a:Nat):(Instr.checkKey e 10000 113 (stateV a)).run Tryz.prog w=.ok () w:=by
 unfold stateV
 rw [show (10000:Nat)=9998+1+1 from rfl]
 unfold Instr.checkKey
 simp [go_sem,run_underlying Tryz.underlying113,run_check62]
theorem find67 (w:World) (k:Nat):∀ (es:List MapEntry) (ks:List Nat) (i:Nat),es.map (·.key)=ks.map stateV →
 (k∈ks∧∃ j v,(Instr.findAsking 113 (stateV k) es i).run Tryz.prog w=.ok (some (i+j,v)) w∧(es.eraseIdx j).map (·.key)=(ks.erase k).map stateV)∨(k ∉ ks∧(Instr.findAsking 113 (stateV k) es i).run Tryz.prog w=.ok none w)
 | [],ks,i,h=>by
  obtain rfl:ks=[]:=by cases ks with
   | nil=>rfl
   | cons a r=>simp at h
  exact .inr ⟨by simp,by simp [Instr.findAsking]⟩
 | e::es,[],i,h=>by simp at h
 | e::es,a::r,i,h=>by
  simp only [List.map_cons,List.cons.injEq] at h
  obtain ⟨h1,h2⟩:=h
  by_cases g:k=a
  ·subst g
   refine .inl ⟨by simp,0,e.val,?_,?_⟩
   ·simp [Instr.findAsking,h1,run_eq67,bl_eq]
   ·simpa using h2
  ·rcases find67 w k es r (i+1) h2 with ⟨q1,j,v,q2,q3⟩ | ⟨q1,q2⟩
   ·refine .inl ⟨by simp [q1],j+1,v,?_,?_⟩
    ·simp [Instr.findAsking,h1,run_eq67,bl_eq,g,q2]
     omega
    ·rw [List.eraseIdx_cons_succ,List.map_cons,q3,List.erase_cons_tail (by simp;exact fun e=>g e.symm),List.map_cons,h1]
   ·exact .inr ⟨by simp [g,q1],by simp [Instr.findAsking,h1,run_eq67,bl_eq,g,q2]⟩
theorem key67 (w:World) (k:Nat) (es:List MapEntry):(Instr.findKey 113 (stateV k) es).run Tryz.prog w=(Instr.findAsking 113 (stateV k) es).run Tryz.prog w:=run_findKey_eq w (by simp [Tryz.underlying113]) _ _
theorem setP_nil {b:Nat} {H H':List HP} (p:Pick (pt b (.map #[] 0)) H H'):∀ h,sat H h→sat (SetP b []::H') h:=fun h hs=>by
 obtain ⟨h1,h2,s,a,r⟩:=p.sat hs
 exact ⟨h1,h2,s,⟨#[],0,rfl,a⟩,r⟩
section
variable {C:Cx Tryz.prog} {E:Env} {H:List HP}
variable {ops:Array Oper} {K:KP} {rest:List Oper} {d:Nat} {ty:TypeId} {pos:String} {af:Array Edge} {x y z:Operand} {T:TypeId}
theorem SetP.open {w0 w:World} {M:List Nat} {L H':List HP} {b:Nat} {ks:List Nat} (p:Pick (SetP b ks) H H') (hi:TH.Inv w0 M (L++H) w):∃ (es:Array MapEntry) (clk:Nat),es.toList.map (·.key)=ks.map stateV∧TH.Inv w0 M (pt b (.map es clk)::(L++H')) w:=by
 have h1:=(hi.pickL p).perm List.perm_middle
 obtain ⟨ha,hb,s,⟨es,clk,e,q⟩,hr⟩:=h1.mine
 exact ⟨es,clk,e,h1.os,h1.tape,h1.output,h1.size,h1.keep,ha,hb,s,q,hr⟩
theorem SetP.shut {w0 w:World} {M:List Nat} {L H':List HP} {b clk:Nat} {es:Array MapEntry} {ks:List Nat} (e:es.toList.map (·.key)=ks.map stateV) (hi:TH.Inv w0 M (pt b (.map es clk)::(L++H')) w):TH.Inv w0 M (L++SetP b ks::H') w:=by
 have h2:TH.Inv w0 M (SetP b ks::(L++H')) w:=⟨hi.os,hi.tape,hi.output,hi.size,hi.keep,sat_mono (fun h q=>⟨es,clk,e,q⟩) hi.mine⟩
 exact h2.perm (List.perm_middle (l₁:=L) (l₂:=H')).symm
theorem WO.setIn {b k:Nat} {ks:List Nat} {u:Value} {H':List HP} {et:TypeId} (hT:Tryz.prog.underlying T=some (.map 113 et)) (hm:ev E x=some (.map (some b))) (hk:ev E y=some (stateV k)) (hu:ev E z=some u) (p:Pick (SetP b ks) H H') (hn:k ∉ ks)
 (h:WO C ops rest K E (SetP b (ks++[k])::H')):WO C ops (⟨none,.mapUpdate T x y z,ty,pos,af,none⟩::rest) K E H:=by
 refine WO.step0 rfl rfl (XO.run (by simp) fun L a w hfr hi=>?_)
 obtain ⟨es,clk,he,hi'⟩:=SetP.open p hi
 have hl:=(hi'.look .head).1
 have hlt:b<w.heap.size:=(Array.getElem?_eq_some_iff.1 hl).1
 have hf:(Instr.findKey 113 (stateV k) es.toList).run Tryz.prog w=.ok none w:=by
  rw [key67]
  rcases find67 w k es.toList ks 0 he with ⟨q,_⟩ | ⟨_,q⟩
  ·exact absurd q hn
  ·exact q
 refine ⟨undef,{ w with heap:=w.heap.setIfInBounds b (.map (es.push { key:=stateV k,val:=u,born:=clk }) (clk+1)) },_,.inr ⟨?_,rfl⟩,h,?_⟩
 ·have hr:(Instr.mapUpdate T (.map (some b)) (stateV k) u).run Tryz.prog w=.ok () { w with heap:=w.heap.setIfInBounds b (.map (es.push { key:=stateV k,val:=u,born:=clk }) (clk+1)) }:=by
   simp [Instr.mapUpdate,run_underlying hT,getMap_run hl,run_check67,hf]
   simp [setObj,Sem.run,hl,Result.andThen]
  simp [execOp,hfr.eval hm,hfr.eval hk,hfr.eval hu,hr]
 ·have hs:=hi'.set (o':=.map (es.push { key:=stateV k,val:=u,born:=clk }) (clk+1)) .head (w':={ w with heap:=w.heap.setIfInBounds b (.map (es.push { key:=stateV k,val:=u,born:=clk }) (clk+1)) }) rfl rfl rfl (by simp) (by simp [hlt]) (fun k hk=>by simp [Array.getElem?_setIfInBounds_ne (Ne.symm hk)])
  exact SetP.shut (by simp [he]) hs
theorem WO.setOut {b k:Nat} {ks:List Nat} {H':List HP} {et:TypeId} {ts:Array TypeId} (hts:ts[0]?=some T) (hT:Tryz.prog.underlying T=some (.map 113 et)) (hm:ev E x=some (.map (some b))) (hk:ev E y=some (stateV k)) (p:Pick (SetP b ks) H H')
 (h:WO C ops rest K E (SetP b (ks.erase k)::H')):WO C ops (⟨none,.call ⟨.builtin .delete,#[x,y],ts⟩,ty,pos,af,none⟩::rest) K E H:=by
 refine WO.step0 rfl rfl (XO.run (by simp) fun L a w hfr hi=>?_)
 obtain ⟨es,clk,he,hi'⟩:=SetP.open p hi
 have hl:=(hi'.look .head).1
 have hlt:b<w.heap.size:=(Array.getElem?_eq_some_iff.1 hl).1
 obtain ⟨es',he',hr⟩:∃ es':Array MapEntry,es'.toList.map (·.key)=(ks.erase k).map stateV∧(Builtin.delete_ ts ty #[.map (some b),stateV k]).run Tryz.prog w=.ok (.tuple #[]) { w with heap:=w.heap.setIfInBounds b (.map es' clk) }:=by
  rcases find67 w k es.toList ks 0 he with ⟨_,j,v,q2,q3⟩ | ⟨q1,q2⟩
  ·rw [← key67] at q2
   refine ⟨es.eraseIdxIfInBounds j,?_,?_⟩
   ·rw [Array.toList_eraseIdxIfInBounds];exact q3
   ·simp [Builtin.delete_,hts,run_underlying hT,getMap_run hl,run_check67,q2]
    simp [setObj,Sem.run,hl,Result.andThen]
  ·rw [← key67] at q2
   refine ⟨es,by rw [List.erase_of_not_mem q1];exact he,?_⟩
   simp [Builtin.delete_,hts,run_underlying hT,getMap_run hl,run_check67,q2]
   simp [setObj,Sem.run,hl,Result.andThen]
 refine ⟨.tuple #[],{ w with heap:=w.heap.setIfInBounds b (.map es' clk) },_,.inl ?_,h,?_⟩
 ·simp [execOp,resolve,hfr.eval hm,hfr.eval hk,Deferred.ofValue,invoke,builtin,hr]
 ·have hs:=hi'.set (o':=.map es' clk) .head (w':={ w with heap:=w.heap.setIfInBounds b (.map es' clk) }) rfl rfl rfl (by simp) (by simp [hlt]) (fun k hk=>by simp [Array.getElem?_setIfInBounds_ne (Ne.symm hk)])
  exact SetP.shut he' hs
theorem WO.setLen {b:Nat} {ks:List Nat} {H':List HP} {kt et:TypeId} {ts:Array TypeId} (hts:ts[0]?=some T) (hT:Tryz.prog.underlying T=some (.map kt et)) (hm:ev E x=some (.map (some b))) (p:Pick (SetP b ks) H H') (hN:Nat.blt d C.N=true)
 (h:WO C ops rest K ((d,.int .i64 (ks.length:Int))::E) (SetP b ks::H')):WO C ops (⟨some d,.call ⟨.builtin .len,#[x],ts⟩,ty,pos,af,none⟩::rest) K E H:=by
 refine WO.step rfl rfl hN (XO.run (by simp) fun L a w hfr hi=>?_)
 obtain ⟨es,clk,he,hi'⟩:=SetP.open p hi
 have hl:=(hi'.look .head).1
 have hsz:es.size=ks.length:=by have:=congrArg List.length he;simpa using this
 have hr:(Builtin.len_ ts ty #[.map (some b)]).run Tryz.prog w=.ok (.int .i64 (ks.length:Int)) w:=by
  simp [Builtin.len_,hts,run_underlying hT,getMap_run hl,hsz,goInt]
 refine ⟨_,w,_,.inl ?_,h,SetP.shut he hi'⟩
 simp [execOp,resolve,hfr.eval hm,Deferred.ofValue,invoke,builtin,hr]
end
end Go.Proofs.YtncjabmlkgacdaaGreat.Wv
namespace Go.Proofs.YtncjabmlkgacdaaGreat.Wv
open Go Go.TH Go.TH.Wv
set_option maxRecDepth 10000
set_option maxHeartbeats 1000000
/-- the state 1 -/
def oneL (L:Nat):List Int:=(List.replicate L 0).set 0 1
theorem oneL_len (L:Nat):(oneL L).length=L:=by unfold oneL;simp
theorem oneL_bt {L:Nat} (h:0<L) (i:Nat):bt (oneL L) i=if i=0 then 1 else 0:=by
  unfold oneL bt
  simp only [List.getD_eq_getElem?_getD,List.getElem?_set,List.getElem?_replicate,List.length_replicate]
  by_cases g:i=0
  · subst g;simp [h]
  · have:¬ 0=i:=fun e=>g e.symm
    rw [if_neg this,if_neg g]
    by_cases g2:i<L <;> simp [g2]
theorem oneL_ok (L:Nat):OkBs (oneL L):=fun x hx=>by
  unfold oneL at hx
  rcases List.mem_or_eq_of_mem_set hx with h | h
  · left;exact List.eq_of_mem_replicate h
  · right;exact h
theorem sN_one {L:Nat} (h:0<L):sN (oneL L)=1:=cfb fun i=>by
  rw [sN_bit (oneL_ok L),oneL_bt h]
  have:=one_bit 0 i
  rw [Nat.shiftLeft_zero] at this
  rw [this]
  by_cases g:i=0
  · subst g;simp
  · have:¬ 0=i:=fun e=>g e.symm
    simp [g,this]
/-- the states that are not yet seen -/
def leftL (taps start:List Int) (M:Nat):Nat→List Nat
  | 0=>(List.range M).map (·+1)
  | m+1=>(leftL taps start M m).erase (sN (winL taps start m))
/-! ### the windows of a start that has a 1 -/
/-! ### the taps of a number -/
def tapsF (L n:Nat):List Int:=(List.range L).map fun j=>((n>>>(L-1-j)%2:Nat):Int)
theorem tapsF_len (L n:Nat):(tapsF L n).length=L:=by unfold tapsF;simp
theorem tapsF_ok (L n:Nat):OkBs (tapsF L n):=fun x hx=>by
  unfold tapsF at hx
  obtain ⟨j,_,rfl⟩:=List.mem_map.1 hx
  show _=0∨_=1
  omega
/-- whether a number is that of a full register -/
def fullB (L n:Nat):Bool:=decide (n%2=1∧leftL (tapsF L n) (oneL L) (2 ^ L-1) (2 ^ L)=[])
def fullU (L m:Nat):List (List Int):=((List.range m).filter (fullB L)).map (tapsF L)
def fullL (L:Nat):List (List Int):=fullU L (2 ^ L)
theorem fullU_yes {L m:Nat} (h:fullB L m=true):fullU L (m+1)=fullU L m++[tapsF L m]:=by
  unfold fullU
  rw [List.range_succ,List.filter_append,List.map_append]
  simp [h]
theorem fullU_no {L m:Nat} (h:fullB L m=false):fullU L (m+1)=fullU L m:=by
  unfold fullU
  rw [List.range_succ,List.filter_append,List.map_append]
  simp [h]
theorem fullB_even {L m:Nat} (h:m%2=0):fullB L m=false:=by unfold fullB;simp;omega
theorem fullU_len (L m:Nat):(fullU L m).length≤m:=by
  unfold fullU
  rw [List.length_map]
  have:=List.length_filter_le (fullB L) (List.range m)
  simpa using this
end Go.Proofs.YtncjabmlkgacdaaGreat.Wv
namespace Go.Proofs.YtncjabmlkgacdaaGreat.Wv
open Go Go.TH Go.TH.Wv
attribute [local irreducible] W WO pt
set_option maxRecDepth 10000
set_option maxHeartbeats 2000000
def fullE (long:Int):Int:=if long<1∨8<long then 2 else 0
def fullR (long:Int):List (List Int):=if fullE long=0 then fullL long.toNat else []
theorem shl_one (L:Nat):1<<<L=2 ^ L:=by rw [Nat.shiftLeft_eq,Nat.one_mul]
theorem fitsP {L:Nat} (h:L≤8):Fits .i64 (1<<<L):=by
 rw [shl_one]
 exact Nat.lt_of_le_of_lt (Nat.pow_le_pow_right (by decide) h) (by decide)
theorem fits_i {a:Nat} (h:a<9223372036854775808):Fits .i64 a:=h
theorem tapsF_step {L n i:Nat} (h:i<L):((tapsF L n).take i++List.replicate (L-i) 0).set i (((n>>>(L-1-i))&&&1:Nat):Int)=(tapsF L n).take (i+1)++List.replicate (L-(i+1)) 0:=by
 have hl:((tapsF L n).take i).length=i:=by rw [List.length_take,tapsF_len];omega
 rw [List.set_append_right _ _ (by rw [hl];exact Nat.le_refl i),hl,Nat.sub_self,show L-i=(L-(i+1))+1 by omega,List.replicate_succ,List.set_cons_zero,take_succ_getD (by rw [tapsF_len];exact h) 0,List.append_assoc]
 have e:(tapsF L n).getD i 0=((n>>>(L-1-i)%2:Nat):Int):=mapR_get 0 h
 rw [e,Nat.and_one_is_mod]
 rfl
theorem left_all (taps start:List Int) (M:Nat):(List.range M).map (·+1)=leftL taps start M 0:=rfl
theorem range_in {m:Nat} (h:0<m):(List.range (m-1)).map (·+1)++[m]=(List.range m).map (·+1):=by
 obtain ⟨k,rfl⟩:∃ k,m=k+1:=⟨m-1,by omega⟩
 rw [List.range_succ,List.map_append];rfl
theorem range_no {m:Nat}:m ∉ (List.range (m-1)).map (·+1):=fun h=>by
 obtain ⟨a,ha,e⟩:=List.mem_map.1 h
 have:=List.mem_range.1 ha
 omega
theorem pow_le {L:Nat} (h:L≤8):2 ^ L≤256:=Nat.le_trans (Nat.pow_le_pow_right (by decide) h) (by decide)
theorem full_yes {L n:Nat} (h:n%2=1) (h2:((leftL (tapsF L n) (oneL L) (2 ^ L-1) (2 ^ L)).length:Int)=0):fullB L n=true:=by
 unfold fullB
 rw [decide_eq_true_eq]
 exact ⟨h,List.eq_nil_of_length_eq_zero (by omega)⟩
theorem full_no {L n:Nat} (h2:¬ ((leftL (tapsF L n) (oneL L) (2 ^ L-1) (2 ^ L)).length:Int)=0):fullB L n=false:=by
 unfold fullB
 rw [decide_eq_false_iff_not]
 rintro ⟨_,e⟩
 rw [e] at h2
 exact h2 rfl
theorem full_two {L n:Nat} (h:n%2=1) (h2:fullB L n=true):fullU L (n+2)=fullU L n++[tapsF L n]:=by
 rw [show n+2=n+1+1 by omega,fullU_no (fullB_even (by omega)),fullU_yes h2]
theorem full_skip {L n:Nat} (h:n%2=1) (h2:fullB L n=false):fullU L (n+2)=fullU L n:=by
 rw [show n+2=n+1+1 by omega,fullU_no (fullB_even (by omega)),fullU_no h2]
theorem pow_even {L:Nat} (h:0<L):2 ^ L%2=0:=by
 obtain ⟨k,rfl⟩:∃ k,L=k+1:=⟨L-1,by omega⟩
 rw [Nat.pow_succ];omega
theorem full_end {L:Nat} (h:0<L):fullU L (2 ^ L+1)=fullL L:=fullU_no (fullB_even (pow_even h))
theorem fullE_0 {L:Nat} (h:1≤L) (h2:L≤8):fullE (L:Int)=0:=by unfold fullE;rw [if_neg (by omega)]
theorem fullR_ok {L:Nat} (h:1≤L) (h2:L≤8):fullR (L:Int)=fullL L:=by unfold fullR;rw [if_pos (fullE_0 h h2)];rfl
theorem full_err {long:Int} {H:List HP} (h:long<1∨8<long):∃ Z:Value × List Value,Value.tuple #[.slice none 0 0,.int .i64 2]=.tuple #[Z.1,.int .i64 (fullE long)]∧∀ h,sat H h→sat [OwC 64 1 Z.1 (fullR long).length Z.2,RowsE encI 3 1 Z.2 (fullR long)] h:=by
 have e:fullE long=2:=if_pos h
 have e2:fullR long=[]:=by unfold fullR;rw [e];rfl
 refine ⟨(.slice none 0 0,[]),by rw [e],fun h hs=>?_⟩
 rw [e2]
 exact Sub.sat (.cons .head (.cons .head .nil)) (owcNil (e:=64) (sz:=1) h (rowsNil (enc:=encI) (e:=3) (sz:=1) h hs))
theorem c_Full (w:World) (long:Int):Ct Tryz.prog 17 [.int .i64 long].toArray w fun r w'=>∃ Hq,(∃ Z:Value × List Value,r=.tuple #[Z.1,.int .i64 (fullE long)]∧Hq=[OwC 64 1 Z.1 (fullR long).length Z.2,RowsE encI 3 1 Z.2 (fullR long)])∧Inv w [] Hq w':=by
 refine Ct.ofI mixed tyTab Tryz.func17 rfl rfl (W.sreg (WO.p rfl rfl (WO.p rfl rfl (WO.nil (W.seq (W.sreg (WO.p rfl rfl (WO.p rfl rfl (WO.p rfl rfl ?_)))))))))
 refine WO.guard_bl rfl rfl (fun c1=>?_) (fun c1=>?_)
 ·refine WO.no rfl rfl (WO.no rfl rfl (WO.p rfl rfl (WO.nil (W.cond_t rfl (W.sreg (WO.p rfl rfl (WO.p rfl rfl (WO.nil (W.ret (fin.ret (Res.two rfl (RV.tmp rfl) (RV.tmp rfl)) ?_))))))))))
  first | (have q:=hn1;have h2:=pow_even (show 0<L by omega);obtain rfl:n=2 ^ L+1:=(by omega);refine ⟨(o,rv),by rw [fullE_0 (by omega) (by omega)],fun h hs=>?_⟩;rw [fullR_ok (by omega) (by omega),← full_end (show 0<L by omega)];exact Sub.sat (by repeat (first | exact Sub.nil | refine Sub.cons (by repeat first | exact .head | apply Pick.tail) ?_)) hs) | exact full_err (by omega)
 ·refine WO.pg rfl rfl rfl (WO.pg rfl rfl rfl (WO.p rfl rfl (WO.nil ?_)))
  refine W.cond_bl rfl (fun c2=>?_) (fun c2=>?_)
  ·refine W.sreg (WO.p rfl rfl (WO.p rfl rfl (WO.nil (W.ret (fin.ret (Res.two rfl (RV.tmp rfl) (RV.tmp rfl)) ?_)))))
   first | (have q:=hn1;have h2:=pow_even (show 0<L by omega);obtain rfl:n=2 ^ L+1:=(by omega);refine ⟨(o,rv),by rw [fullE_0 (by omega) (by omega)],fun h hs=>?_⟩;rw [fullR_ok (by omega) (by omega),← full_end (show 0<L by omega)];exact Sub.sat (by repeat (first | exact Sub.nil | refine Sub.cons (by repeat first | exact .head | apply Pick.tail) ?_)) hs) | exact full_err (by omega)
  ·refine W.skip ?_
   obtain ⟨L,rfl⟩:∃ L:Nat,long=(L:Int):=⟨long.toNat,by omega⟩
   have hp:=pow_le (show L≤8 by omega)
   have hp1:=shl_one L
   have hp0:1≤2 ^ L:=Nat.one_le_two_pow
   rw [← hp1] at hp hp0
   refine W.sreg (WO.p rfl rfl (WO.nil (W.seq (W.sreg (WO.p rfl rfl (WO.nil (W.block (W.chg (owcNil (e:=64) (sz:=1)) (W.chg (rowsNil (enc:=encI) (e:=3) (sz:=1)) ?_)))))))))
   refine W.loop3 (fun (n:Nat) (o:Value) (rv:List Value)=>n%2=1∧n≤1<<<L+1)
    (fun (n:Nat) (o:Value) (rv:List Value)=>[(5,.int .i64 (n:Int)),(4,o),(0,.int .i64 (L:Int))])
    (fun (n:Nat) (o:Value) (rv:List Value)=>[OwC 64 1 o (fullU L n).length rv,RowsE encI 3 1 rv (fullU L n)])
    (fun (n:Nat) (o:Value) (rv:List Value)=>1<<<L+1-n) 1 (.slice none 0 0) []
    (by exact ⟨rfl,by omega⟩) ⟨rfl,rfl,rfl,trivial⟩ (by repeat (first | exact Sub.nil | refine Sub.cons (by repeat first | exact .head | apply Pick.tail) ?_)) ?_
   rintro n o rv ⟨hn1,hn2⟩
   refine W.seq (W.sreg (WO.p rfl rfl (WO.p rfl rfl (WO.shlN (a:=1) (s:=L) rfl rfl (show L≤64 by omega) (fitsP (by omega)) rfl (WO.p rfl rfl (WO.nil ?_))))))
   refine W.cond_bl rfl (fun c3=>?_) (fun c3=>?_)
   ·refine W.skip (W.seq (W.block (W.sreg (WO.p rfl rfl (WO.makeI (n:=L) rfl rfl rfl rfl (by omega) (by omega) rfl (fun tb=>(WO.p rfl rfl (WO.nil (W.seq (W.sreg (WO.p rfl rfl (WO.len rfl rfl (isSl_lit (n:=L) (by omega) (fun _=>⟨_,_,rfl⟩)) rfl (WO.p rfl rfl (WO.nil (W.block ?_)))))))))))))))
    refine W.loop (fun (i:Nat)=>i≤L)
     (fun (i:Nat)=>[(28,.int .i64 (i:Int)),(27,.int .i64 (L:Int)),(6,.slice (some ⟨tb,0,none⟩) L L),(5,.int .i64 (n:Int)),(4,o),(0,.int .i64 (L:Int))])
     (fun (i:Nat)=>[OwE encI 3 1 (.slice (some ⟨tb,0,none⟩) L L) ((tapsF L n).take i++List.replicate (L-i) 0),OwC 64 1 o (fullU L n).length rv,RowsE encI 3 1 rv (fullU L n)])
     (fun (i:Nat)=>L-i) 0
     (by omega) ⟨rfl,rfl,rfl,rfl,rfl,rfl,trivial⟩ (by repeat (first | exact Sub.nil | refine Sub.cons (by repeat exact .head) ?_)) ?_
    rintro i hi0
    refine W.sreg (WO.p rfl rfl (WO.nil (W.seq ?_)))
    refine W.cond_bl rfl (fun c4=>?_) (fun c4=>?_)
    ·refine W.skip (W.seq (W.block (W.sreg (WO.p rfl rfl (WO.p rfl rfl (WO.nil (W.region (WO.p rfl rfl (WO.p rfl rfl (WO.p rfl rfl (WO.p rfl rfl (WO.ar rfl rfl rfl (by unfold in64;omega) rfl (WO.p rfl rfl (WO.ar rfl rfl rfl (by unfold in64;omega) rfl (WO.shrN (a:=n) (s:=L-1-i) rfl (by rw [show ((L-1-i:Nat):Int)=(L:Int)-1-(i:Int) by omega];rfl) (show L-1-i≤64 by omega) rfl (WO.andN (a:=n>>>(L-1-i)) (b:=1) rfl rfl ((fits_i (by omega)).shr) (fits01 (Nat.le_refl 1)) rfl (WO.indexAddr rfl rfl rfl (isSl_lit (n:=L) (by omega) (fun _=>⟨_,_,rfl⟩)) (by omega) rfl ?_)))))))))))))))))
     refine WO.storeE encI_ok rfl rfl rfl rfl (by repeat exact .head) (by rw [List.length_append,List.length_take,tapsF_len,List.length_replicate];omega) ?_
     rw [tapsF_step (by omega)]
     refine WO.nil (W.region (WO.ar rfl rfl rfl (by unfold in64;omega) rfl (WO.p rfl rfl (WO.nil ?_))))
     refine' ⟨i+1,?hp,?hmu,⟨rfl,rfl,rfl,rfl,rfl,rfl,trivial⟩,?hS⟩
     case hS=>repeat (first | exact Sub.nil | refine Sub.cons (by repeat exact .head) ?_)
     case hp=>omega
     case hmu=>omega
    ·refine W.exit (blk_same ?_)
     obtain rfl:L=i:=by omega
     rw [Nat.sub_self,List.replicate_zero,List.append_nil,List.take_of_length_le (Nat.le_of_eq (tapsF_len L n))]
     refine W.sreg (WO.p rfl rfl (WO.callR (r:=stepV (tN (tapsF L n)) L) rfl Tryz.call45 (fun L1 w hi=>by have h:=c_newStep w _ (tapsF L n) (RdF.of_ow (e:=3) encI_ok (by repeat exact .head) hi) (tapsF_ok L n) (by rw [tapsF_len];omega);rw [tapsF_len] at h;exact h) rfl (WO.alloc rfl rfl rfl (fun b1 hb1=>(WO.storeA rfl rfl rfl rfl Pick.head rfl rfl (WO.nil (W.sreg (WO.makeMap rfl (fun mb=>(WO.chg (setP_nil .head) (WO.p rfl rfl (WO.nil (W.seq (W.sreg (WO.p rfl rfl (WO.nil (W.block ?_)))))))))))))))))
     refine W.loop (fun (m:Nat)=>1≤m∧m≤1<<<L)
      (fun (m:Nat)=>[(10,.int .i64 (m:Int)),(9,.map (some mb)),(8,.pointer (some ⟨b1,0,none⟩)),(6,.slice (some ⟨tb,0,none⟩) L L),(5,.int .i64 (n:Int)),(4,o),(0,.int .i64 (L:Int))])
      (fun (m:Nat)=>[pt b1 (.cells #[.int .u32 (tN (tapsF L n):Int),.int .i64 (L:Int)] 109 (0,0)),SetP mb ((List.range (m-1)).map (·+1)),OwE encI 3 1 (.slice (some ⟨tb,0,none⟩) L L) (tapsF L n),OwC 64 1 o (fullU L n).length rv,RowsE encI 3 1 rv (fullU L n)])
      (fun (m:Nat)=>1<<<L-m) 1
      (by exact ⟨by omega,by omega⟩) ⟨rfl,rfl,rfl,rfl,rfl,rfl,rfl,trivial⟩ (by repeat (first | exact Sub.nil | refine Sub.cons (by repeat first | exact .head | apply Pick.tail) ?_)) ?_
     rintro m ⟨hm1,hm2⟩
     refine W.seq (W.sreg (WO.p rfl rfl (WO.p rfl rfl (WO.shlN (a:=1) (s:=L) rfl rfl (show L≤64 by omega) (fitsP (by omega)) rfl (WO.p rfl rfl (WO.nil ?_))))))
     refine W.cond_bl rfl (fun c5=>?_) (fun c5=>?_)
     ·refine W.skip (W.seq (W.block (W.region (WO.p rfl rfl (WO.p rfl rfl (WO.convI (b:=((m:Nat):Int)) rfl rfl rfl (wrap_nat (k:=.u32) (show m<2 ^ 32 by omega)) rfl (WO.build rfl rfl rfl rfl rfl (WO.p rfl rfl (WO.setIn (k:=m) (ks:=(List.range (m-1)).map (·+1)) Tryz.underlying111 rfl rfl rfl (by repeat first | exact .head | apply Pick.tail) range_no ?_)))))))))
      rw [range_in (by omega)]
      refine WO.nil (W.region (WO.p rfl rfl (WO.ar rfl rfl rfl (by unfold in64;omega) rfl (WO.p rfl rfl (WO.nil ?_)))))
      refine' ⟨m+1,?hp,?hmu,⟨rfl,rfl,rfl,rfl,rfl,rfl,rfl,trivial⟩,?hS⟩
      case hS=>repeat (first | exact Sub.nil | refine Sub.cons (by repeat first | exact .head | apply Pick.tail) ?_)
      case hp=>exact ⟨by omega,by omega⟩
      case hmu=>omega
     ·refine W.exit (blk_same ?_)
      obtain rfl:m=2 ^ L:=by omega
      rw [left_all (tapsF L n) (oneL L)]
      refine W.sreg (WO.build rfl rfl rfl rfl rfl (WO.alloc rfl rfl rfl (fun b2 hb2=>(WO.storeA rfl rfl rfl rfl Pick.head rfl rfl (WO.nil (W.seq (W.sreg (WO.p rfl rfl (WO.shlN (a:=1) (s:=L) rfl rfl (show L≤64 by omega) (fitsP (by omega)) rfl (WO.p rfl rfl (WO.nil (W.block ?_))))))))))))
      refine W.loop2 (fun (m:Nat) (xv:Int)=>m≤1<<<L∧xv=(sN (winL (tapsF L n) (oneL L) m):Int))
       (fun (m:Nat) (xv:Int)=>[(59,.int .i64 (m:Int)),(58,.int .i64 ((1<<<L:Nat):Int)),(11,.pointer (some ⟨b2,0,none⟩)),(9,.map (some mb)),(8,.pointer (some ⟨b1,0,none⟩)),(6,.slice (some ⟨tb,0,none⟩) L L),(5,.int .i64 (n:Int)),(4,o),(0,.int .i64 (L:Int))])
       (fun (m:Nat) (xv:Int)=>[pt b2 (.cells #[.int .u32 xv] 113 (0,0)),pt b1 (.cells #[.int .u32 (tN (tapsF L n):Int),.int .i64 (L:Int)] 109 (0,0)),SetP mb (leftL (tapsF L n) (oneL L) (2 ^ L-1) m),OwE encI 3 1 (.slice (some ⟨tb,0,none⟩) L L) (tapsF L n),OwC 64 1 o (fullU L n).length rv,RowsE encI 3 1 rv (fullU L n)])
       (fun (m:Nat) (xv:Int)=>1<<<L-m) 0 1
       (by exact ⟨by omega,by show (1:Int)=(sN (oneL L):Int);rw [sN_one (by omega)];rfl⟩) ⟨rfl,rfl,rfl,rfl,rfl,rfl,rfl,rfl,rfl,trivial⟩ (by repeat (first | exact Sub.nil | refine Sub.cons (by repeat exact .head) ?_)) ?_
      rintro m xv ⟨hm0,rfl⟩
      refine W.sreg (WO.p rfl rfl (WO.nil (W.seq ?_)))
      refine W.cond_bl rfl (fun c6=>?_) (fun c6=>?_)
      ·refine W.skip (W.seq (W.block (W.sreg (WO.p rfl rfl (WO.loadA rfl rfl (Cells.own Pick.head) rfl rfl (WO.setOut (k:=sN (winL (tapsF L n) (oneL L) m)) rfl Tryz.underlying111 rfl rfl (by repeat first | exact .head | apply Pick.tail) (WO.nil (W.region (WO.loadA rfl rfl (Cells.own (Pick.tail (Pick.tail (Pick.head)))) rfl rfl (WO.loadA rfl rfl (Cells.own (Pick.tail (Pick.head))) rfl rfl ?_))))))))))
       have hl:(oneL L).length=(tapsF L n).length:=by rw [oneL_len,tapsF_len]
       refine WO.callR (r:=stateV (sN (winL (tapsF L n) (oneL L) (m+1)))) rfl Tryz.call46 (fun L1 w hi=>by have h:=c_on w (tapsF L n) (winL (tapsF L n) (oneL L) m) (tapsF_ok L n) (win_ok (oneL_ok L) m) (by rw [win_len];exact hl) (by rw [tapsF_len];omega);rw [on_win hl,tapsF_len] at h;exact h) rfl (WO.storeA rfl rfl rfl rfl (Pick.tail (Pick.head)) rfl rfl (WO.nil (W.region (WO.ar rfl rfl rfl (by unfold in64;omega) rfl (WO.p rfl rfl (WO.nil ?_))))))
       refine' ⟨m+1,_,?hp,?hmu,⟨rfl,rfl,rfl,rfl,rfl,rfl,rfl,rfl,rfl,trivial⟩,?hS⟩
       case hS=>repeat (first | exact Sub.nil | refine Sub.cons (by repeat first | exact .head | apply Pick.tail) ?_)
       case hp=>exact ⟨by omega,rfl⟩
       case hmu=>omega
      ·refine W.exit (blk_same ?_)
       obtain rfl:m=2 ^ L:=by omega
       refine W.sreg (WO.p rfl rfl (WO.setLen rfl Tryz.underlying111 rfl (by repeat first | exact .head | apply Pick.tail) rfl (WO.p rfl rfl (WO.nil ?_))))
       refine W.cond_bl rfl (fun c7=>?_) (fun c7=>?_)
       ·refine W.region (WO.p rfl rfl (WO.p rfl rfl (WO.buildSl rfl rfl rfl rfl rfl rfl rfl rfl rfl (fun v3=>?_))))
        have hyes:fullB L n=true:=full_yes hn1 (by assumption)
        have hulen:=fullU_len L n
        refine' WO.append (m:=1) (news:=[.slice (some ⟨tb,0,none⟩) L L]) rfl rfl rfl rfl rfl (by repeat first | exact .head | apply Pick.tail) (isSl_lit (by omega) (fun _=>⟨_,_,rfl⟩)) (by omega) (OwC.cells (by repeat exact .head)) rfl (by simp [Value.oneCell']) (by omega) (by omega) rfl (fun g' c'=>?_)
        refine WO.chg (H':=OwC 64 1 (.slice (some ⟨g',0,none⟩) ((fullU L n).length+1) c') ((fullU L n).length+1) (rv++[.slice (some ⟨tb,0,none⟩) L L])::RowsE encI 3 1 rv (fullU L n)::OwE encI 3 1 (.slice (some ⟨tb,0,none⟩) L L) (tapsF L n)::[]) (fun h hs=>Sub.sat (by repeat (first | exact Sub.nil | refine Sub.cons (by repeat first | exact .head | apply Pick.tail) ?_)) hs) ?_
        refine WO.chg (rowsSnoc (enc:=encI) (e:=3) (sz:=1) (rv:=rv) (xss:=fullU L n) (xs:=tapsF L n) (r:=.slice (some ⟨tb,0,none⟩) L L) (.tail .head) (.tail .head)) ?_
        rw [← full_two hn1 hyes,show (fullU L n).length+1=(fullU L (n+2)).length by rw [full_two hn1 hyes];simp]
        refine WO.p rfl rfl (WO.nil ?_)
        skip
        refine W.region (WO.p rfl rfl (WO.ar rfl rfl rfl (by unfold in64;omega) rfl (WO.p rfl rfl (WO.nil ?_))))
        refine' ⟨n+2,_,_,?hp,?hmu,⟨rfl,rfl,rfl,trivial⟩,?hS⟩
        case hS=>repeat (first | exact Sub.nil | refine Sub.cons (by repeat first | exact .head | apply Pick.tail) ?_)
        case hp=>exact ⟨by omega,by omega⟩
        case hmu=>omega
       ·refine W.skip ?_
        (have hno:fullB L n=false:=full_no (by assumption);rw [show fullU L n=fullU L (n+2) from (full_skip hn1 hno).symm])
        refine W.region (WO.p rfl rfl (WO.ar rfl rfl rfl (by unfold in64;omega) rfl (WO.p rfl rfl (WO.nil ?_))))
        refine' ⟨n+2,_,_,?hp,?hmu,⟨rfl,rfl,rfl,trivial⟩,?hS⟩
        case hS=>repeat (first | exact Sub.nil | refine Sub.cons (by repeat first | exact .head | apply Pick.tail) ?_)
        case hp=>exact ⟨by omega,by omega⟩
        case hmu=>omega
   ·refine W.exit (blk_same (W.sreg (WO.p rfl rfl (WO.p rfl rfl (WO.p rfl rfl (WO.nil (W.ret (fin.ret (Res.two rfl (RV.tmp rfl) (RV.tmp rfl)) ?_))))))))
    first | (have q:=hn1;have h2:=pow_even (show 0<L by omega);obtain rfl:n=2 ^ L+1:=(by omega);refine ⟨(o,rv),by rw [fullE_0 (by omega) (by omega)],fun h hs=>?_⟩;rw [fullR_ok (by omega) (by omega),← full_end (show 0<L by omega)];exact Sub.sat (by repeat (first | exact Sub.nil | refine Sub.cons (by repeat exact .head) ?_)) hs) | exact full_err (by omega)
end Go.Proofs.YtncjabmlkgacdaaGreat.Wv
namespace Go.Proofs.YtncjabmlkgacdaaGreat
open Go Go.TH Sp
set_option maxRecDepth 10000
abbrev U3:=Int × Int × Int
abbrev u30:U3:=(0,0,0)
def encU (x:U3):List Value:=[.int .u8 x.1,.int .u8 x.2.1,.int .u8 x.2.2]
def nn (x:U3):Nat:=2+x.1.toNat%3
def fq (n:Nat):Int:=((2 ^ (n-1):Nat):Int)
def fR (A B:Int) (x:U3):Rn:=⟨fq (nn x)-1,fq (nn x),(fq (nn x)-1)*A+fq (nn x)*B,(fq (nn x)-1)*A+fq (nn x)*B⟩
def fL (A B:Int) (X:List U3) (k:Nat):List Rn:=(List.range k).map fun i=>fR A B (X.getD i u30)
theorem fL_succ (A B:Int) (X:List U3) (k:Nat):fL A B X k++[fR A B (X.getD k u30)]=fL A B X (k+1):=by unfold fL;rw [List.range_succ,List.map_append];rfl
theorem fL_len (A B:Int) (X:List U3) (k:Nat):(fL A B X k).length=k:=by unfold fL;simp
section
variable {A B:Int} {X:List U3} {k:Nat}
theorem fL_mem {r:Rn} (h:r∈fL A B X k):∃ i,i<k∧r=fR A B (X.getD i u30):=by
  obtain ⟨i,hi,rfl⟩:=List.mem_map.1 h
  exact ⟨i,List.mem_range.1 hi,rfl⟩
theorem fL_in {i:Nat} (h:i<k):fR A B (X.getD i u30)∈fL A B X k:=List.mem_map.2 ⟨i,List.mem_range.2 h,rfl⟩
theorem nn_cs (x:U3):nn x=2∧fq (nn x)=2∨nn x=3∧fq (nn x)=4∨nn x=4∧fq (nn x)=8:=by
  unfold nn
  have h:x.1.toNat%3=0∨x.1.toNat%3=1∨x.1.toNat%3=2:=by omega
  rcases h with h | h | h <;> rw [h] <;> simp [fq]
theorem nn_z {x:U3} (h:0≤x.1):2+x.1.tmod 3=(nn x:Int):=by
  unfold nn;rw [Int.tmod_eq_emod_of_nonneg h];omega
theorem fL_ok (hA : -128≤A∧A≤127) (hB : -128≤B∧B≤127) (hk:k≤8):chkRs (fL A B X k)=0 :=
  chkRs0.2 ⟨by rw [fL_len];omega,fun r hr=>by
    obtain ⟨i,_,rfl⟩:=fL_mem hr
    rcases nn_cs (X.getD i u30) with ⟨_,h⟩ | ⟨_,h⟩ | ⟨_,h⟩ <;> (unfold fR OkRn OkN;rw [h];dsimp only;omega)⟩
theorem fL_fit:fitL (fL A B X k) ⟨A,B,1⟩:=fun r hr=>by
  obtain ⟨i,_,rfl⟩:=fL_mem hr
  rcases nn_cs (X.getD i u30) with ⟨_,h⟩ | ⟨_,h⟩ | ⟨_,h⟩ <;> (unfold fR fitR;rw [h];dsimp only;omega)
theorem fL_val {t:Tru} (h:fitL (fL A B X k) t) {i j:Nat} (hi:i<k) (hj:j<k) (hn:nn (X.getD i u30)<nn (X.getD j u30)):t.a=A*t.d∧t.b=B*t.d:=by
  have g1:=h _ (fL_in hi)
  have g2:=h _ (fL_in hj)
  unfold fR fitR at g1 g2
  dsimp only at g1 g2
  rcases nn_cs (X.getD i u30) with ⟨e,q⟩ | ⟨e,q⟩ | ⟨e,q⟩ <;> rcases nn_cs (X.getD j u30) with ⟨e',q'⟩ | ⟨e',q'⟩ | ⟨e',q'⟩ <;> first | (exfalso;omega) | (rw [q] at g1;rw [q'] at g2;simp only [Int.add_mul,Int.mul_assoc] at g1 g2;omega)
theorem sd_lo {l:List Rn} {r:Rn} (h:r∈l):loS r∈sds l:=by
  unfold sds;exact List.mem_flatMap.2 ⟨r,h,by simp⟩
theorem sd_hi {l:List Rn} {r:Rn} (h:r∈l):hiS r∈sds l:=by
  unfold sds;exact List.mem_flatMap.2 ⟨r,h,by simp⟩
theorem fL_bnd {i j:Nat} (hi:i<k) (hj:j<k) (hn:nn (X.getD i u30)<nn (X.getD j u30)):Bnd (sds (fL A B X k)) 1 0∧Bnd (sds (fL A B X k)) 0 (-1):=by
  constructor <;> refine bnd_pair (a:=hiS (fR A B (X.getD i u30))) (b:=loS (fR A B (X.getD j u30))) (sd_hi (fL_in hi)) (sd_lo (fL_in hj)) ?_ ?_ ?_ <;> unfold crs <;> (try unfold wS) <;> (try unfold loS) <;> (try unfold hiS) <;> unfold fR <;> dsimp only <;> rcases nn_cs (X.getD i u30) with ⟨e,q⟩ | ⟨e,q⟩ | ⟨e,q⟩ <;> rcases nn_cs (X.getD j u30) with ⟨e',q'⟩ | ⟨e',q'⟩ | ⟨e',q'⟩ <;> first | (exfalso;omega) | (simp only [q,q'];omega)
theorem fL_zero (hA : -128≤A∧A≤127) (hB : -128≤B∧B≤127) (hk:k≤8):leE (fL A B X k) 0 0=0 :=
  le_zero (fL_ok hA hB hk) (by unfold OkN;omega) (by unfold OkN;omega) (t:=⟨A,B,1⟩) (by dsimp only;omega) fL_fit (.inl ⟨rfl,rfl⟩)
theorem fL_diff (hA : -128≤A∧A≤127) (hB : -128≤B∧B≤127) (hk:k≤8) {i j:Nat} (hi:i<k) (hj:j<k) (hn:nn (X.getD i u30)<nn (X.getD j u30)) :
    (leE (fL A B X k) 1 0=0∧∀ y,MostI (sds (fL A B X k)) 1 0 y→red y.1.c y.2=(A,1))∧leE (fL A B X k) 0 (-1)=0∧∀ y,MostI (sds (fL A B X k)) 0 (-1) y→red y.1.c y.2=(-B,1):=by
  have hb:=fL_bnd (A:=A) (B:=B) hi hj hn
  have hne:fL A B X k≠[]:=fun e=>by have h9:=congrArg List.length e;rw [fL_len] at h9;simp only [List.length_nil] at h9;omega
  have z1:leE (fL A B X k) 1 0=0:=le_zero (fL_ok hA hB hk) (by unfold OkN;omega) (by unfold OkN;omega) (t:=⟨A,B,1⟩) (by dsimp only;omega) fL_fit hb.1
  have z2:leE (fL A B X k) 0 (-1)=0:=le_zero (fL_ok hA hB hk) (by unfold OkN;omega) (by unfold OkN;omega) (t:=⟨A,B,1⟩) (by dsimp only;omega) fL_fit hb.2
  refine ⟨⟨z1,fun y hm=>?_⟩,z2,fun y hm=>?_⟩
  · have h:=least_at z1 hne hm (fL_fit (A:=A) (B:=B)) fun t _ ht=>by
      obtain ⟨e1,e2⟩:=fL_val ht hi hj hn
      rw [e1,e2];grind
    rw [h]
    exact Prod.ext (by dsimp only;omega) rfl
  · have h:=least_at z2 hne hm (fL_fit (A:=A) (B:=B)) fun t _ ht=>by
      obtain ⟨e1,e2⟩:=fL_val ht hi hj hn
      rw [e1,e2];grind
    rw [h]
    exact Prod.ext (by dsimp only;omega) rfl
theorem nb_dir {l:List Rn} {p q:Int} (hok:OkRs l) (hp:OkN p) (hq:OkN q) (h0:¬ (p=0∧q=0)) {t:Tru} (hf:fitL l t) (hd:t.d=1) (hv:p*t.a+q*t.b < -400000000):¬ Bnd (sds l) p q:=by
  rintro (h | h)
  · exact h0 h
  · obtain ⟨y,hy⟩:=List.exists_mem_of_ne_nil _ h
    have hm:=mstA_ok (sds_ok hok) (sds_nz hok) hp hq y hy
    have hw:=mst_weak hy (t:=t) (fitL_iff.1 hf)
    rw [hd,Int.mul_one] at hw
    have h1:=Int.mul_le_mul_of_nonneg_right (show p*t.a+q*t.b ≤ -400000001 by omega) (Int.le_of_lt hm.t.1)
    have h2:=hm.t.1
    have h3:=hm.c.1
    omega
theorem fL_nb (hA : -128≤A∧A≤127) (hB : -128≤B∧B≤127) (hk:k≤8) (hs:∀ j,j<k→nn (X.getD j u30)=nn (X.getD 0 u30)) {p q:Int} (hp:OkN p) (hq:OkN q) (h0:¬ (p=0∧q=0))
    (hv:p*(A-500000000*fq (nn (X.getD 0 u30)))+q*(B+500000000*(fq (nn (X.getD 0 u30))-1)) < -400000000):leE (fL A B X k) p q=5:=by
  have hck:=fL_ok (X:=X) hA hB hk
  refine leE_5 (by rw [chkA_0 hck hp hq];omega) (fun hd=>hd.no (t:=⟨A,B,1⟩) (by dsimp only;omega) (fitL_iff.1 fL_fit)) (nb_dir (chkRs0.1 hck).2 hp hq h0 (t:=⟨A-500000000*fq (nn (X.getD 0 u30)),B+500000000*(fq (nn (X.getD 0 u30))-1),1⟩) (fun r hr=>?_) rfl hv)
  obtain ⟨i,hi,rfl⟩:=fL_mem hr
  unfold fR fitR
  rw [hs i hi]
  rcases nn_cs (X.getD 0 u30) with ⟨_,h⟩ | ⟨_,h⟩ | ⟨_,h⟩ <;> (rw [h];dsimp only;omega)
theorem fL_same (hA : -128≤A∧A≤127) (hB : -128≤B∧B≤127) (hk:k≤8) (hs:∀ j,j<k→nn (X.getD j u30)=nn (X.getD 0 u30)):leE (fL A B X k) 1 0=5∧leE (fL A B X k) 0 (-1)=5:=by
  constructor <;> refine fL_nb hA hB hk hs (by unfold OkN;omega) (by unfold OkN;omega) (by omega) ?_ <;> rcases nn_cs (X.getD 0 u30) with ⟨_,h⟩ | ⟨_,h⟩ | ⟨_,h⟩ <;> (rw [h];omega)
end
/-- the start of a register, by a number -/
def fS (f j:Nat):List Int:=(List.range j).map fun k=>((f>>>k&&&1:Nat):Int)
theorem fS_len (f j:Nat):(fS f j).length=j:=by unfold fS;simp
theorem fS_succ (f j:Nat):fS f j++[((f>>>j&&&1:Nat):Int)]=fS f (j+1):=by unfold fS;rw [List.range_succ,List.map_append];rfl
/-- how many of the first bits are 1 -/
def onesL (l:List Int):Nat→Int
  | 0=>0
  | k+1=>onesL l k+if l.getD k 0=1 then 1 else 0
theorem onesL_y {l:List Int} {k:Nat} (h:l.getD k 0=1):onesL l k+1=onesL l (k+1):=by simp only [onesL];rw [if_pos h]
theorem onesL_n {l:List Int} {k:Nat} (h:¬ l.getD k 0=1):onesL l k=onesL l (k+1):=by simp only [onesL];rw [if_neg h];omega
theorem onesL_bd (l:List Int):∀ k,0≤onesL l k∧onesL l k≤k
  | 0=>by simp [onesL]
  | k+1=>by
    have:=onesL_bd l k
    simp only [onesL]
    split <;> omega
def wok (n:Nat) (t:List Int) (m:Nat):Bool:=decide (Wv.chkS t (fS m n)=0)&&(decide (t.length=n)&&(decide (Wv.bt t (n-1)=1)&&(decide (Wv.winL t (fS m n) (2 ^ n-1)=fS m n)&&(((List.range (2 ^ n-1)).all fun k=>decide (k=0∨Wv.winL t (fS m n) k≠fS m n))&&(decide ((Wv.runL t (fS m n) (2 ^ n-1)).length=2 ^ n-1)&&decide (onesL (Wv.runL t (fS m n) (2 ^ n-1)) (2 ^ n-1)=((2 ^ (n-1):Nat):Int)))))))
theorem wok_all:([2,3,4].all fun n=>decide (0<(Wv.fullL n).length)&&(Wv.fullL n).all fun t=>(List.range (2 ^ n-1)).all fun m=>wok n t (m+1))=true:=by decide +kernel
theorem w_pos {n:Nat} (hn:n=2∨n=3∨n=4):0<(Wv.fullL n).length:=by
  have h:=List.all_eq_true.1 wok_all n (by simp;omega)
  simp only [Bool.and_eq_true,decide_eq_true_eq] at h
  exact h.1
theorem w_at {n f:Nat} {t:List Int} (hn:n=2∨n=3∨n=4) (ht:t∈Wv.fullL n) (h1:1≤f) (h2:f≤2 ^ n-1):Wv.perE t (fS f n)=0∧Wv.IsPer t (fS f n) (2 ^ n-1)∧Wv.runE t (fS f n) ((2 ^ n-1:Nat):Int)=0∧(Wv.runL t (fS f n) (2 ^ n-1)).length=2 ^ n-1∧onesL (Wv.runL t (fS f n) (2 ^ n-1)) (2 ^ n-1)=fq n:=by
  have h:=List.all_eq_true.1 wok_all n (by simp;omega)
  simp only [Bool.and_eq_true] at h
  have h3:=List.all_eq_true.1 (List.all_eq_true.1 h.2 t ht) (f-1) (List.mem_range.2 (by omega))
  rw [show f-1+1=f by omega] at h3
  unfold wok at h3
  simp only [Bool.and_eq_true,decide_eq_true_eq] at h3
  obtain ⟨a1,a2,a3,a4,a5,a6,a7⟩:=h3
  have hp:4≤2 ^ n∧2 ^ n≤16:=by rcases hn with rfl | rfl | rfl <;> decide
  refine ⟨?_,⟨by omega,a4,fun m hm hm2=>?_⟩,?_,a6,a7⟩
  · unfold Wv.perE
    rw [if_neg (by omega),if_neg (by omega),if_neg (by rw [a2];omega)]
  · rcases of_decide_eq_true (List.all_eq_true.1 a5 m (List.mem_range.2 hm2)) with e | e
    · omega
    · exact e
  · unfold Wv.runE
    rw [if_neg (by omega),if_neg (by omega),if_neg (by omega)]
theorem fL_getp (A B:Int) (X:List U3) {k j:Nat} (h:j<k):((fL A B X k).getD j rn0).p=fq (nn (X.getD j u30))-1:=by
  unfold fL
  rw [List.getD_eq_getElem?_getD,List.getElem?_map,List.getElem?_range h];rfl
theorem fq_inj {x y:U3} (h:fq (nn x)-1=fq (nn y)-1):nn x=nn y:=by
  have:=nn_cs x
  have:=nn_cs y
  omega
theorem sm_y {A B:Int} {X:List U3} {i:Nat} {b:Bool} (h:b=true↔∀ j,j<i→nn (X.getD j u30)=nn (X.getD 0 u30)) (hb:b=true):bl (((fL A B X (i+1)).getD i rn0).p=((fL A B X (i+1)).getD 0 rn0).p)=true↔∀ j,j<i+1→nn (X.getD j u30)=nn (X.getD 0 u30):=by
  rw [bl_t,fL_getp A B X (by omega),fL_getp A B X (by omega)]
  constructor
  · intro e j hj
    rcases Nat.lt_or_ge j i with g | g
    · exact h.1 hb j g
    · obtain rfl:j=i:=by omega
      exact fq_inj e
  · intro e
    rw [e i (by omega)]
theorem sm_n {X:List U3} {i:Nat} {b:Bool} (h:b=true↔∀ j,j<i→nn (X.getD j u30)=nn (X.getD 0 u30)) (hb:¬ b=true):false=true↔∀ j,j<i+1→nn (X.getD j u30)=nn (X.getD 0 u30) :=
  ⟨fun e=>(by cases e),fun e=>absurd (h.2 fun j hj=>e j (by omega)) hb⟩
theorem two_of {X:List U3} {k:Nat} (hk:0<k) (h:¬ ∀ j,j<k→nn (X.getD j u30)=nn (X.getD 0 u30)):∃ i j,i<k∧j<k∧nn (X.getD i u30)<nn (X.getD j u30):=by
  refine Classical.byContradiction fun g=>h fun j hj=>?_
  have g1:¬ nn (X.getD 0 u30)<nn (X.getD j u30):=fun q=>g ⟨0,j,hk,hj,q⟩
  have g2:¬ nn (X.getD j u30)<nn (X.getD 0 u30):=fun q=>g ⟨j,0,hj,hk,q⟩
  omega
end Go.Proofs.YtncjabmlkgacdaaGreat
namespace Go.Proofs.YtncjabmlkgacdaaGreat
open Go Go.TH Go.ChangeShapes Go.WideShapes Go.ChangeAt Go.RowKit
set_option maxRecDepth 100000
section
variable {H:Type} {enc:TypeId × Value→H} {w:World}
theorem cells5:Tryz.prog.cellsOf 5=1:=by kernel_rfl
theorem cells58:Tryz.prog.cellsOf 58=1:=by kernel_rfl
theorem cells59:Tryz.prog.cellsOf 59=2:=by kernel_rfl
theorem cells60:Tryz.prog.cellsOf 60=3:=by kernel_rfl
theorem rd_u8 {n:Nat} {c:List Value} {y:DataW H × List MemPlace} (h:DataW.trod enc Tryz.prog w 0 (fun _=>true) true n 5 c=some y):∃ z:Int,c=[.int .u8 z]∧0≤z∧z≤255:=by
  obtain ⟨z,rfl,_,hw⟩:=DataW.trod_int Tryz.underlying5 h
  simp [Lit.wf,IntKind.min,IntKind.max,IntKind.signed,IntKind.bits] at hw
  exact ⟨z,rfl,by omega,by omega⟩
theorem rd_i8 {n:Nat} {c:List Value} {y:DataW H × List MemPlace} (h:DataW.trod enc Tryz.prog w 0 (fun _=>true) true n 58 c=some y):∃ z:Int,c=[.int .i8 z] ∧ -128≤z∧z≤127:=by
  obtain ⟨z,rfl,_,hw⟩:=DataW.trod_int Tryz.underlying58 h
  simp [Lit.wf,IntKind.min,IntKind.max,IntKind.signed,IntKind.bits] at hw
  exact ⟨z,rfl,by omega,by omega⟩
def InU (x:U3):Prop:=(0≤x.1∧x.1≤255)∧(0≤x.2.1∧x.2.1≤255)∧0≤x.2.2∧x.2.2≤255
theorem rd_three {n:Nat} {c:List Value} {y:DataW H × List MemPlace} (hl:c.length=3) (h:DataW.trod enc Tryz.prog w 0 (fun _=>true) true n 60 c=some y):∃ p:U3,c=encU p∧InU p:=by
  obtain ⟨xs,m,_,_,_,hx,he⟩:=DataW.trod_array Tryz.underlying60 h
  match c,hl with
  | [a,b,d],_ =>
    have h0:=he 0 (by omega)
    have h1:=he 1 (by omega)
    have h2:=he 2 (by omega)
    rw [cells5] at h0 h1 h2
    simp at h0 h1 h2
    obtain ⟨y0,hy0⟩:∃ y,xs[0]?=some y:=⟨xs[0],by simp [hx]⟩
    obtain ⟨y1,hy1⟩:∃ y,xs[1]?=some y:=⟨xs[1],by simp [hx]⟩
    obtain ⟨y2,hy2⟩:∃ y,xs[2]?=some y:=⟨xs[2],by simp [hx]⟩
    rw [hy0] at h0
    rw [hy1] at h1
    rw [hy2] at h2
    obtain ⟨u,hu,i0⟩:=rd_u8 h0
    obtain ⟨x,hxx,i1⟩:=rd_u8 h1
    obtain ⟨z,hz,i2⟩:=rd_u8 h2
    simp at hu hxx hz
    subst hu;subst hxx;subst hz
    exact ⟨(u,x,z),rfl,i0,i1,i2⟩
theorem open_which {base:Nat} {v:Value} {d:DataW H} {ps:List MemPlace} (hv:Value.okWide Tryz.prog w .any base 57 v) (h:DataW.Trod enc Tryz.prog w 0 (fun _=>true) true 57 v d ps) :
    ∃ X:List U3,RdF encU 3 w.heap.size w v X∧∀ p∈X,InU p:=by
  obtain ⟨a0,len,cap,rfl⟩:=okWide_slice Tryz.underlying57 hv
  obtain ⟨fuel,hf⟩:=h
  obtain ⟨o,xs,ho,hr,hq⟩:=open_rd (en:=encU) (Q:=InU) Tryz.underlying57 cells60 (by omega) (fun n c y hl hy=>rd_three hl hy) hf
  simp [Value.cells] at ho
  subst ho
  exact ⟨xs,hr,hq⟩
theorem open_water {base:Nat} {v:Value} {d:DataW H} {ps:List MemPlace} (hv:Value.okWide Tryz.prog w .any base 59 v) (h:DataW.Trod enc Tryz.prog w 0 (fun _=>true) true 59 v d ps) :
    ∃ A B:Int,v=.agg #[.int .i8 A,.int .i8 B]∧(-128≤A∧A≤127) ∧ -128≤B∧B≤127:=by
  unfold Value.okWide at hv
  rw [Tryz.underlying59] at hv
  obtain ⟨cs,rfl,hs,_⟩:=hv
  obtain ⟨fuel,hf⟩:=h
  obtain ⟨xs,m,_,_,hl,hx,he⟩:=DataW.trod_array Tryz.underlying59 hf
  rw [cells59] at hl
  obtain ⟨l,hcs⟩:∃ l,cs=List.toArray l:=⟨cs.toList,by simp⟩
  subst hcs
  simp only [Value.cells] at hl he
  match l,hl with
  | [a,b],_ =>
    have h0:=he 0 (by omega)
    have h1:=he 1 (by omega)
    rw [cells58] at h0 h1
    simp at h0 h1
    obtain ⟨y0,hy0⟩:∃ y,xs[0]?=some y:=⟨xs[0],by simp [hx]⟩
    obtain ⟨y1,hy1⟩:∃ y,xs[1]?=some y:=⟨xs[1],by simp [hx]⟩
    rw [hy0] at h0
    rw [hy1] at h1
    obtain ⟨u,hu,i0⟩:=rd_i8 h0
    obtain ⟨x,hxx,i1⟩:=rd_i8 h1
    simp at hu hxx
    subst hu;subst hxx
    exact ⟨u,x,rfl,i0,i1⟩
end
end Go.Proofs.YtncjabmlkgacdaaGreat
namespace Go.Proofs.YtncjabmlkgacdaaGreat.Sp
open Go Go.TH
attribute [local irreducible] W WO pt
set_option maxRecDepth 10000
set_option maxHeartbeats 2000000
theorem OwE.cellsPr {C:Cx Tryz.prog} {H:List HP} {v:Value} {rl:List Rn} (s:Sub H [OwE encPr 181 10 v rl]) {z:Int} {i:Nat} (hz:z=((i/2:Nat):Int)) (h1:i<2*rl.length):Cells C H (elt v z.toNat 10) (encPr (rl.getD (i/2) rn0)):=by
 subst hz
 cases s with
 | cons p _=>exact OwE.cells encPr_ok p (by omega) rn0
theorem Cell.ownP {C:Cx Tryz.prog} {H H':List HP} {b:Nat} {cs:List Value} {t:TypeId} {fr:Nat × Nat} {j:Nat} {v:Value} (p:Pick (pt b (.cells cs.toArray t fr)) H H') (hv:lget cs j=some v):Cell C H (prt ⟨b,0,none⟩ j) v:=by
 have h:=Cell.own (C:=C) p hv
 have e:prt ⟨b,0,none⟩ j=⟨b,j,none⟩:=by
  rw [prt_eq];unfold Addr.add;simp
  try (intro h0;exact h0.symm)
 rw [e];exact h
theorem c_corners1h (B:Nat) (wr:World) (tb:Nat) (rv sv:Value) (rl:List Rn) (hok:OkRs rl) (h0:0<rl.length) (hl12:rl.length≤12) (last:Nat) (l:Nat) (Hc:Nat→List HP) (hy:∀ k x v,(crnS (sds rl))[k]?=some x→k≤last→YieldB Tryz.prog B wr l #[v] (bl (k<last)) (gT x v::Hc k) (Hc (k+1))) (cb:Nat) (w:World) (M':List Nat) (hB:B≤w.heap.size) (hk:∀ k,k<B→w.heap[k]?=wr.heap[k]?) (hM:∀ b∈M',B≤b)
 (hi:Inv w M' ([pt cb (.cells #[.pointer (some ⟨tb,0,none⟩)] 100 (0,0)),pt tb (.cells #[rv,sv] 179 (0,0)),OwE encPr 181 10 rv rl,OwE encSd 96 3 sv (sds rl)]++Hc 0) w) :
 Ct Tryz.prog 167 ([.func (.yield l) #[] #[],.pointer (some ⟨cb,0,none⟩)]:List Value).toArray w fun _ w'=>Inv w M' ([pt cb (.cells #[.pointer (some ⟨tb,0,none⟩)] 100 (0,0)),pt tb (.cells #[rv,sv] 179 (0,0)),OwE encPr 181 10 rv rl,OwE encSd 96 3 sv (sds rl)]++Hc (min (crnS (sds rl)).length (last+1))) w':=by
 have hsl:=sds_len rl
 have hS:=sds_ok hok
 refine Iter.of mixed tyTab hB hM Tryz.func167 rfl rfl hi (W.seq (W.fact (OwE.sl (enc:=encPr) (e:=181) (sz:=10) (v:=rv) (xs:=rl) (by repeat first | exact .head | apply Pick.tail)) (fun hrsl=>(W.fact (OwE.sl (enc:=encSd) (e:=96) (sz:=3) (v:=sv) (xs:=sds rl) (by repeat first | exact .head | apply Pick.tail)) (fun hssl=>(W.sreg (WO.load rfl rfl (Cell.own Pick.head rfl) rfl (WO.p rfl rfl (WO.field0 rfl rfl rfl ?_)))))))))
 refine' WO.load (v:=_) rfl rfl ?hc rfl ?_
 case hc=>(first | (refine Cell.own (b:=tb) (off:=0) (cs:=[rv,sv]) (by repeat first | exact .head | apply Pick.tail) ?_;rfl))
 refine WO.len rfl rfl hrsl rfl (WO.eqlF rfl rfl (by omega) rfl (WO.p rfl rfl (WO.no rfl rfl (WO.no rfl rfl (WO.no rfl rfl (WO.no rfl rfl (WO.p rfl rfl (WO.nil (W.cond_f rfl (W.skip (W.sreg (WO.load rfl rfl (Cell.own Pick.head rfl) rfl (WO.p rfl rfl (WO.field rfl rfl rfl ?_))))))))))))))
 refine' WO.load (v:=_) rfl rfl ?hc rfl ?_
 case hc=>(first | (refine Cell.ownP (b:=tb) (j:=1) (cs:=[rv,sv]) (by repeat first | exact .head | apply Pick.tail) ?_;rfl))
 refine WO.len rfl rfl hssl rfl (WO.makeEN (z:=sd0) encSd_ok rfl rfl rfl rfl rfl (by omega) (by omega) rfl (fun lb=>(WO.p rfl rfl (WO.nil (W.sreg (WO.p rfl rfl (WO.load rfl rfl (Cell.own (Pick.tail (Pick.head)) rfl) rfl (WO.p rfl rfl (WO.field rfl rfl rfl ?_)))))))))
 refine' WO.load (v:=_) rfl rfl ?hc rfl ?_
 case hc=>(first | (refine Cell.ownP (b:=tb) (j:=1) (cs:=[rv,sv]) (by repeat first | exact .head | apply Pick.tail) ?_;rfl))
 refine WO.copyEN (m:=(sds rl).length) (xs:=List.replicate (sds rl).length sd0) (ys:=sds rl) encSd_ok rfl rfl rfl (by repeat exact .head) hssl (by simp) (by simp;omega) (by simp) (OwC.cells (by repeat first | exact .head | apply Pick.tail)) rfl (WO.nil (W.sreg (WO.p rfl rfl (WO.len rfl rfl (isSl_lit (n:=(sds rl).length) (by omega) (fun _=>⟨_,_,rfl⟩)) rfl (WO.p rfl rfl (WO.nil (W.block ?_)))))))
 rw [show Hc 0=Hc (pI (sds rl) 0) by rw [pI_0]]
 refine W.loop (fun (i:Nat)=>i≤(sds rl).length∧pI (sds rl) i≤last)
  (fun (i:Nat)=>[(39,.int .i64 (i:Int)),(38,.int .i64 ((sds rl).length:Int)),(37,.slice (some ⟨lb,0,none⟩) (sds rl).length (sds rl).length),(3,.slice (some ⟨lb,0,none⟩) (sds rl).length (sds rl).length),(0,.func (.yield l) #[] #[]),(1,.pointer (some ⟨cb,0,none⟩))])
  (fun (i:Nat)=>[pt cb (.cells #[.pointer (some ⟨tb,0,none⟩)] 100 (0,0)),pt tb (.cells #[rv,sv] 179 (0,0)),OwE encPr 181 10 rv rl,OwE encSd 96 3 sv (sds rl),OwE encSd 96 3 (.slice (some ⟨lb,0,none⟩) (sds rl).length (sds rl).length) (sds rl),sat (Hc (pI (sds rl) i))])
  (fun (i:Nat)=>(sds rl).length-i) 0
  (by exact ⟨by omega,by rw [pI_0];omega⟩) ⟨rfl,rfl,rfl,rfl,rfl,rfl,trivial⟩ (by repeat (first | exact Sub.nil | refine Sub.cons (by repeat first | exact .head | apply Pick.tail) ?_)) ?_
 rintro i ⟨hi0,hil⟩
 refine W.sreg (WO.p rfl rfl (WO.nil (W.seq ?_)))
 refine W.cond_bl rfl (fun c1=>?_) (fun c1=>?_)
 ·refine W.skip (W.seq (W.block ?_))
  have si:OkS 20 100000 (sAt (sds rl) i):=hS _ (getD_mem (show i<(sds rl).length by omega) sd0)
  have ri:=hok _ (getD_mem (show i/2<rl.length by omega) rn0)
  have hsq:=sds_sq (l:=rl) (i:=i) (by omega)
  have hq2:((i:Nat):Int).tdiv 2=((i/2:Nat):Int):=rfl
  have m1:=mul_bd (A:=20) (B:=20) ri.1 ri.1
  have m2:=mul_bd (A:=20) (B:=20) ri.2.1 ri.2.1
  have m3:=mul_bd si.a si.c
  have m4:=mul_bd si.b si.c
  refine W.sreg (WO.p rfl rfl (WO.indexAddr rfl rfl rfl (isSl_lit (n:=(sds rl).length) (by omega) (fun _=>⟨_,_,rfl⟩)) (by omega) rfl ?_))
  refine' WO.loadA (vs:=_) rfl rfl ?hc ?hl rfl ?_
  case hc=>(first | (refine OwE.cellsSub (S:=sds rl) (lb:=lb) (e:=96) (i:=(sds rl).length) (j:=i) (n:=(sds rl).length) ?_ ?_;exact Sub.cons (by repeat first | exact .head | apply Pick.tail) Sub.nil;omega))
  case hl=>rfl
  refine WO.alloc rfl rfl rfl (fun b1 hb1=>(WO.p rfl rfl (WO.storeA rfl rfl rfl rfl Pick.head rfl rfl (WO.nil (W.sreg (WO.load rfl rfl (Cell.own (Pick.tail (Pick.head)) rfl) rfl (WO.p rfl rfl (WO.field0 rfl rfl rfl ?_))))))))
  refine' WO.load (v:=_) rfl rfl ?hc rfl ?_
  case hc=>(first | (refine Cell.own (b:=tb) (off:=0) (cs:=[rv,sv]) (by repeat first | exact .head | apply Pick.tail) ?_;rfl))
  refine WO.p rfl rfl (WO.quo rfl rfl (by omega) (by unfold in64;omega) rfl ?_)
  refine' WO.indexAddrZ (n:=_) rfl rfl rfl ?hs ?h00 ?h1 rfl ?_
  case hs=>exact hrsl
  case h00=>omega
  case h1=>(omega)
  refine' WO.loadA (vs:=_) rfl rfl ?hc ?hl rfl ?_
  case hc=>(first | (refine OwE.cellsPr (v:=rv) (i:=i) (rl:=rl) ?_ ?_ ?_;exact Sub.cons (by repeat first | exact .head | apply Pick.tail) Sub.nil;omega;omega))
  case hl=>rfl
  refine WO.alloc rfl rfl rfl (fun b2 hb2=>(WO.storeA rfl rfl rfl rfl Pick.head rfl rfl (WO.nil (W.sreg (WO.field0 rfl rfl rfl (WO.field0 rfl rfl rfl (WO.load rfl rfl (Cell.own Pick.head rfl) rfl (WO.field0 rfl rfl rfl (WO.field0 rfl rfl rfl (WO.load rfl rfl (Cell.own Pick.head rfl) rfl (WO.ar rfl rfl rfl (by unfold in64;omega) rfl (WO.field0 rfl rfl rfl (WO.fieldL rfl rfl rfl (WO.load rfl rfl (Cell.own Pick.head rfl) rfl (WO.field0 rfl rfl rfl (WO.fieldL rfl rfl rfl (WO.load rfl rfl (Cell.own Pick.head rfl) rfl (WO.ar rfl rfl rfl (by unfold in64;omega) rfl (WO.ar rfl rfl rfl (by unfold in64;omega) rfl (WO.p rfl rfl (WO.nil (W.seq (W.sreg ?_)))))))))))))))))))))))
  refine WO.p rfl rfl (WO.indexArrL (o':=0) rfl rfl rfl (by decide) rfl rfl (WO.load rfl rfl (Cell.own (Pick.tail (Pick.head)) rfl) rfl (WO.indexArrL (o':=2) rfl rfl rfl (by decide) rfl rfl (WO.load rfl rfl (Cell.own (Pick.tail (Pick.head)) rfl) rfl (WO.ar rfl rfl rfl (by unfold in64;omega) rfl (WO.indexArrL (o':=1) rfl rfl rfl (by decide) rfl rfl (WO.load rfl rfl (Cell.own (Pick.tail (Pick.head)) rfl) rfl (WO.indexArrL (o':=2) rfl rfl rfl (by decide) rfl rfl (WO.load rfl rfl (Cell.own (Pick.tail (Pick.head)) rfl) rfl (WO.ar rfl rfl rfl (by unfold in64;omega) rfl (WO.p rfl rfl (WO.build rfl rfl rfl rfl rfl ?_))))))))))))
  refine WO.chg (gT_in (x:=foot (sAt (sds rl) i)) rfl rfl hsq) (WO.yieldB (go:=bl (pI (sds rl) i<last)) rfl rfl (by repeat exact .head) (by repeat first | exact .head | apply Pick.tail) (((hy _ _ _ (crn_foot (by omega)) (by omega)).one).agree hk) rfl ?_)
  have hget:=(List.getElem?_eq_some_iff.1 (crn_foot (S:=sds rl) (i:=i) (by omega))).1
  refine WO.p rfl rfl (WO.nil ?_)
  refine W.cond_nbl rfl (fun c2=>?_) (fun c2=>?_)
  ·refine W.ret (fin.ret (Res.none rfl) ?_)
   rw [show min (crnS (sds rl)).length (last+1)=pI (sds rl) i+1 by omega]
   repeat (first | exact Sub.nil | refine Sub.cons (by repeat first | exact .head | apply Pick.tail) ?_)
  ·refine W.skip (W.sreg (WO.p rfl rfl (WO.p rfl rfl (WO.slSl (lo:=0) (hi:=i) (mx:=(sds rl).length) rfl rfl bnd.no (bnd.at rfl) bnd.no (by simp) (by omega) (by omega) (by omega) rfl ?_))))
   rw [sub0v]
   refine WO.len rfl rfl (isSl_lit (n:=i) (by omega) (fun _=>⟨_,_,rfl⟩)) rfl (WO.p rfl rfl (WO.nil (W.block ?_)))
   rw [show pI (sds rl) i+1=pJ (sds rl) i 0 from pJ_0.symm]
   refine W.loop (fun (j:Nat)=>j≤i∧pJ (sds rl) i j≤last)
    (fun (j:Nat)=>[(86,.int .i64 (j:Int)),(85,.int .i64 (i:Int)),(84,.slice (some ⟨lb,0,none⟩) i (sds rl).length),(39,.int .i64 (i:Int)),(38,.int .i64 ((sds rl).length:Int)),(37,.slice (some ⟨lb,0,none⟩) (sds rl).length (sds rl).length),(3,.slice (some ⟨lb,0,none⟩) (sds rl).length (sds rl).length),(5,.pointer (some ⟨b1,0,none⟩)),(0,.func (.yield l) #[] #[]),(1,.pointer (some ⟨cb,0,none⟩))])
    (fun (j:Nat)=>[pt b1 (.cells #[.int .i64 (sAt (sds rl) i).a,.int .i64 (sAt (sds rl) i).b,.int .i64 (sAt (sds rl) i).c] 96 (0,0)),pt cb (.cells #[.pointer (some ⟨tb,0,none⟩)] 100 (0,0)),pt tb (.cells #[rv,sv] 179 (0,0)),OwE encPr 181 10 rv rl,OwE encSd 96 3 sv (sds rl),OwE encSd 96 3 (.slice (some ⟨lb,0,none⟩) (sds rl).length (sds rl).length) (sds rl),sat (Hc (pJ (sds rl) i j))])
    (fun (j:Nat)=>i-j) 0
    (by exact ⟨by omega,by rw [pJ_0];omega⟩) ⟨rfl,rfl,rfl,rfl,rfl,rfl,rfl,rfl,rfl,rfl,trivial⟩ (by repeat (first | exact Sub.nil | refine Sub.cons (by repeat first | exact .head | apply Pick.tail) ?_)) ?_
   rintro j ⟨hj0,hjl⟩
   refine W.sreg (WO.p rfl rfl (WO.nil (W.seq ?_)))
   refine W.cond_bl rfl (fun c3=>?_) (fun c3=>?_)
   ·refine W.skip (W.seq (W.block (W.sreg (WO.indexAddr rfl rfl rfl (isSl_lit (n:=i) (by omega) (fun _=>⟨_,_,rfl⟩)) (by omega) rfl ?_))))
    refine' WO.loadA (vs:=_) rfl rfl ?hc ?hl rfl ?_
    case hc=>(first | (refine OwE.cellsSub (S:=sds rl) (lb:=lb) (e:=96) (i:=i) (j:=j) (n:=(sds rl).length) ?_ ?_;exact Sub.cons (by repeat first | exact .head | apply Pick.tail) Sub.nil;omega))
    case hl=>rfl
    refine WO.alloc rfl rfl rfl (fun b3 hb3=>(WO.storeA rfl rfl rfl rfl Pick.head rfl rfl (WO.nil ?_)))
    have sj:OkS 20 100000 (sAt (sds rl) j):=hS _ (getD_mem (show j<(sds rl).length by omega) sd0)
    have c1:=crs_bd (si.up (A':=20) (B':=1000000) (by omega) (by omega)) (sj.up (A':=20) (B':=1000000) (by omega) (by omega))
    have n1:=mul_bd si.c sj.b
    have n2:=mul_bd sj.c si.b
    have n3:=mul_bd si.a sj.c
    have n4:=mul_bd sj.a si.c
    refine W.sreg (WO.loadA rfl rfl (Cells.own (Pick.tail (Pick.head))) rfl rfl (WO.loadA rfl rfl (Cells.own Pick.head) rfl rfl (WO.callR rfl Tryz.call168 (fun L w hi=>c_cross w (sAt (sds rl) i) (sAt (sds rl) j) (si.up (by omega) (by omega)) (sj.up (by omega) (by omega))) rfl (WO.p rfl rfl (WO.nil (W.seq ?_))))))
    refine W.drawD 23 [.r 0 [],.b 1 [],.r 2 [],.b 3 [],.r 4 [],.r 5 [],.b 6 [],.r 7 [],.b 8 [],.r 9 [],.r 10 [],.r 11 [],.b 12 [],.r 13 [],.b 14 [],.r 15 [],.r 16 [],.b 17 [],.r 18 [],.b 19 [],.r 20 [],.r 21 [],.r 22 []] [] (A0:=[]) (Sub.refl _) (by kernel_rfl) ?_ ?_
    ·repeat constructor
    refine DT.r rfl rfl rfl (WO.indexArrL (o':=2) rfl rfl rfl (by decide) rfl rfl (WO.nil ⟨rfl,rfl⟩)) (DT.b rfl rfl rfl (WO.load rfl rfl (Cell.own (Pick.tail (Pick.head)) rfl) rfl (WO.nil ⟨rfl,rfl⟩)) (DT.r rfl rfl rfl (WO.indexArrL (o':=1) rfl rfl rfl (by decide) rfl rfl (WO.nil ⟨rfl,rfl⟩)) (DT.b rfl rfl rfl (WO.load rfl rfl (Cell.own Pick.head rfl) rfl (WO.nil ⟨rfl,rfl⟩)) (DT.r rfl rfl rfl (WO.ar rfl rfl rfl (by unfold in64;omega) rfl (WO.nil ⟨rfl,rfl⟩)) (DT.r rfl rfl rfl (WO.indexArrL (o':=2) rfl rfl rfl (by decide) rfl rfl (WO.nil ⟨rfl,rfl⟩)) (DT.b rfl rfl rfl (WO.load rfl rfl (Cell.own Pick.head rfl) rfl (WO.nil ⟨rfl,rfl⟩)) ?_))))))
    refine DT.r rfl rfl rfl (WO.indexArrL (o':=1) rfl rfl rfl (by decide) rfl rfl (WO.nil ⟨rfl,rfl⟩)) (DT.b rfl rfl rfl (WO.load rfl rfl (Cell.own (Pick.tail (Pick.head)) rfl) rfl (WO.nil ⟨rfl,rfl⟩)) (DT.r rfl rfl rfl (WO.ar rfl rfl rfl (by unfold in64;omega) rfl (WO.nil ⟨rfl,rfl⟩)) (DT.r rfl rfl rfl (WO.ar rfl rfl rfl (by unfold in64;omega) rfl (WO.nil ⟨rfl,rfl⟩)) (DT.r rfl rfl rfl (WO.indexArrL (o':=0) rfl rfl rfl (by decide) rfl rfl (WO.nil ⟨rfl,rfl⟩)) (DT.b rfl rfl rfl (WO.load rfl rfl (Cell.own (Pick.tail (Pick.head)) rfl) rfl (WO.nil ⟨rfl,rfl⟩)) (DT.r rfl rfl rfl (WO.indexArrL (o':=2) rfl rfl rfl (by decide) rfl rfl (WO.nil ⟨rfl,rfl⟩)) ?_))))))
    refine DT.b rfl rfl rfl (WO.load rfl rfl (Cell.own Pick.head rfl) rfl (WO.nil ⟨rfl,rfl⟩)) (DT.r rfl rfl rfl (WO.ar rfl rfl rfl (by unfold in64;omega) rfl (WO.nil ⟨rfl,rfl⟩)) (DT.r rfl rfl rfl (WO.indexArrL (o':=0) rfl rfl rfl (by decide) rfl rfl (WO.nil ⟨rfl,rfl⟩)) (DT.b rfl rfl rfl (WO.load rfl rfl (Cell.own Pick.head rfl) rfl (WO.nil ⟨rfl,rfl⟩)) (DT.r rfl rfl rfl (WO.indexArrL (o':=2) rfl rfl rfl (by decide) rfl rfl (WO.nil ⟨rfl,rfl⟩)) (DT.b rfl rfl rfl (WO.load rfl rfl (Cell.own (Pick.tail (Pick.head)) rfl) rfl (WO.nil ⟨rfl,rfl⟩)) (DT.r rfl rfl rfl (WO.ar rfl rfl rfl (by unfold in64;omega) rfl (WO.nil ⟨rfl,rfl⟩)) ?_))))))
    refine DT.r rfl rfl rfl (WO.ar rfl rfl rfl (by unfold in64;omega) rfl (WO.nil ⟨rfl,rfl⟩)) (DT.r rfl rfl rfl (WO.p rfl rfl (WO.nil ⟨rfl,rfl⟩)) (DT.nil [_,_,_,_,_,_,_,_] rfl (WO.p rfl rfl (WO.nil (W.seq (W.sreg (WO.p rfl rfl (WO.p rfl rfl (WO.nil ?_)))))))))
    refine W.cond_bl rfl (fun c4=>?_) (fun c4=>?_)
    ·refine W.region (WO.p rfl rfl (WO.neg rfl (by unfold in64;omega) rfl (WO.p rfl rfl (WO.neg rfl (by unfold in64;omega) rfl (WO.p rfl rfl (WO.neg rfl (by unfold in64;omega) rfl (WO.p rfl rfl (WO.p rfl rfl (WO.p rfl rfl (WO.nil (W.sreg (WO.p rfl rfl (WO.p rfl rfl (WO.p rfl rfl ?_))))))))))))))
     refine WO.guard_bl rfl rfl (fun c5=>?_) (fun c5=>?_)
     ·refine WO.pg rfl rfl rfl (WO.pg rfl rfl rfl (WO.pg rfl rfl rfl (WO.pg rfl rfl rfl (WO.go' rfl (WO.build rfl rfl rfl rfl rfl (WO.go' rfl ?_))))))
      (have hcj:=cJ_n (S:=sds rl) (i:=i) (j:=j) (by assumption);refine WO.chg (gT_in (x:=cnr (sAt (sds rl) j) (sAt (sds rl) i)) (a := -((sAt (sds rl) i).c*(sAt (sds rl) j).b-(sAt (sds rl) j).c*(sAt (sds rl) i).b)) (b := -((sAt (sds rl) i).a*(sAt (sds rl) j).c-(sAt (sds rl) j).a*(sAt (sds rl) i).c)) (d := -crs (sAt (sds rl) i) (sAt (sds rl) j)) (by show _=(sAt (sds rl) j).c*(sAt (sds rl) i).b-(sAt (sds rl) i).c*(sAt (sds rl) j).b;omega) (by show _=(sAt (sds rl) j).a*(sAt (sds rl) i).c-(sAt (sds rl) i).a*(sAt (sds rl) j).c;omega) (by show _=crs (sAt (sds rl) j) (sAt (sds rl) i);rw [crs_anti (sAt (sds rl) i) (sAt (sds rl) j)])) ?_;refine WO.yieldB (go:=bl (pJ (sds rl) i j<last)) rfl rfl (by repeat exact .head) (by repeat first | exact .head | apply Pick.tail) (((hy _ _ _ (crn_at (by omega) (by omega) hcj) (by omega)).one).agree hk) rfl ?_)
      have hget:=(List.getElem?_eq_some_iff.1 (crn_at (S:=sds rl) (i:=i) (j:=j) (by omega) (by omega) hcj)).1
      refine WO.pg rfl rfl rfl (WO.p rfl rfl (WO.nil ?_))
      refine W.cond_nbl rfl (fun c6=>?_) (fun c6=>?_)
      ·refine W.ret (fin.ret (Res.none rfl) ?_)
       rw [show min (crnS (sds rl)).length (last+1)=pJ (sds rl) i j+1 by omega]
       repeat (first | exact Sub.nil | refine Sub.cons (by repeat first | exact .head | apply Pick.tail) ?_)
      ·refine W.skip ?_
       (rw [show pJ (sds rl) i j+1=pJ (sds rl) i (j+1) by rw [pJ_succ,hcj];rfl];have hnx2:pJ (sds rl) i (j+1)≤last:=by rw [pJ_succ,hcj];show pJ (sds rl) i j+1≤last;omega)
       refine W.region (WO.ar rfl rfl rfl (by unfold in64;omega) rfl (WO.p rfl rfl (WO.nil ?_)))
       refine' ⟨j+1,?hp,?hmu,⟨rfl,rfl,rfl,rfl,rfl,rfl,rfl,rfl,rfl,rfl,trivial⟩,?hS⟩
       case hS=>repeat (first | exact Sub.nil | refine Sub.cons (by repeat first | exact .head | apply Pick.tail) ?_)
       case hp=>exact ⟨by omega,hnx2⟩
       case hmu=>omega
     ·exfalso;omega
    ·refine W.skip (W.sreg (WO.p rfl rfl (WO.p rfl rfl (WO.p rfl rfl ?_))))
     refine WO.guard_bl rfl rfl (fun c7=>?_) (fun c7=>?_)
     ·refine WO.pg rfl rfl rfl (WO.pg rfl rfl rfl (WO.pg rfl rfl rfl (WO.pg rfl rfl rfl (WO.go' rfl (WO.build rfl rfl rfl rfl rfl (WO.go' rfl ?_))))))
      (have hcj:=cJ_p (S:=sds rl) (i:=i) (j:=j) (by assumption);refine WO.chg (gT_in (x:=cnr (sAt (sds rl) i) (sAt (sds rl) j)) rfl rfl rfl) ?_;refine WO.yieldB (go:=bl (pJ (sds rl) i j<last)) rfl rfl (by repeat exact .head) (by repeat first | exact .head | apply Pick.tail) (((hy _ _ _ (crn_at (by omega) (by omega) hcj) (by omega)).one).agree hk) rfl ?_)
      have hget:=(List.getElem?_eq_some_iff.1 (crn_at (S:=sds rl) (i:=i) (j:=j) (by omega) (by omega) hcj)).1
      refine WO.pg rfl rfl rfl (WO.p rfl rfl (WO.nil ?_))
      refine W.cond_nbl rfl (fun c8=>?_) (fun c8=>?_)
      ·refine W.ret (fin.ret (Res.none rfl) ?_)
       rw [show min (crnS (sds rl)).length (last+1)=pJ (sds rl) i j+1 by omega]
       repeat (first | exact Sub.nil | refine Sub.cons (by repeat first | exact .head | apply Pick.tail) ?_)
      ·refine W.skip ?_
       (rw [show pJ (sds rl) i j+1=pJ (sds rl) i (j+1) by rw [pJ_succ,hcj];rfl];have hnx2:pJ (sds rl) i (j+1)≤last:=by rw [pJ_succ,hcj];show pJ (sds rl) i j+1≤last;omega)
       refine W.region (WO.ar rfl rfl rfl (by unfold in64;omega) rfl (WO.p rfl rfl (WO.nil ?_)))
       refine' ⟨j+1,?hp,?hmu,⟨rfl,rfl,rfl,rfl,rfl,rfl,rfl,rfl,rfl,rfl,trivial⟩,?hS⟩
       case hS=>repeat (first | exact Sub.nil | refine Sub.cons (by repeat first | exact .head | apply Pick.tail) ?_)
       case hp=>exact ⟨by omega,hnx2⟩
       case hmu=>omega
     ·refine WO.no rfl rfl (WO.no rfl rfl (WO.no rfl rfl (WO.no rfl rfl (WO.no rfl rfl (WO.no rfl rfl (WO.no rfl rfl (WO.p rfl rfl (WO.nil (W.cond_f rfl (W.skip ?_))))))))))
      (have hz:=cJ_z (S:=sds rl) (i:=i) (j:=j) (by omega);rw [show pJ (sds rl) i j=pJ (sds rl) i (j+1) by rw [pJ_succ,hz];rfl] at hjl ⊢;have hnx2:=hjl)
      refine W.region (WO.ar rfl rfl rfl (by unfold in64;omega) rfl (WO.p rfl rfl (WO.nil ?_)))
      refine' ⟨j+1,?hp,?hmu,⟨rfl,rfl,rfl,rfl,rfl,rfl,rfl,rfl,rfl,rfl,trivial⟩,?hS⟩
      case hS=>repeat (first | exact Sub.nil | refine Sub.cons (by repeat first | exact .head | apply Pick.tail) ?_)
      case hp=>exact ⟨by omega,hnx2⟩
      case hmu=>omega
   ·refine W.exit (blk_same ?_)
    obtain rfl:i=j:=by omega
    rw [← pI_succ] at hjl ⊢
    have hnx:=hjl
    refine W.region (WO.ar rfl rfl rfl (by unfold in64;omega) rfl (WO.p rfl rfl (WO.nil ?_)))
    refine' ⟨i+1,?hp,?hmu,⟨rfl,rfl,rfl,rfl,rfl,rfl,trivial⟩,?hS⟩
    case hS=>repeat (first | exact Sub.nil | refine Sub.cons (by repeat first | exact .head | apply Pick.tail) ?_)
    case hp=>exact ⟨by omega,hnx⟩
    case hmu=>omega
 ·refine W.exit (blk_same ?_)
  obtain rfl:(sds rl).length=i:=by omega
  refine fin.normal (Res.none rfl) ?_
  rw [crnS_len,show min (pI (sds rl) (sds rl).length) (last+1)=pI (sds rl) (sds rl).length by omega]
  repeat (first | exact Sub.nil | refine Sub.cons (by repeat first | exact .head | apply Pick.tail) ?_)
end Go.Proofs.YtncjabmlkgacdaaGreat.Sp
namespace Go.Proofs.YtncjabmlkgacdaaGreat.Sp
open Go Go.TH
attribute [local irreducible] W WO pt
set_option maxRecDepth 10000
set_option maxHeartbeats 4000000
theorem eq36 (x y:Int × Int):EqT Tryz.prog .eql 50 (raV x) (raV y) (.bool (bl (x=y))):=by
 intro a b w
 have e:bl (x=y)=bl (x.1=y.1∧x.2=y.2):=by
  rw [bl_eq,bl_eq,decide_eq_decide];exact ⟨fun h=>by subst h;exact ⟨rfl,rfl⟩,fun h=>Prod.ext h.1 h.2⟩
 rw [e]
 simp [go_sem,Tryz.eqGuardType50,Tryz.underlying50]
 by_cases h1:x.1=y.1 <;> by_cases h2:x.2=y.2 <;> simp [h1,h2,bl_eq]
def attP (l:List Rn) (p q:Int) (r:Int × Int) (t:Tru):Bool:=decide (fitL l t∧red (p*t.a+q*t.b) t.d=r)
def attH (l:List Rn) (p q:Int) (r:Int × Int):Nat:=(crnS (sds l)).findIdx (attP l p q r)
def AttR (l:List Rn) (p q:Int) (v:Value):Prop:=∃ t:Tru,v=.tuple #[truV t,.int .i64 (leE l p q)]∧(leE l p q=0→OkT t∧fitL l t∧∃ y,MostI (sds l) p q y∧(p*t.a+q*t.b)*y.2=y.1.c*t.d)
theorem att_hit {l:List Rn} {p q:Int} (h:leE l p q=0) (h0:l≠[]) {y:Sd × Int} (hm:MostI (sds l) p q y):attH l p q (red y.1.c y.2)<(crnS (sds l)).length:=by
 obtain ⟨h1,h2,h3,h4,h5,h6⟩:=leE_ok h
 obtain ⟨t,ht,hv⟩:=att_ex h h0 hm
 refine List.findIdx_lt_length.2 ⟨t,ht.1,?_⟩
 unfold attP
 rw [decide_eq_true_eq]
 exact ⟨fitL_iff.2 ht.2,red_eqZ (by have:=(crn_ok h1 ht.1).d;omega) (hm.ok h1 h3 h4).t.1 hv⟩
def oT (c:Prop) [Decidable c] (x:Tru):Tru:=if c then ⟨0,0,0⟩ else x
def tr0:Tru:=⟨0,0,0⟩
theorem oT_t {c:Prop} [Decidable c] {x:Tru} (h:c):oT c x=⟨0,0,0⟩:=if_pos h
theorem oT_f {c:Prop} [Decidable c] {x:Tru} (h:¬ c):oT c x=x:=if_neg h
theorem fit0 {l:List Rn} {t:Tru} (h:OkRs l) (hl:l.length≤12) (ht:OkT t):chkFit l t=0↔fitL l t:=by
 have h0:chkRs l=0:=chkRs0.2 ⟨hl,h⟩
 unfold chkFit
 rw [if_neg (by omega),if_pos ht]
 split
 ·simp_all
 ·simp_all
theorem red_inj {n d m e:Int} (hd:0<d) (he:0<e) (h:red n d=red m e):n*e=m*d:=by
 have h1:=(red_lt (n:=n) (m:=m) hd he)
 have h2:=(red_lt (n:=m) (m:=n) he hd)
 rw [h] at h1 h2
 have h3:¬ n*e<m*d:=fun q=>by have:=h1.2 q;omega
 have h4:¬ m*d<n*e:=fun q=>by have:=h2.2 q;omega
 omega
theorem att_at {l:List Rn} {p q:Int} {r:Int × Int} (h:attH l p q r<(crnS (sds l)).length):(crnS (sds l)).getD (attH l p q r) tr0∈crnS (sds l)∧fitL l ((crnS (sds l)).getD (attH l p q r) tr0)∧red (p*((crnS (sds l)).getD (attH l p q r) tr0).a+q*((crnS (sds l)).getD (attH l p q r) tr0).b) ((crnS (sds l)).getD (attH l p q r) tr0).d=r:=by
 have e:(crnS (sds l)).getD (attH l p q r) tr0=(crnS (sds l))[attH l p q r]:=by rw [List.getD_eq_getElem?_getD,List.getElem?_eq_getElem h];rfl
 rw [e]
 have:=of_decide_eq_true (List.findIdx_getElem (w:=h):attP l p q r _=true)
 exact ⟨List.getElem_mem _,this⟩
theorem c_Attain (w:World) (v:Value) (l:List Rn) (p q:Int) (h0:l≠[]) (hR:RdF encRn 4 w.heap.size w v l):RetE Tryz.prog 34 [v,.int .i64 p,.int .i64 q].toArray w (AttR l p q):=by
 refine RetE.of mixed tyTab Tryz.func34 rfl rfl ?_
 replace hR:RdF encRn 4 (fnCx mixed tyTab Tryz.f34.ntmps w).B (fnCx mixed tyTab Tryz.f34.ntmps w).w0 v l:=hR
 have hoc:=hR.sl.oc
 refine W.sreg (WO.box1 rfl (by assumption) rfl (fun b1 hb1=>(WO.box1 rfl (by rfl) rfl (fun b2 hb2=>(WO.box1 rfl (by rfl) rfl (fun b3 hb3=>(WO.alloc rfl rfl rfl (fun b4 hb4=>(WO.alloc rfl rfl rfl (fun b5 hb5=>(WO.nil (W.sreg (WO.load rfl rfl (Cell.own (Pick.tail (Pick.tail (Pick.tail (Pick.tail (Pick.head))))) rfl) rfl (WO.load rfl rfl (Cell.own (Pick.tail (Pick.tail (Pick.tail (Pick.head)))) rfl) rfl (WO.load rfl rfl (Cell.own (Pick.tail (Pick.tail (Pick.head))) rfl) rfl (WO.callE rfl Tryz.call51 (fun L w hi=>c_best w v l p q (hR.later hi)) rfl ?_))))))))))))))))
 rintro _ ⟨mq,ms,mt,rfl,hms⟩
 refine WO.p rfl rfl (WO.p rfl rfl (WO.p rfl rfl (WO.alloc rfl rfl rfl (fun b6 hb6=>(WO.storeA rfl rfl rfl rfl Pick.head rfl rfl (WO.p rfl rfl (WO.nil (W.seq (W.sreg (WO.p rfl rfl (WO.p rfl rfl (WO.nil ?_))))))))))))
 refine W.cond_bl rfl (fun c1=>?_) (fun c1=>?_)
 ·refine W.sreg (WO.build rfl rfl rfl rfl rfl (WO.p rfl rfl (WO.storeA rfl rfl rfl rfl (Pick.tail (Pick.tail (Pick.head))) rfl rfl (WO.store1 rfl rfl rfl (by rfl) (Pick.tail (Pick.tail (Pick.head))) rfl (WO.nil (W.ret ?_))))))
  exact fin.ret (Res.two rfl (RV.cell rfl rfl rfl (Cells.own (by repeat first | exact .head | apply Pick.tail))) (RV.cell1 rfl rfl (Cell.own (by repeat exact .head) rfl))) ⟨tr0,rfl,fun e=>by omega⟩
 ·refine W.skip ?_
  have hle0:leE l p q=0:=by omega
  have hls:=leE_ok hle0
  have hm:=hms hle0
  have hmo:=hm.ok hls.1 hls.2.2.1 hls.2.2.2.1
  have hlt:=att_hit hle0 h0 hm
  refine W.sreg (WO.loadA rfl rfl (Cells.own Pick.head) rfl rfl (WO.callR rfl Tryz.call52 (fun L w hi=>c_boundQ w mq ms mt hmo) rfl (WO.alloc rfl rfl rfl (fun b7 hb7=>(WO.storeA rfl rfl rfl rfl Pick.head rfl rfl (WO.nil (W.seq (W.sreg (WO.load rfl rfl (Cell.own (Pick.tail (Pick.tail (Pick.tail (Pick.tail (Pick.tail (Pick.tail (Pick.head))))))) rfl) rfl (WO.call (Post:=fun u Hq=>∃ (b:Nat) (rv sv:Value),u=.pointer (some ⟨b,0,none⟩)∧Hq=[pt b (.cells #[rv,sv] 179 (0,0)),OwE encPr 181 10 rv l,OwE encSd 96 3 sv (sds l)]) rfl Tryz.call37 (fun L w hi=>c_newTable w v l (hR.later hi) hls.1 hls.2.1) rfl ?_))))))))))
  rintro _ _ ⟨tb,rv,sv,rfl,rfl⟩
  refine WO.call (Post:=fun u Hq=>∃ b1,u=.func (.func 167) #[] #[.pointer (some ⟨b1,0,none⟩)]∧Hq=[pt b1 (.cells #[.pointer (some ⟨tb,0,none⟩)] 100 (0,0))]) rfl Tryz.call91 (fun L w hi=>c_corners w ⟨tb,0,none⟩) rfl ?_
  rintro _ _ ⟨cb,rfl,rfl⟩
  refine WO.nil (W.block ?_)
  refine W.rangeFuncB (Jmp.ret) [pt cb (.cells #[.pointer (some ⟨tb,0,none⟩)] 100 (0,0)),pt tb (.cells #[rv,sv] 179 (0,0)),OwE encPr 181 10 rv l,OwE encSd 96 3 sv (sds l)] (fun t=>[pt b4 (.cells #[.int .i64 (oT (t≤(attH l p q (red ms.c mt))) ((crnS (sds l)).getD (attH l p q (red ms.c mt)) tr0)).a,.int .i64 (oT (t≤(attH l p q (red ms.c mt))) ((crnS (sds l)).getD (attH l p q (red ms.c mt)) tr0)).b,.int .i64 (oT (t≤(attH l p q (red ms.c mt))) ((crnS (sds l)).getD (attH l p q (red ms.c mt)) tr0)).d] 39 (0,0)),pt b5 (.cells #[.int .i64 0] 26 (0,0)),pt b7 (.cells #[.int .i64 (red ms.c mt).1,.int .i64 (red ms.c mt).2] 50 (0,0)),pt b3 (.cells #[.int .i64 q] 2 (0,0)),pt b2 (.cells #[.int .i64 p] 2 (0,0)),pt b1 (.cells #[v] 29 (0,0))]) (crnS (sds l)) (fun x1 v1=>gT x1 v1) ((attH l p q (red ms.c mt))) rfl rfl rfl Tryz.call167 (by repeat (first | exact Sub.nil | refine Sub.cons (by repeat first | exact .head | apply Pick.tail) ?_)) ?_ ?_ ?_ ?_
  ·intro ll Hc hy w1 M1 hB1 hk1 hM1 hi1
   exact c_corners1h _ _ tb rv sv l hls.1 (List.length_pos_iff.2 h0) hls.2.1 _ ll Hc hy cb w1 M1 hB1 hk1 hM1 hi1
  ·intro ll w1 M1 hB1 hM1 hk1 t x1 v1 hx hle1
   have hxo:=crn_ok hls.1 (List.mem_of_getElem? hx)
   have m1:=mul_bd (A:=20) (B:=1099511627776) hls.2.2.1 hxo.a
   have m2:=mul_bd (A:=20) (B:=1099511627776) hls.2.2.2.1 hxo.b
   have m3:=hxo.d
   replace hR:=hR.agree hk1
   rw [oT_t hle1]
   refine W.fact (gT_val (x:=x1) (v:=v1) (Sub.cons (by repeat exact .head) Sub.nil)) (fun hvv=>?_)
   subst hvv
   refine W.region (WO.alloc rfl rfl rfl (fun b8 hb8=>(WO.storeA rfl rfl rfl rfl Pick.head rfl rfl (WO.nil (W.block (W.seq ?_))))))
   refine W.drawD 18 [.b 0 [],.b 1 [],.b 2 [],.r 3 [],.r 4 [],.b 5 [],.r 6 [],.b 7 [],.r 8 [],.b 9 [],.r 10 [],.b 11 [],.r 12 [],.r 13 [],.r 14 [],.b 15 [],.b 16 [],.b 17 []] [] (A0:=[]) (Sub.refl _) (by kernel_rfl) ?_ ?_
   ·repeat constructor
   refine DT.b rfl rfl rfl (WO.load rfl rfl (Cell.own (Pick.tail (Pick.tail (Pick.tail (Pick.tail (Pick.tail (Pick.tail (Pick.tail (Pick.head)))))))) rfl) rfl (WO.nil ⟨rfl,rfl⟩)) (DT.b rfl rfl rfl (WO.loadA rfl rfl (Cells.own Pick.head) rfl rfl (WO.nil ⟨rfl,rfl⟩)) (DT.b rfl rfl rfl (WO.callR rfl Tryz.call16 (fun L w hi=>c_Fits w v l x1 (hR.later hi)) rfl (WO.nil ⟨rfl,rfl⟩)) (DT.r rfl rfl rfl (WO.p rfl rfl (WO.nil ⟨rfl,rfl⟩)) ?_)))
   refine DT.rB rfl rfl rfl (WO.p rfl rfl (WO.nil ⟨rfl,rfl⟩)) (fun c2=>?_) (fun c2=>?_)
   ·refine DT.b rfl rfl rfl (WO.go' rfl (WO.load rfl rfl (Cell.own (Pick.tail (Pick.tail (Pick.tail (Pick.tail (Pick.tail (Pick.tail (Pick.head))))))) rfl) rfl (WO.nil ⟨rfl,rfl⟩))) (DT.r rfl rfl rfl (WO.go' rfl (WO.field0 rfl rfl rfl (WO.nil ⟨rfl,rfl⟩))) (DT.b rfl rfl rfl (WO.go' rfl (WO.load rfl rfl (Cell.own Pick.head rfl) rfl (WO.nil ⟨rfl,rfl⟩))) (DT.r rfl rfl rfl (WO.go' rfl (WO.ar rfl rfl rfl (by unfold in64;omega) rfl (WO.nil ⟨rfl,rfl⟩))) (DT.b rfl rfl rfl (WO.go' rfl (WO.load rfl rfl (Cell.own (Pick.tail (Pick.tail (Pick.tail (Pick.tail (Pick.tail (Pick.head)))))) rfl) rfl (WO.nil ⟨rfl,rfl⟩))) ?_))))
    refine DT.r rfl rfl rfl (WO.go' rfl (WO.fieldL rfl rfl rfl (WO.nil ⟨rfl,rfl⟩))) (DT.b rfl rfl rfl (WO.go' rfl (WO.load rfl rfl (Cell.own Pick.head rfl) rfl (WO.nil ⟨rfl,rfl⟩))) (DT.r rfl rfl rfl (WO.go' rfl (WO.ar rfl rfl rfl (by unfold in64;omega) rfl (WO.nil ⟨rfl,rfl⟩))) (DT.r rfl rfl rfl (WO.go' rfl (WO.ar rfl rfl rfl (by unfold in64;omega) rfl (WO.nil ⟨rfl,rfl⟩))) (DT.r rfl rfl rfl (WO.go' rfl (WO.fieldL rfl rfl rfl (WO.nil ⟨rfl,rfl⟩))) (DT.b rfl rfl rfl (WO.go' rfl (WO.load rfl rfl (Cell.own Pick.head rfl) rfl (WO.nil ⟨rfl,rfl⟩))) ?_)))))
    refine DT.b rfl rfl rfl (WO.go' rfl (WO.callR rfl Tryz.call92 (fun L w hi=>c_ratio w (p*x1.a+q*x1.b) x1.d (by omega) (by omega)) rfl (WO.nil ⟨rfl,rfl⟩))) (DT.b rfl rfl rfl (WO.go' rfl (WO.loadA rfl rfl (Cells.own (Pick.tail (Pick.tail (Pick.tail (Pick.tail (Pick.head)))))) rfl rfl (WO.nil ⟨rfl,rfl⟩))) (DT.nil [_,_,_,_,_,_,_,_] rfl (WO.go' rfl (WO.eqT rfl rfl (eq36 (red (p*x1.a+q*x1.b) x1.d) (red ms.c mt)) rfl (WO.p rfl rfl (WO.nil ?_))))))
    refine W.cond_bl rfl (fun c3=>?_) (fun c3=>?_)
    ·refine W.sreg (WO.loadA rfl rfl (Cells.own Pick.head) rfl rfl (WO.storeA rfl rfl rfl rfl (Pick.tail (Pick.tail (Pick.head))) rfl rfl (WO.store1 rfl rfl rfl (by rfl) (Pick.tail (Pick.tail (Pick.tail (Pick.head)))) rfl (WO.nil (W.ret ?_)))))
     have htt:=fi_eq (p:=attP l p q (red ms.c mt)) hx hle1 (decide_eq_true ⟨(fit0 hls.1 hls.2.1 hxo).1 (by assumption),by assumption⟩)
     refine endR.stop (bl_f.2 (by have:t=attH l p q (red ms.c mt):=htt;omega)) rfl ?_
     rw [oT_f (show ¬ t+1≤attH l p q (red ms.c mt) by have:t=attH l p q (red ms.c mt):=htt;omega),show (crnS (sds l)).getD (attH l p q (red ms.c mt)) tr0=x1 by rw [← (show t=attH l p q (red ms.c mt) from htt),List.getD_eq_getElem?_getD,hx];rfl]
     exact fun h hs=>Sub.sat (by repeat (first | exact Sub.nil | refine Sub.cons (by repeat first | exact .head | apply Pick.tail) ?_)) hs
    ·refine W.skip ?_
     have hlt2:=fi_ne (p:=attP l p q (red ms.c mt)) hx hle1 (fun hq=>by have hq2:=of_decide_eq_true hq;exact absurd hq2.2 (by assumption))
     refine endR.go (bl_t.2 hlt2) ?_
     rw [oT_t (show t+1≤(attH l p q (red ms.c mt)) from hlt2)]
     exact fun h hs=>Sub.sat (by repeat (first | exact Sub.nil | refine Sub.cons (by repeat first | exact .head | apply Pick.tail) ?_)) hs
   ·refine DT.b rfl rfl rfl (WO.no rfl rfl (WO.nil ⟨rfl,rfl⟩)) (DT.r rfl rfl rfl (WO.no rfl rfl (WO.nil ⟨rfl,rfl⟩)) (DT.b rfl rfl rfl (WO.no rfl rfl (WO.nil ⟨rfl,rfl⟩)) (DT.r rfl rfl rfl (WO.no rfl rfl (WO.nil ⟨rfl,rfl⟩)) (DT.b rfl rfl rfl (WO.no rfl rfl (WO.nil ⟨rfl,rfl⟩)) (DT.r rfl rfl rfl (WO.no rfl rfl (WO.nil ⟨rfl,rfl⟩)) (DT.b rfl rfl rfl (WO.no rfl rfl (WO.nil ⟨rfl,rfl⟩)) (DT.r rfl rfl rfl (WO.no rfl rfl (WO.nil ⟨rfl,rfl⟩)) (DT.r rfl rfl rfl (WO.no rfl rfl (WO.nil ⟨rfl,rfl⟩)) (DT.r rfl rfl rfl (WO.no rfl rfl (WO.nil ⟨rfl,rfl⟩)) (DT.b rfl rfl rfl (WO.no rfl rfl (WO.nil ⟨rfl,rfl⟩)) (DT.b rfl rfl rfl (WO.no rfl rfl (WO.nil ⟨rfl,rfl⟩)) ?_)))))))))))
    refine DT.b rfl rfl rfl (WO.no rfl rfl (WO.nil ⟨rfl,rfl⟩)) (DT.nil [_,_,_,_,_,_,_,_] rfl (WO.no rfl rfl (WO.p rfl rfl (WO.nil (W.cond_f rfl (W.skip ?_))))))
    have hlt2:=fi_ne (p:=attP l p q (red ms.c mt)) hx hle1 (fun hq=>by have hq2:=of_decide_eq_true hq;exact absurd ((fit0 hls.1 hls.2.1 hxo).2 hq2.1) (by assumption))
    refine endR.go (bl_t.2 hlt2) ?_
    rw [oT_t (show t+1≤(attH l p q (red ms.c mt)) from hlt2)]
    exact fun h hs=>Sub.sat (by repeat (first | exact Sub.nil | refine Sub.cons (by repeat first | exact .head | apply Pick.tail) ?_)) hs
  ·intro hAll
   exfalso
   exact absurd hlt (by show ¬ (attH l p q (red ms.c mt))<_;omega)
  ·intro hStop
   rw [oT_f (show ¬ attH l p q (red ms.c mt)+1≤attH l p q (red ms.c mt) by omega)]
   have hat:=att_at hlt
   refine W.ret (fin.ret (Res.two rfl (RV.cell rfl rfl rfl (Cells.own (by repeat first | exact .head | apply Pick.tail))) (RV.cell1 rfl rfl (Cell.own (by repeat first | exact .head | apply Pick.tail) rfl))) ?_)
   exact ⟨_,by rw [hle0],fun _=>⟨crn_ok hls.1 hat.1,hat.2.1,(ms,mt),hm,red_inj (by have:=(crn_ok hls.1 hat.1).d;omega) hmo.t.1 hat.2.2⟩⟩
end Go.Proofs.YtncjabmlkgacdaaGreat.Sp
namespace Go.Proofs.YtncjabmlkgacdaaGreat.Sp
open Go Go.TH
attribute [local irreducible] W WO pt
set_option maxRecDepth 10000
set_option maxHeartbeats 1000000
theorem c_Truth (w:World) (v:Value) (l:List Rn) (h0:l≠[]) (hR:RdF encRn 4 w.heap.size w v l):RetE Tryz.prog 11 [v].toArray w (AttR l 0 0):=by
 refine RetE.of mixed tyTab Tryz.func11 rfl rfl ?_
 replace hR:RdF encRn 4 (fnCx mixed tyTab Tryz.f11.ntmps w).B (fnCx mixed tyTab Tryz.f11.ntmps w).w0 v l:=hR
 refine W.sreg (WO.alloc rfl rfl rfl (fun b1 hb1=>(WO.p rfl rfl (WO.nil (W.sreg (WO.p rfl rfl (WO.callE rfl Tryz.call34 (fun L w hi=>c_Attain w v l 0 0 h0 (hR.later hi)) rfl ?_)))))))
 rintro _ ⟨t,rfl,ht⟩
 refine WO.p rfl rfl (WO.p rfl rfl (WO.storeA rfl rfl rfl rfl Pick.head rfl rfl (WO.p rfl rfl (WO.nil (W.ret ?_)))))
 exact fin.ret (Res.two rfl (RV.cell rfl rfl rfl (Cells.own (by repeat first | exact .head | apply Pick.tail))) (RV.tmp rfl)) ⟨t,rfl,ht⟩
end Go.Proofs.YtncjabmlkgacdaaGreat.Sp
namespace Go.TX
open Go Go.TH
noncomputable section
variable {ρ:Ren} {N:Nat} {env:Tr SV} {a:Act} {P:Program} {D:Nat→Prop} {st st':St} {w:World}
def ptS (P:Program) (T:TypeId) (l:List SV) (o:Nat):Option SV:=match isAggB P T with
 | some true=>match szv P T with
  | some n=>subK l o n fun vs=>some (.agg vs)
  | none=>none
 | some false=>nth l o
 | none=>none
theorem ptS_ok {T:Nat} {l:List SV} {us:List Value} {o:Nat} {v:SV} (hl:RelL ρ l us) (h:ptS P T l o=some v):∃ u,(part T us.toArray o).run P w=.ok u w∧Rel ρ v u:=by
 unfold ptS at h
 split at h
 ·rename_i hagg
  split at h
  ·rename_i n hn
   obtain ⟨h1,h2⟩:=subK_some h
   simp only [Option.some.injEq] at h2
   subst h2
   refine ⟨.agg ((us.drop o).take n).toArray,?_,by rw [Rel];exact ⟨_,(hl.drop o).take n,rfl⟩⟩
   simp only [part,Sem.run_bind,run_isAgg hagg,Result.andThen_ok,if_true,TH.run_sizeOf hn]
   simp [List.extract_eq_take_drop]
  ·cases h
 ·rename_i hagg
  rw [nth_eq] at h
  obtain ⟨u,hu,hr⟩:=hl.at h
  refine ⟨u,?_,hr⟩
  simp only [part,Sem.run_bind,run_isAgg hagg,Result.andThen_ok]
  simp [hu]
 ·cases h
def fdS (P:Program) (T f:Nat) (x:SV):Option SV:=match x with
 | .agg l=>match P.underlying T with
  | some (.struct fs)=>match fs[f]? with
   | some fd=>ptS P fd.type l fd.offset
   | none=>none
  | _=>none
 | _=>none
theorem fdS_ok {T f:Nat} {x v:SV} {u:Value} (hx:Rel ρ x u) (h:fdS P T f x=some v):∃ z,(Instr.field T u f).run P w=.ok z w∧Rel ρ v z:=by
 cases x <;> simp only [fdS] at h <;> try (cases h;done)
 rename_i l
 rw [Rel] at hx
 obtain ⟨us,hl,rfl⟩:=hx
 split at h
 ·rename_i fs hu
  split at h
  ·rename_i fd hf
   obtain ⟨z,h1,h2⟩:=ptS_ok (w:=w) hl h
   refine ⟨z,?_,h2⟩
   simp [Instr.field,run_underlying hu,hf,asAgg,h1]
  ·cases h
 ·cases h
def ixS (P:Program) (T:Nat) (x i:SV):Option SV:=match x with
 | .agg l=>match i with
  | .raw (.int _ (.ofNat i))=>match arT P T with
   | some (len,e,sz)=>bif Nat.blt i len then ptS P e l (i*sz) else none
   | none=>none
  | _=>none
 | .raw u=>match i with
  | .raw z=>match pv P (Instr.index T u z) with
   | some (.int k n)=>some (.raw (.int k n))
   | _=>none
  | _=>none
 | _=>none
theorem ixS_ok {T:Nat} {x i v:SV} {u z:Value} (hx:Rel ρ x u) (hi:Rel ρ i z) (h:ixS P T x i=some v):∃ q,(Instr.index T u z).run P w=.ok q w∧Rel ρ v q:=by
 unfold ixS at h
 split at h
 ·rename_i l
  rw [Rel] at hx
  obtain ⟨us,hl,rfl⟩:=hx
  split at h
  ·rename_i k i'
   rw [Rel] at hi
   subst hi
   split at h
   ·rename_i len e sz har
    have hA:=arT_ok har
    cases h1:Nat.blt i' len with
    | false=>rw [h1] at h;cases h
    | true =>
     rw [h1,cond_true] at h
     have h1:=Nat.blt_eq.mp h1
     obtain ⟨q,h2,h3⟩:=ptS_ok (w:=w) hl h
     refine ⟨q,?_,h3⟩
     have g1:(i':Int)<(len:Int):=by omega
     simp [Instr.index,asIntOf,run_underlying hA.u,g1,h1,TH.run_sizeOf hA.size,h2]
   ·cases h
  ·cases h
 ·rename_i u0
  rw [Rel] at hx
  subst hx
  split at h
  ·rename_i z0
   rw [Rel] at hi
   subst hi
   split at h
   ·rename_i k n hp
    simp only [Option.some.injEq] at h
    exact ⟨_,pv_run hp w,by rw [← h,Rel]⟩
   ·cases h
  ·cases h
 ·cases h
def exS (x:SV) (i:Nat):Option SV:=match x with
 | .tup l=>nth l i
 | _=>none
theorem exS_ok {x v:SV} {i:Nat} {u:Value} (hx:Rel ρ x u) (h:exS x i=some v):∃ z,(Instr.extract u i).run P w=.ok z w∧Rel ρ v z:=by
 cases x <;> simp only [exS] at h <;> try (cases h;done)
 rename_i l
 rw [Rel] at hx
 obtain ⟨us,hl,rfl⟩:=hx
 rw [nth_eq] at h
 obtain ⟨z,hz,hr⟩:=hl.at h
 exact ⟨z,by simp [Instr.extract,hz],hr⟩
def lnS (P:Program) (T:Nat) (x:SV) (st:St):Option (SV × St):=match P.underlying T with
 | some (.slice _)=>match x with
  | .sl _ _ n _=>some (.raw (.int .i64 (.ofNat n)),st)
  | .sl0=>some (.raw (.int .i64 0),st)
  | .raw (.slice _ n _)=>some (.raw (.int .i64 (.ofNat n)),st)
  | _=>none
 | some (.map _ _)=>match x with
  | .raw (.map none)=>some (.raw (.int .i64 0),st)
  | .map b=>match st with
   | ⟨h,nx,bs,R,W⟩=>match h.get b with
    | some (.map es _)=>insK bs b R fun R'=>natK (llen es) fun n=>some (.raw (.int .i64 (.ofNat n)),⟨h,nx,bs,R',W⟩)
    | _=>none
  | _=>none
 | _=>none
theorem MRel.len {es:List SEnt}:∀ {ms:List MapEntry},MRel ρ es ms→ms.length=es.length:=by
 induction es with
 | nil=>intro ms h;rw [MRel] at h;rw [h];rfl
 | cons e es ih=>intro ms h;rw [MRel] at h;obtain ⟨m,r,rfl,_,_,_,h5⟩:=h;simp [ih h5]
theorem lnS_ok {T ty:Nat} {x v:SV} {u:Value} (hx:Rel ρ x u) (h:lnS P T x st=some (v,st')) (hs:Sim ρ D st w) (hD:∀ x,x∈st'.R∨st.base≤x→D x):Did P ρ D st st' w v (Builtin.len_ #[T] ty #[u]):=by
 unfold lnS at h
 split at h
 ·rename_i e hu
  split at h <;> try (cases h;done)
  ·simp only [Option.some.injEq,Prod.mk.injEq] at h
   obtain ⟨e1,e2⟩:=h
   subst e2
   rw [Rel] at hx
   obtain ⟨_,_,_,_,_,rfl⟩:=hx
   exact Did.pure hs (by simp [Builtin.len_,run_underlying hu,goInt];rfl) (by rw [← e1,Rel];first | done | rfl)
  ·simp only [Option.some.injEq,Prod.mk.injEq] at h
   obtain ⟨e1,e2⟩:=h
   subst e2
   rw [Rel] at hx
   obtain ⟨_,_,rfl⟩:=hx
   exact Did.pure hs (by simp [Builtin.len_,run_underlying hu,goInt];rfl) (by rw [← e1,Rel];first | done | rfl)
  ·simp only [Option.some.injEq,Prod.mk.injEq] at h
   obtain ⟨e1,e2⟩:=h
   subst e2
   rw [Rel] at hx
   subst hx
   exact Did.pure hs (by simp [Builtin.len_,run_underlying hu,goInt];rfl) (by rw [← e1,Rel];first | done | rfl)
 ·rename_i kt et hu
  split at h <;> try (cases h;done)
  ·simp only [Option.some.injEq,Prod.mk.injEq] at h
   obtain ⟨e1,e2⟩:=h
   subst e2
   rw [Rel] at hx
   subst hx
   exact Did.pure hs (by simp [Builtin.len_,run_underlying hu,goInt];rfl) (by rw [← e1,Rel];first | done | rfl)
  ·rename_i b
   cases st with
   | mk hh nx bs R W =>
    simp only at h
    split at h
    ·rename_i es c hg
     rw [insK_eq,natK_eq] at h
     simp only [Option.some.injEq,Prod.mk.injEq] at h
     obtain ⟨e1,e2⟩:=h
     rw [Rel] at hx
     obtain ⟨B,s,hb,rfl⟩:=hx
     have hd:D b:=hD b (by rw [← e2];exact ins_has _ _ _)
     obtain ⟨b',s',ob,q1,q2,ms,rfl,q4⟩:=hs.live b _ hd hg
     rw [hb] at q1;cases q1
     refine ⟨.int .i64 (ms.length:Int),w,ρ,?_,?_,by rw [← e2];exact Step.touch hs (ins_sub _ _ _) fun _ h=>h⟩
     ·simp [Builtin.len_,run_underlying hu,goInt,getObj,Sem.run,q2]
     ·rw [← e1,Rel,q4.len,llen_eq];rfl
    ·cases h
 ·cases h
def kEq:IntKind→IntKind→Bool
 | .i8,.i8=>true | .i16,.i16=>true | .i32,.i32=>true | .i64,.i64=>true
 | .u8,.u8=>true | .u16,.u16=>true | .u32,.u32=>true | .u64,.u64=>true
 | _,_=>false
theorem kEq_eq {k k':IntKind} (h:kEq k k'=true):k=k':=by cases k <;> cases k' <;> first | rfl | cases h
def kmax:IntKind→Nat
 | .i8=>127 | .i16=>32767 | .i32=>2147483647 | .i64=>9223372036854775807
 | .u8=>255 | .u16=>65535 | .u32=>4294967295 | .u64=>18446744073709551615
def ksg:IntKind→Bool
 | .i8=>true | .i16=>true | .i32=>true | .i64=>true
 | _=>false
def wrapF (k:IntKind) (n:Int):Int:=match n with
 | .ofNat m=>bif Nat.ble m (kmax k) then .ofNat m else k.wrap n
 | .negSucc m=>bif ksg k&&Nat.ble m (kmax k) then .negSucc m else k.wrap n
theorem fits_of {k:IntKind} {m:Nat} (h:m≤kmax k):Fits k m:=by
 cases k <;> simp only [kmax] at h <;> simp [Fits,room,IntKind.bits,IntKind.signed] <;> omega
theorem wrap_pos {k:IntKind} {m:Nat} (h:m≤kmax k):k.wrap (m:Int)=m:=wrap_nat (fits_of h)
theorem kbits (k:IntKind) (hk:ksg k=true):k.signed=true∧(2 ^ k.bits:Int)=2*2 ^ (k.bits-1)∧((kmax k:Nat):Int)+1=2 ^ (k.bits-1):=by
 cases k <;> first | (cases hk;done) | exact ⟨rfl,rfl,rfl⟩
theorem wrap_neg {k:IntKind} {m:Nat} (hk:ksg k=true) (h:m≤kmax k):k.wrap (Int.negSucc m)=Int.negSucc m:=by
 obtain ⟨h1,h2,h3⟩:=kbits k hk
 unfold IntKind.wrap
 rw [h2]
 generalize (2 ^ (k.bits-1):Int)=H at *
 have e:Int.negSucc m%(2*H)=Int.negSucc m+2*H:=by
  rw [← Int.add_emod_right]
  exact Int.emod_eq_of_lt (by rw [Int.negSucc_eq];omega) (by rw [Int.negSucc_eq];omega)
 simp only [e,h1,Bool.true_and]
 rw [if_pos (by rw [decide_eq_true_eq,Int.negSucc_eq];omega)]
 omega
theorem wrapF_eq (k:IntKind) (n:Int):wrapF k n=k.wrap n:=by
 cases n with
 | ofNat m =>
  simp only [wrapF]
  cases h:Nat.ble m (kmax k) with
  | false=>rfl
  | true=>exact (wrap_pos (Nat.ble_eq.mp h)).symm
 | negSucc m =>
  simp only [wrapF]
  cases h:ksg k&&Nat.ble m (kmax k) with
  | false=>rfl
  | true =>
   rw [Bool.and_eq_true] at h
   exact (wrap_neg h.1 (Nat.ble_eq.mp h.2)).symm
def ilt:Int→Int→Bool
 | .ofNat m,.ofNat n=>Nat.blt m n
 | .ofNat _,.negSucc _=>false
 | .negSucc _,.ofNat _=>true
 | .negSucc m,.negSucc n=>Nat.blt n m
theorem ilt_eq (x y:Int):ilt x y=decide (x<y):=by
 rw [Bool.eq_iff_iff,decide_eq_true_eq]
 cases x <;> cases y <;> simp only [ilt,Nat.blt_eq,Bool.false_eq_true,true_iff,false_iff,Int.ofNat_eq_natCast,Int.negSucc_eq] <;> omega
def ieq:Int→Int→Bool
 | .ofNat m,.ofNat n=>Nat.beq m n
 | .negSucc m,.negSucc n=>Nat.beq m n
 | _,_=>false
theorem ieq_eq (x y:Int):ieq x y=decide (x=y):=by
 rw [Bool.eq_iff_iff,decide_eq_true_eq]
 cases x <;> cases y <;> simp [ieq]
 omega
def intV (k:IntKind) (n:Int):Option SV:=intK n fun n'=>some (.raw (.int k n'))
theorem intV_eq (k:IntKind) (n:Int):intV k n=some (.raw (.int k n)):=by simp only [intV,intK_eq]
def boolV (b:Bool):Option SV:=match b with
 | true=>some (.raw (.bool true))
 | false=>some (.raw (.bool false))
theorem boolV_eq (b:Bool):boolV b=some (.raw (.bool b)):=by cases b <;> rfl
def isZ:Int→Bool
 | .ofNat 0=>true
 | _=>false
theorem isZ_eq {n:Int} (h:isZ n=false):n≠0:=by
 rintro rfl;cases h
def ibS (op:BinOp) (k:IntKind) (x:Int) (k':IntKind) (y:Int):Option SV:=match op with
 | .add=>bif kEq k k' then intV k (wrapF k (Int.add x y)) else none
 | .sub=>bif kEq k k' then intV k (wrapF k (Int.sub x y)) else none
 | .mul=>bif kEq k k' then intV k (wrapF k (Int.mul x y)) else none
 | .quo=>bif kEq k k' then (bif isZ y then none else intV k (wrapF k (Int.tdiv x y))) else none
 | .rem=>bif kEq k k' then (bif isZ y then none else intV k (Int.tmod x y)) else none
 | .lss=>bif kEq k k' then boolV (ilt x y) else none
 | .gtr=>bif kEq k k' then boolV (ilt y x) else none
 | .leq=>bif kEq k k' then boolV (!ilt y x) else none
 | .geq=>bif kEq k k' then boolV (!ilt x y) else none
 | .eql=>bif kEq k k' then boolV (ieq x y) else none
 | .neq=>bif kEq k k' then boolV (!ieq x y) else none
 | .and=>bif kEq k k' then (match x with
  | .ofNat m=>match y with
   | .ofNat n=>bif Nat.ble m (kmax k)&&Nat.ble n (kmax k) then intV k (.ofNat (Nat.land m n)) else none
   | _=>none
  | _=>none) else none
 | .or=>bif kEq k k' then (match x with
  | .ofNat m=>match y with
   | .ofNat n=>bif Nat.ble m (kmax k)&&Nat.ble n (kmax k) then intV k (.ofNat (Nat.lor m n)) else none
   | _=>none
  | _=>none) else none
 | .xor=>bif kEq k k' then (match x with
  | .ofNat m=>match y with
   | .ofNat n=>bif Nat.ble m (kmax k)&&Nat.ble n (kmax k) then intV k (.ofNat (Nat.xor m n)) else none
   | _=>none
  | _=>none) else none
 | .andNot=>bif kEq k k' then (match x with
  | .ofNat m=>match y with
   | .ofNat n=>bif Nat.ble m (kmax k)&&Nat.ble n (kmax k) then intV k (.ofNat (Nat.xor m (Nat.land m n))) else none
   | _=>none
  | _=>none) else none
 | .shl=>match x with
  | .ofNat m=>match y with
   | .ofNat s=>bif Nat.ble s k.bits then intV k (wrapF k (.ofNat (Nat.shiftLeft m s))) else none
   | _=>none
  | _=>none
 | .shr=>match x with
  | .ofNat m=>match y with
   | .ofNat s=>bif Nat.ble s k.bits then intV k (.ofNat (Nat.shiftRight m s)) else none
   | _=>none
  | _=>none
end
end Go.TX
namespace Go.TH
open Go
section
variable {P:Program} {C:Cx P} {E:Env} {H:List HP}
variable {ops:Array Oper} {K:KP} {rest:List Oper} {d:Nat} {ty:TypeId} {pos:String} {af:Array Edge} {x y:Operand} {T T':TypeId} {k:IntKind} {a b:Nat}
theorem bv_andNot {n:Nat} (x y:BitVec n):x&&&~~~y=x^^^(x&&&y):=by
 apply BitVec.eq_of_getLsbD_eq
 intro i hi
 simp [hi]
 cases x[i] <;> cases y[i] <;> rfl
end
end Go.TH
namespace Go.TX
open Go Go.TH
noncomputable section
variable {ρ:Ren} {N:Nat} {env:Tr SV} {a:Act} {P:Program} {D:Nat→Prop} {st st':St} {w:World}
def opT (op:BinOp) (T:TypeId) (xo yo:Operand) (u z:Value):Sem Value:=do eqGuard op T xo yo u z;binOp op T u z
theorem ble2 {m n k:Nat} (h:(Nat.ble m k&&Nat.ble n k)=true):m≤k∧n≤k:=by
 rw [Bool.and_eq_true] at h
 exact ⟨Nat.ble_eq.mp h.1,Nat.ble_eq.mp h.2⟩
def arF (op:BinOp) (x y:Int):Option Int:=match op with | .add=>some (x+y) | .sub=>some (x-y) | .mul=>some (x*y) | _=>none
def cmF (op:BinOp) (x y:Int):Option Bool:=match op with | .lss=>some (ilt x y) | .gtr=>some (ilt y x) | .leq=>some (!ilt y x) | .geq=>some (!ilt x y) | .eql=>some (ieq x y) | .neq=>some (!ieq x y) | _=>none
def dvF (op:BinOp) (k:IntKind) (x y:Int):Option Int:=match op with | .quo=>some (k.wrap (x.tdiv y)) | .rem=>some (x.tmod y) | _=>none
def btF (op:BinOp) (m n:Nat):Option Nat:=match op with | .and=>some (m&&&n) | .or=>some (m|||n) | .xor=>some (m^^^n) | .andNot=>some (m^^^(m&&&n)) | _=>none
def shF (op:BinOp) (k:IntKind) (m s:Nat):Option Int:=match op with | .shl=>some (k.wrap ((m<<<s:Nat):Int)) | .shr=>some ((m>>>s:Nat):Int) | _=>none
theorem op_arith {op:BinOp} {k:IntKind} {x y n:Int} (h:arF op x y=some n) (T:TypeId) (xo yo:Operand):(opT op T xo yo (.int k x) (.int k y)).run P w=.ok (.int k (k.wrap n)) w:=by
 cases op <;> simp only [arF,Option.some.injEq,reduceCtorEq] at h <;> subst h <;> simp [opT,eqGuard,binOp,Op.intArith]
theorem op_cmp {op:BinOp} {k:IntKind} {x y:Int} {b:Bool} (h:cmF op x y=some b) (T:TypeId) (xo yo:Operand) :
 (opT op T xo yo (.int k x) (.int k y)).run P w=.ok (.bool b) w:=by
 cases op <;> simp only [cmF,Option.some.injEq,reduceCtorEq] at h <;> subst h <;> simp [opT,eqGuard,binOp,Op.intCmp,ilt_eq,ieq_eq]
 ·by_cases q:x=y <;> simp [q]
 ·by_cases q:x=y <;> simp [q]
 ·rw [Bool.eq_iff_iff];simp
 ·rw [Bool.eq_iff_iff];simp
theorem op_div {op:BinOp} {k:IntKind} {x y n:Int} (hy:y≠0) (h:dvF op k x y=some n) (T:TypeId) (xo yo:Operand):(opT op T xo yo (.int k x) (.int k y)).run P w=.ok (.int k n) w:=by
 cases op <;> simp only [dvF,Option.some.injEq,reduceCtorEq] at h <;> subst h <;> simp [opT,eqGuard,binOp,Op.intDiv,hy]
theorem op_bits {op:BinOp} {k:IntKind} {m n r:Nat} (hm:m≤kmax k) (hn:n≤kmax k) (h:btF op m n=some r) (T:TypeId) (xo yo:Operand) :
 (opT op T xo yo (.int k (m:Int)) (.int k (n:Int))).run P w=.ok (.int k (r:Int)) w:=by
 have ha:=fits_of hm
 have hb:=fits_of hn
 cases op <;> simp only [btF,Option.some.injEq,reduceCtorEq] at h <;> subst h
 ·simp [opT,eqGuard,binOp,Op.intBits,mod_fits ha,mod_fits hb]
  exact_mod_cast wrap_nat (k:=k) (a:=m&&&n) ha.and
 ·simp [opT,eqGuard,binOp,Op.intBits,mod_fits ha,mod_fits hb]
  exact_mod_cast wrap_nat (k:=k) (a:=m|||n) (ha.or hb)
 ·simp [opT,eqGuard,binOp,Op.intBits,mod_fits ha,mod_fits hb]
  exact_mod_cast wrap_nat (k:=k) (a:=m^^^n) (ha.xor hb)
 ·simp [opT,eqGuard,binOp,Op.intBits,bv_andNot,mod_fits ha,mod_fits hb]
  exact_mod_cast wrap_nat (k:=k) (a:=m^^^(m&&&n)) (ha.xor ha.and)
theorem op_shift {op:BinOp} {k k':IntKind} {m s:Nat} {r:Int} (hs:s≤k.bits) (h:shF op k m s=some r) (T:TypeId) (xo yo:Operand) :
 (opT op T xo yo (.int k (m:Int)) (.int k' (s:Int))).run P w=.ok (.int k r) w:=by
 have h0:¬ ((s:Int)<0):=by omega
 cases op <;> simp only [shF,Option.some.injEq,reduceCtorEq] at h <;> subst h
 ·simp [opT,eqGuard,binOp,Op.shift,h0,Nat.min_eq_left hs,Nat.shiftLeft_eq]
 ·simp [opT,eqGuard,binOp,Op.shift,h0,Nat.min_eq_left hs,Nat.shiftRight_eq_div_pow]
  rw [Int.fdiv_eq_ediv_of_nonneg _ (by exact_mod_cast Nat.zero_le (2 ^ s))]
theorem kEq_of {α:Type} {k k':IntKind} {x:Option α} {v:α} (h:(bif kEq k k' then x else none)=some v):k=k'∧x=some v:=by
 cases hk:kEq k k' with
 | false=>rw [hk] at h;cases h
 | true=>rw [hk] at h;exact ⟨kEq_eq hk,h⟩
theorem bif_of {α:Type} {b:Bool} {x:Option α} {v:α} (h:(bif b then x else none)=some v):b=true∧x=some v:=by
 cases b with
 | false=>cases h
 | true=>exact ⟨rfl,h⟩
theorem bif_no {α:Type} {b:Bool} {x:Option α} {v:α} (h:(bif b then none else x)=some v):b=false∧x=some v:=by
 cases b with
 | true=>cases h
 | false=>exact ⟨rfl,h⟩
theorem two_of {α:Type} {x y:Int} {f:Nat→Nat→Option α} {v:α} (h:(match x with | .ofNat m=>(match y with | .ofNat n=>f m n | _=>none) | _=>none)=some v):∃ m n:Nat,x=(m:Int)∧y=(n:Int)∧f m n=some v:=by
 cases x <;> cases y <;> simp only [reduceCtorEq] at h
 exact ⟨_,_,rfl,rfl,h⟩
theorem ibS_ok {op:BinOp} {k k':IntKind} {x y:Int} {v:SV} (h:ibS op k x k' y=some v) (T:TypeId) (xo yo:Operand):∃ u,(opT op T xo yo (.int k x) (.int k' y)).run P w=.ok u w∧v=.raw u:=by
 have arith:∀ {n:Int},k=k'∧intV k (wrapF k n)=some v→arF op x y=some n→∃ u,(opT op T xo yo (.int k x) (.int k' y)).run P w=.ok u w∧v=.raw u:=by
  rintro n ⟨rfl,g⟩ hn
  rw [intV_eq,wrapF_eq,Option.some.injEq] at g
  exact ⟨_,op_arith hn T xo yo,g.symm⟩
 have cmp:∀ {b:Bool},k=k'∧boolV b=some v→cmF op x y=some b→∃ u,(opT op T xo yo (.int k x) (.int k' y)).run P w=.ok u w∧v=.raw u:=by
  rintro b ⟨rfl,g⟩ hb
  rw [boolV_eq,Option.some.injEq] at g
  exact ⟨_,op_cmp hb T xo yo,g.symm⟩
 have bits:∀ {f:Nat→Nat→Nat},(k=k'∧∃ m n:Nat,x=(m:Int)∧y=(n:Int)∧(bif Nat.ble m (kmax k)&&Nat.ble n (kmax k) then intV k (.ofNat (f m n)) else none)=some v)→(∀ m n,btF op m n=some (f m n)) →
  ∃ u,(opT op T xo yo (.int k x) (.int k' y)).run P w=.ok u w∧v=.raw u:=by
  rintro f ⟨rfl,m,n,rfl,rfl,g⟩ hf
  obtain ⟨hb,g⟩:=bif_of g
  obtain ⟨hm,hn⟩:=ble2 hb
  rw [intV_eq,Option.some.injEq] at g
  exact ⟨_,op_bits hm hn (hf m n) T xo yo,g.symm⟩
 cases op <;> simp only [ibS] at h
 ·exact arith (kEq_of h) rfl
 ·exact arith (kEq_of h) rfl
 ·exact arith (kEq_of h) rfl
 ·obtain ⟨rfl,g⟩:=kEq_of h
  obtain ⟨hz,g⟩:=bif_no g
  rw [intV_eq,wrapF_eq,Option.some.injEq] at g
  exact ⟨_,op_div (isZ_eq hz) rfl T xo yo,g.symm⟩
 ·obtain ⟨rfl,g⟩:=kEq_of h
  obtain ⟨hz,g⟩:=bif_no g
  rw [intV_eq,Option.some.injEq] at g
  exact ⟨_,op_div (isZ_eq hz) rfl T xo yo,g.symm⟩
 ·exact bits ⟨(kEq_of h).1,two_of (kEq_of h).2⟩ fun _ _=>rfl
 ·exact bits ⟨(kEq_of h).1,two_of (kEq_of h).2⟩ fun _ _=>rfl
 ·exact bits ⟨(kEq_of h).1,two_of (kEq_of h).2⟩ fun _ _=>rfl
 ·obtain ⟨m,s,rfl,rfl,g⟩:=two_of h
  obtain ⟨hb,g⟩:=bif_of g
  rw [intV_eq,wrapF_eq,Option.some.injEq] at g
  exact ⟨_,op_shift (Nat.ble_eq.mp hb) rfl T xo yo,g.symm⟩
 ·obtain ⟨m,s,rfl,rfl,g⟩:=two_of h
  obtain ⟨hb,g⟩:=bif_of g
  rw [intV_eq,Option.some.injEq] at g
  exact ⟨_,op_shift (Nat.ble_eq.mp hb) rfl T xo yo,g.symm⟩
 ·exact bits ⟨(kEq_of h).1,two_of (kEq_of h).2⟩ fun _ _=>rfl
 all_goals exact cmp (kEq_of h) rfl
end
end Go.TX
namespace Go.TX
open Go Go.TH
noncomputable section
variable {ρ:Ren} {N:Nat} {env:Tr SV} {a:Act} {P:Program} {D:Nat→Prop} {st st':St} {w:World}
def raws:List SV→Option (List Value)
 | []=>some []
 | .raw v::r=>match raws r with
  | some l=>some (v::l)
  | none=>none
 | _::_=>none
def toV:SV→Option Value
 | .raw v=>some v
 | .agg l=>match raws l with
  | some vs=>some (.agg vs.toArray)
  | none=>none
 | _=>none
theorem raws_rel:∀ {l:List SV} {vs us:List Value},raws l=some vs→RelL ρ l us→us=vs
 | [],vs,us,h,hr=>by
  simp only [raws,Option.some.injEq] at h
  rw [RelL] at hr
  rw [hr,h]
 | s::l,vs,us,h,hr=>by
  rw [RelL] at hr
  obtain ⟨v,r,rfl,h1,h2⟩:=hr
  cases s <;> simp only [raws] at h <;> try (cases h;done)
  rw [Rel] at h1
  subst h1
  split at h
  ·rename_i l' hl
   simp only [Option.some.injEq] at h
   subst h
   rw [raws_rel hl h2]
  ·cases h
theorem toV_rel {s:SV} {v u:Value} (h:toV s=some v) (hr:Rel ρ s u):u=v:=by
 cases s <;> simp only [toV] at h <;> try (cases h;done)
 ·rw [Rel] at hr
  simp only [Option.some.injEq] at h
  rw [hr,h]
 ·rw [Rel] at hr
  obtain ⟨us,h1,rfl⟩:=hr
  split at h
  ·rename_i vs hv
   simp only [Option.some.injEq] at h
   subst h
   rw [raws_rel hv h1]
  ·cases h
def valV (v:Value):Option SV:=match v with
 | .int k n=>intV k n
 | .bool b=>boolV b
 | .agg cs=>some (.agg (cs.toList.map .raw))
 | v=>some (.raw v)
theorem valV_rel {v:Value} {s:SV} (h:valV v=some s):Rel ρ s v:=by
 cases v <;> simp only [valV,intV_eq,boolV_eq,Option.some.injEq] at h <;> subst h <;> rw [Rel]
 exact ⟨_,RelL.raws _,by simp⟩
def isNil:SV→Bool
 | .raw (.pointer none)=>true
 | .raw (.slice none 0 0)=>true
 | .raw (.map none)=>true
 | .raw .nilFunc=>true
 | _=>false
def eqNil (P:Program) (T:TypeId) (x:SV):Option Bool:=match x with
 | .ptr _ _=>match P.underlying T with
  | some (.pointer _)=>some false
  | _=>none
 | .sl _ _ _ _=>match P.underlying T with
  | some (.slice _)=>some false
  | _=>none
 | .map _=>match P.underlying T with
  | some (.map _ _)=>some false
  | _=>none
 | .fn _ _ _=>match P.underlying T with
  | some (.func _ _ _)=>some false
  | _=>none
 | _=>none
def nilT (P:Program) (T:TypeId) (x:SV):Bool:=match x with
 | .raw (.pointer none)=>match P.underlying T with
  | some (.pointer _)=>true
  | _=>false
 | .raw (.slice none 0 0)=>match P.underlying T with
  | some (.slice _)=>true
  | _=>false
 | .raw (.map none)=>match P.underlying T with
  | some (.map _ _)=>true
  | _=>false
 | .raw .nilFunc=>match P.underlying T with
  | some (.func _ _ _)=>true
  | _=>false
 | _=>false
theorem eqNil_ok {T:TypeId} {x y:SV} {u z:Value} {b:Bool} (hx:Rel ρ x u) (hy:Rel ρ y z) (h:eqNil P T x=some b) (hn:nilT P T y=true) :
 (Op.equal T u z).run P w=.ok b w∧(Op.equal T z u).run P w=.ok b w:=by
 cases x <;> simp only [eqNil] at h <;> try (cases h;done)
 all_goals
  split at h <;> try (cases h;done)
  rename_i hu
  simp only [Option.some.injEq] at h
  subst h
  unfold nilT at hn
  split at hn <;> try (cases hn;done)
  all_goals
   split at hn <;> try (cases hn;done)
   rename_i hu'
   rw [hu] at hu'
   first
    |(cases hu';done)
    |(simp only [Rel] at hx hy
      subst hy
      first
       |(obtain ⟨_,_,_,rfl⟩:=hx
         constructor <;> (unfold Op.equal;rw [show Op.maxDepth=9999+1 from rfl,Op.equalIn];simp [run_underlying hu]))
       |(obtain ⟨_,_,_,_,_,rfl⟩:=hx
         constructor <;> (unfold Op.equal;rw [show Op.maxDepth=9999+1 from rfl,Op.equalIn];simp [run_underlying hu]))
       |(obtain ⟨_,_,_,_,rfl⟩:=hx
         constructor <;> (unfold Op.equal;rw [show Op.maxDepth=9999+1 from rfl,Op.equalIn];simp [run_underlying hu])))
def boS (P:Program) (op:BinOp) (T:TypeId) (xo yo:Operand) (x y:SV):Option SV:=match x with
 | .raw (.int k m)=>match y with
  | .raw (.int k' n)=>ibS op k m k' n
  | _=>none
 | x=>match toV x with
  | some u=>match toV y with
   | some z=>match pv P (opT op T xo yo u z) with
    | some v=>valV v
    | none=>none
   | none=>bif isNil x&&nilT P T x then (match eqNil P T y with
    | some b=>match op with
     | .eql=>boolV b
     | .neq=>boolV (!b)
     | _=>none
    | none=>none) else none
  | none=>bif nilT P T y then (match eqNil P T x with
   | some b=>match op with
    | .eql=>boolV b
    | .neq=>boolV (!b)
    | _=>none
   | none=>none) else none
theorem opT_eq {op:BinOp} {T:TypeId} {xo yo:Operand} {u z:Value} {b:Bool} {v:SV} (hq:(Op.equal T u z).run P w=.ok b w)  (hg:∀ op,(eqGuard op T xo yo u z).run P w=.ok () w) (hop:∀ op,op=.eql∨op=.neq→binOp op T u z=(if op=.eql then (do pure (.bool (← Op.equal T u z))) else (do pure (.bool (!(← Op.equal T u z)))))) (h:(match op with | .eql=>boolV b | .neq=>boolV (!b) | _=>none)=some v):∃ r,(opT op T xo yo u z).run P w=.ok r w∧Rel ρ v r:=by
 cases op <;> simp only [reduceCtorEq] at h
 ·rw [boolV_eq,Option.some.injEq] at h
  refine ⟨.bool b,?_,by rw [← h,Rel]⟩
  simp only [opT,Sem.run_bind,hg,Result.andThen_ok,hop .eql (.inl rfl),if_true]
  simp [hq]
 ·rw [boolV_eq,Option.some.injEq] at h
  refine ⟨.bool !b,?_,by rw [← h,Rel]⟩
  simp only [opT,Sem.run_bind,hg,Result.andThen_ok,hop .neq (.inr rfl)]
  simp [hq]
theorem guard_nil {op:BinOp} {T:TypeId} {xo yo:Operand} {x y:SV} {u z:Value} {b:Bool} (hx:Rel ρ x u) (hy:Rel ρ y z) (h:eqNil P T x=some b) (hn:nilT P T y=true) :
 (eqGuard op T xo yo u z).run P w=.ok () w∧(eqGuard op T yo xo z u).run P w=.ok () w∧(∀ op,op=.eql∨op=.neq→binOp op T u z=(if op=.eql then (do pure (.bool (← Op.equal T u z))) else (do pure (.bool (!(← Op.equal T u z)))))) ∧
   (∀ op,op=.eql∨op=.neq→binOp op T z u=(if op=.eql then (do pure (.bool (← Op.equal T z u))) else (do pure (.bool (!(← Op.equal T z u)))))):=by
 cases x <;> simp only [eqNil] at h <;> try (cases h;done)
 all_goals
  split at h <;> try (cases h;done)
  unfold nilT at hn
  split at hn <;> try (cases hn;done)
  all_goals
   simp only [Rel] at hx hy
   subst hy
   first
    |(obtain ⟨_,_,_,rfl⟩:=hx
      refine ⟨by cases op <;> simp [eqGuard],by cases op <;> simp [eqGuard],?_,?_⟩ <;> (rintro op (rfl | rfl) <;> rfl))
    |(obtain ⟨_,_,_,_,_,rfl⟩:=hx
      refine ⟨by cases op <;> simp [eqGuard],by cases op <;> simp [eqGuard],?_,?_⟩ <;> (rintro op (rfl | rfl) <;> rfl))
    |(obtain ⟨_,_,_,_,rfl⟩:=hx
      refine ⟨by cases op <;> simp [eqGuard],by cases op <;> simp [eqGuard],?_,?_⟩ <;> (rintro op (rfl | rfl) <;> rfl))
theorem boS_ok {op:BinOp} {T:TypeId} {xo yo:Operand} {x y v:SV} {u z:Value} (hx:Rel ρ x u) (hy:Rel ρ y z) (h:boS P op T xo yo x y=some v):∃ r,(opT op T xo yo u z).run P w=.ok r w∧Rel ρ v r:=by
 unfold boS at h
 split at h
 ·rename_i k m
  split at h
  ·rename_i k' n
   rw [Rel] at hx hy
   subst hx;subst hy
   obtain ⟨r,h1,h2⟩:=ibS_ok (P:=P) (w:=w) h T xo yo
   exact ⟨r,h1,by rw [h2,Rel]⟩
  ·cases h
 ·split at h
  ·rename_i u' hu
   have eu:=toV_rel hu hx
   split at h
   ·rename_i z' hz
    have ez:=toV_rel hz hy
    subst eu;subst ez
    split at h
    ·rename_i r hp
     exact ⟨r,pv_run hp w,valV_rel h⟩
    ·cases h
   ·obtain ⟨hb,h⟩:=bif_of h
    rw [Bool.and_eq_true] at hb
    split at h
    ·rename_i b hq
     have h1:=eqNil_ok (w:=w) hy hx hq hb.2
     have h2:=fun op=>guard_nil (w:=w) (op:=op) (xo:=yo) (yo:=xo) hy hx hq hb.2
     exact opT_eq h1.2 (fun op=>(h2 op).2.1) (h2 .eql).2.2.2 h
    ·cases h
  ·obtain ⟨hb,h⟩:=bif_of h
   split at h
   ·rename_i b hq
    have h1:=eqNil_ok (w:=w) hx hy hq hb
    have h2:=fun op=>guard_nil (w:=w) (op:=op) (xo:=xo) (yo:=yo) hx hy hq hb
    exact opT_eq h1.1 (fun op=>(h2 op).1) (h2 .eql).2.2.1 h
   ·cases h
end
end Go.TX
namespace Go.TX
open Go Go.TH
noncomputable section
variable {ρ:Ren} {N:Nat} {env:Tr SV} {a:Act} {P:Program} {D:Nat→Prop} {st st':St} {w:World}
def unS (P:Program) (op:UnOp) (x:SV):Option SV:=match op,x with
 | .not,.raw (.bool b)=>boolV (!b)
 | op,x=>match toV x with
  | some u=>match pv P (Op.unary op u) with
   | some v=>valV v
   | none=>none
  | none=>none
theorem unS_ok {op:UnOp} {x v:SV} {u:Value} (hx:Rel ρ x u) (h:unS P op x=some v):∃ r,(Op.unary op u).run P w=.ok r w∧Rel ρ v r:=by
 unfold unS at h
 split at h
 ·rw [Rel] at hx
  subst hx
  rw [boolV_eq,Option.some.injEq] at h
  exact ⟨_,by simp [Op.unary];rfl,by rw [← h,Rel]⟩
 ·split at h
  ·rename_i u' hu
   have:=toV_rel hu hx
   subst this
   split at h
   ·rename_i r hr
    exact ⟨r,pv_run hr w,valV_rel h⟩
   ·cases h
  ·cases h
def intK? (P:Program) (T:TypeId):Option IntKind:=match P.underlying T with
 | some (.int k)=>some k
 | _=>none
def cvS (P:Program) (T T':TypeId) (x:SV):Option SV:=match x with
 | .raw (.int _ n)=>match intK? P T' with
  | some k=>bif (P.underlying T).isSome then intV k (wrapF k n) else none
  | none=>none
 | x=>match toV x with
  | some u=>match pv P (convert T T' u) with
   | some v=>valV v
   | none=>none
  | none=>none
theorem cvS_ok {T T':TypeId} {x v:SV} {u:Value} (hx:Rel ρ x u) (h:cvS P T T' x=some v):∃ r,(convert T T' u).run P w=.ok r w∧Rel ρ v r:=by
 unfold cvS at h
 split at h
 ·rename_i k n
  rw [Rel] at hx
  subst hx
  split at h
  ·rename_i k' hk
   unfold intK? at hk
   split at hk
   ·rename_i k2 hu
    simp only [Option.some.injEq] at hk
    subst hk
    obtain ⟨hs,h⟩:=bif_of h
    obtain ⟨ds,hd⟩:=Option.isSome_iff_exists.mp hs
    rw [intV_eq,wrapF_eq,Option.some.injEq] at h
    exact ⟨_,by simp [convert,run_underlying hd,run_underlying hu,Conv.intToInt];rfl,by rw [← h,Rel]⟩
   ·cases hk
  ·cases h
 ·split at h
  ·rename_i u' hu
   have:=toV_rel hu hx
   subst this
   split at h
   ·rename_i r hr
    exact ⟨r,pv_run hr w,valV_rel h⟩
   ·cases h
  ·cases h
def srcK {β:Type} (sz:Nat) (y:SV) (st:St) (k:Nat→List SV→St→Option β):Option β:=match y with
 | .raw (.slice none 0 0)=>k 0 [] st
 | .sl0=>k 0 [] st
 | .sl b o n _=>rdK st b fun l _ _ st'=>subK l o (n*sz) fun vs=>k n vs st'
 | _=>none
structure Src (P:Program) (w:World) (sz:Nat) (z:Value) (n:Nat) (us:List Value):Prop where
 is:∃ ad c,z=.slice ad n c∧(0<n→∃ b o,ad=some ⟨b,o,none⟩∧∀ j u,us[j]?=some u→w.cell? ((⟨b,o,none⟩:Addr).add j)=some u)
 len:us.length=n*sz
theorem srcK_ok {β:Type} {sz:Nat} {y:SV} {z:Value} {k:Nat→List SV→St→Option β} {r:β} (hy:Rel ρ y z) (h:srcK sz y st k=some r) (hs:Sim ρ D st w) (hD:∀ n vs st',k n vs st'=some r→∀ x,x∈st'.R∨st.base≤x→D x) :
 ∃ n vs us R',k n vs ⟨st.h,st.nx,st.base,R',st.W⟩=some r∧(∀ x,x∈st.R→x∈R')∧RelL ρ vs us∧Src P w sz z n us:=by
 unfold srcK at h
 split at h
 ·rw [Rel] at hy
  subst hy
  exact ⟨0,[],[],st.R,h,fun _ h=>h,RelL.nil,⟨none,0,rfl,fun h=>absurd h (by omega)⟩,by simp⟩
 ·rw [Rel] at hy
  obtain ⟨ad,c,rfl⟩:=hy
  exact ⟨0,[],[],st.R,h,fun _ h=>h,RelL.nil,⟨ad,c,rfl,fun h=>absurd h (by omega)⟩,by simp⟩
 ·rename_i b o n c
  rw [Rel] at hy
  obtain ⟨B,s,cap,hb,_,rfl⟩:=hy
  obtain ⟨l,e,op,hg,h⟩:=rdK_some h
  obtain ⟨hl,h⟩:=subK_some h
  have hd:D b:=hD _ _ _ h b (ins_has _ _ _)
  obtain ⟨b',s',pre,us,vs,q1,q2,qz,q3,q4,q5⟩:=hs.row hd hg
  rw [hb] at q1;cases q1
  refine ⟨n,_,(us.drop o).take (n*sz),_,h,ins_sub _ _ _,(q3.drop o).take _,⟨_,_,rfl,fun _=>⟨_,_,rfl,cells_of q2 qz⟩⟩,?_⟩
  have:=q3.len
  simp;omega
 ·cases h
theorem run_firstCells_src {sz n:Nat} {z:Value} {us:List Value} (h:Src P w sz z n us) {w':World} (hc:∀ p v,w.cell? p=some v→w'.cell? p=some v):(Builtin.firstCells sz n z).run P w'=.ok us.toArray w':=by
 obtain ⟨⟨ad,c,rfl,ha⟩,hl⟩:=h
 rcases Nat.eq_zero_or_pos n with rfl | hp
 ·have:us=[]:=List.eq_nil_of_length_eq_zero (by simpa using hl)
  subst this
  cases ad with
  | none=>simp [Builtin.firstCells]
  | some b =>
   have:=run_loadCells_list (P:=P) w' b [] (by simp)
   simpa [Builtin.firstCells] using this
 ·obtain ⟨b,o,rfl,hh⟩:=ha hp
  exact run_firstCells_some (P:=P) w' sz n _ n c us hl (fun j v hv=>hc _ _ (hh j v hv))
theorem run_append_in {T e:TypeId} {ty:TypeId} {i:TypeInfo} (hu:P.underlying T=some (.slice e)) (hi:P.info? e=some i) {b o n k:Nat} {cs:List Value} {e':TypeId} (hg:w.heap[b]?=some (.cells cs.toArray e' (0,0))) {z:Value} {m:Nat} {news:List Value}
 (hz:Src P w i.size z m news) (h1:∀ u∈news,u.oneCell'=true) (hroom:n+m≤k) (hfit:o+n*i.size+news.length≤cs.length) :
 ∃ w',(Builtin.append_ #[T,T] ty #[.slice (some ⟨b,o,none⟩) n k,z]).run P w=.ok (.slice (some ⟨b,o,none⟩) (n+m) k) w'∧w'.os=w.os∧w'.tape=w.tape∧w'.output=w.output∧w'.heap.size=w.heap.size ∧
  w'.heap[b]?=some (.cells (wrl cs (o+n*i.size) news).toArray e' (0,0))∧∀ q,q≠b→w'.heap[q]?=w.heap[q]?:=by
 have hf:=run_firstCells_src (P:=P) hz (w':=w) fun _ _ h=>h
 obtain ⟨w',hr,a1,a2,a3,a4,a5,a6⟩:=run_storeCells_own (P:=P) (b:=b) (off:=o+n*i.size) news 0 w cs hg (by simpa using hfit) h1
 refine ⟨w',?_,a1,a2,a3,a4,by simpa using a5,a6⟩
 obtain ⟨ad,c,rfl,_⟩:=hz.is
 simp [Builtin.append_,run_underlying hu,sizeOf,typeInfo,hi,Builtin.lenOf,hroom,hf,Addr.add_lit,hr]
theorem run_append_new {T e:TypeId} {ty:TypeId} {i:TypeInfo} {zv:Value} (hu:P.underlying T=some (.slice e)) (hi:P.info? e=some i) (hzv:i.zero=some zv) {x:Value} {n k:Nat} {olds:List Value} {ad:Option Addr} (hx:x=.slice ad n k) (hx':ad=none→n=0∧k=0) (ho:∀ {w':World},(∀ p v,w.cell? p=some v→w'.cell? p=some v)→(Builtin.firstCells i.size n x).run P w'=.ok olds.toArray w') {z:Value} {m:Nat} {news:List Value}
 (hz:Src P w i.size z m news) (hm:0<m) (hg:k<n+m) (h63:n+m≤9223372036854775807) (hb:(n+m)*i.bytes≤140737488355328) :
 ∃ c w',n+m≤c∧(Builtin.append_ #[T,T] ty #[x,z]).run P w=.ok (.slice (some ⟨w.heap.size,0,none⟩) (n+m) c) w'∧w'.os=w.os∧w'.tape=w.tape∧w'.output=w.output ∧
  w'.heap=w.heap.push (.cells ((olds++news)++(Builtin.zeroCells zv.cells (c-(n+m))).toList).toArray e (0,0)):=by
 obtain ⟨⟨az,cz,rfl,ha⟩,hl⟩:=hz
 obtain ⟨b0,o0,rfl,hh⟩:=ha hm
 have hf:=run_firstCells_some (P:=P) w.drew i.size m ⟨b0,o0,none⟩ m cz news hl (by simpa using hh)
 have ho':=ho (w':=w.drew) fun p v h=>by simpa using h
 have hn:¬ (n+m≤k):=by omega
 have h63':¬ (9223372036854775807<((n:Int)+(m:Int))):=by omega
 have hfit:=growslice_fits (bytes:=i.bytes) hg hb
 have h48':¬ (281474976710656<Builtin.nextslicecap (n+m) k*i.bytes):=by omega
 subst hx
 refine ⟨grownCap w (n+m) k e,w.drew.alloc (.cells ((olds++news)++(Builtin.zeroCells zv.cells (grownCap w (n+m) k e-(n+m))).toList).toArray e),grownCap_ge w (n+m) k e,?_,rfl,rfl,rfl,rfl⟩
 simp [Builtin.append_,run_underlying hu,sizeOf,typeInfo,zeroValue,hi,hzv,Builtin.lenOf,hn,h63',h48',Question.forced,hf,ho',newRow,grownCap]
 congr 2
 apply Array.ext'
 simp [List.append_assoc]
def apC (e sz by':Nat) (x:SV) (m:Nat) (news:List SV) (st1:St):Option (SV × St):=match m with
 | 0=>match x with
  | .raw (.slice none 0 0)=>some (x,st1)
  | .sl _ _ n (.kn k)=>bif Nat.ble n k then some (x,st1) else none
  | _=>none
 | m'+1=>bif onesS news then (match x with
  | .raw (.slice none 0 0)=>bif Nat.ble ((m'+1)*by') 140737488355328&&Nat.ble (m'+1) 9223372036854775807 then
   newK st1 (.cells news e true) fun q st'=>natK (m'+1) fun n'=>some (.sl q 0 n' (.rest sz),st')
   else none
  | .sl b o n (.kn k)=>bif Nat.ble (n+(m'+1)) k then
   (rdK st1 b fun l e' op st2=>wrK l (o+n*sz) news fun l'=>wtK st2 b (.cells l' e' op) fun st'=>natK (n+(m'+1)) fun n'=>some (.sl b o n' (.kn k),st'))
   else (bif Nat.ble ((n+(m'+1))*by') 140737488355328&&Nat.ble (n+(m'+1)) 9223372036854775807 then
    rdK st1 b fun l _ _ st2=>subK l o (n*sz) fun olds=>appK olds news fun row=>newK st2 (.cells row e true) fun q st'=>natK (n+(m'+1)) fun n'=>some (.sl q 0 n' (.rest sz),st')
   else none)
  | .sl b o n (.rest sz')=>bif Nat.beq sz sz'&&Nat.blt 0 sz then (bif Nat.ble ((n+(m'+1))*by') 140737488355328&&Nat.ble (n+(m'+1)) 9223372036854775807 then
   rdK st1 b fun l e' op st2=>bif op&&Nat.beq e' e then (bif Nat.ble (o+(n+(m'+1))*sz) (llen l) then none else subK l o (n*sz) fun olds=>appK olds news fun row =>
    match st2 with
    | ⟨h,nx,bs,R,W⟩=>h.setK b none fun h1=>h1.setK nx (some (.cells row e true)) fun h2=>natK (Nat.succ nx) fun nx'=>insK bs b W fun W'=>natK (n+(m'+1)) fun n'=>some (.sl nx 0 n' (.rest sz),⟨h2,nx',bs,R,W'⟩))
   else none else none) else none
  | _=>none) else none
def apS (P:Program) (T T':TypeId) (x y:SV) (st:St):Option (SV × St):=bif Nat.beq T T' then match slT P T with
 | some (e,sz,by',_)=>srcK sz y st fun m news st1=>apC e sz by' x m news st1
 | none=>none else none
theorem apC_R {e sz by' m:Nat} {x v:SV} {news:List SV} (h:apC e sz by' x m news st=some (v,st')):∀ y,y∈st.R→y∈st'.R:=by
 unfold apC at h
 intro y hy
 split at h
 ·split at h
  ·simp only [Option.some.injEq,Prod.mk.injEq] at h;rw [← h.2];exact hy
  ·obtain ⟨_,h⟩:=bif_of h
   simp only [Option.some.injEq,Prod.mk.injEq] at h;rw [← h.2];exact hy
  ·cases h
 ·rename_i m'
  have hones:=(bif_of h).1
  replace h:=(bif_of h).2
  split at h
  ·obtain ⟨_,h⟩:=bif_of h
   simp only [newK_eq,natK_eq,Option.some.injEq,Prod.mk.injEq] at h;rw [← h.2];exact hy
  ·rename_i b o n k
   cases hb:Nat.ble (n+(m'+1)) k with
   | true =>
    rw [hb,cond_true] at h
    obtain ⟨l,e',op,hg,h⟩:=rdK_some h
    obtain ⟨hl,h⟩:=wrK_some h
    rw [wtK_eq] at h
    simp only [natK_eq,Option.some.injEq,Prod.mk.injEq] at h;rw [← h.2];exact ins_sub _ _ _ _ (ins_sub _ _ _ _ hy)
   | false =>
    rw [hb,cond_false] at h
    obtain ⟨_,h⟩:=bif_of h
    obtain ⟨l,e',op,hg,h⟩:=rdK_some h
    obtain ⟨hl,h⟩:=subK_some h
    simp only [appK_eq,newK_eq,natK_eq,Option.some.injEq,Prod.mk.injEq] at h;rw [← h.2];exact ins_sub _ _ _ _ hy
  ·obtain ⟨_,h⟩:=bif_of h
   obtain ⟨_,h⟩:=bif_of h
   obtain ⟨l,e',op,hg,h⟩:=rdK_some h
   obtain ⟨_,h⟩:=bif_of h
   cases hb:Nat.ble _ (llen l) with
   | true=>rw [hb] at h;cases h
   | false =>
    rw [hb,cond_false] at h
    obtain ⟨hl,h⟩:=subK_some h
    simp only [appK_eq,Tr.setK_eq,natK_eq,insK_eq,Option.some.injEq,Prod.mk.injEq] at h;rw [← h.2];exact ins_sub _ _ _ _ hy
  ·cases h
theorem Did.after {R:List Nat} {v:SV} {s:Sem Value} (hs:Sim ρ D st w) (hR:∀ x,x∈st.R→x∈R) (h:Did P ρ D ⟨st.h,st.nx,st.base,R,st.W⟩ st' w v s):Did P ρ D st st' w v s:=by
 obtain ⟨u,w',ρ',h1,h2,h3⟩:=h
 exact ⟨u,w',ρ',h1,h2,⟨h3.os,h3.tape,h3.output,h3.size,h3.nx,h3.base,fun x hx=>h3.sR x (hR x hx),h3.sW,h3.ext,h3.keep,h3.dead,h3.same,h3.fresh,h3.sim⟩⟩
theorem zeroCells_len {z:Array Value} {n:Nat}:(Builtin.zeroCells z n).toList.length=n*z.size:=by simp [Builtin.zeroCells]
theorem apC_ok {T e ty:TypeId} {i:TypeInfo} {zv:Value} {x v:SV} {u z:Value} {m:Nat} {news:List SV} {nv:List Value} (hu:P.underlying T=some (.slice e)) (hi:P.info? e=some i) (hzv:i.zero=some zv) (hzs:zv.cells.size=i.size)
 (hx:Rel ρ x u) (hz:Src P w i.size z m nv) (hn:RelL ρ news nv) (h:apC e i.size i.bytes x m news st=some (v,st')) (hs:Sim ρ D st w) (hD:∀ x,x∈st'.R∨st.base≤x→D x) (hf:Free ρ st.nx st'.nx) :
 Did P ρ D st st' w v (Builtin.append_ #[T,T] ty #[u,z]):=by
 have hzl:=hz.len
 unfold apC at h
 split at h
 ·
  have hnil:nv=[]:=List.eq_nil_of_length_eq_zero (by simpa using hzl)
  subst hnil
  obtain ⟨⟨az,cz,rfl,_⟩,_⟩:=hz
  split at h
  ·simp only [Option.some.injEq,Prod.mk.injEq] at h
   obtain ⟨rfl,rfl⟩:=h
   rw [Rel] at hx;subst hx
   refine Did.pure hs (u:=.slice none 0 0) ?_ (by rw [Rel])
   cases az with
   | none=>simp [Builtin.append_,run_underlying hu,sizeOf,typeInfo,hi,Builtin.lenOf,Builtin.firstCells]
   | some b =>
    have:(loadCells b 0).run P w=.ok #[] w:=by simpa using run_loadCells_list (P:=P) w b [] (by simp)
    simp [Builtin.append_,run_underlying hu,sizeOf,typeInfo,hi,Builtin.lenOf,Builtin.firstCells,this]
  ·rename_i b o n k
   have hb:=(bif_of h).1
   replace h:=(bif_of h).2
   have hb:=Nat.ble_eq.mp hb
   simp only [Option.some.injEq,Prod.mk.injEq] at h
   obtain ⟨rfl,rfl⟩:=h
   have hx0:=hx
   rw [Rel] at hx
   obtain ⟨B,s,cap,hB,hc,rfl⟩:=hx
   simp only [CapR] at hc
   subst hc
   refine Did.pure hs (u:=.slice (some ⟨B,s.1+o,none⟩) n cap) ?_ hx0
   have h0:(storeCells ((⟨B,s.1+o,none⟩:Addr).add (n*i.size)) []).run P w=.ok () w:=by simp [storeCells]
   cases az with
   | none=>simp [Builtin.append_,run_underlying hu,sizeOf,typeInfo,hi,Builtin.lenOf,Builtin.firstCells,hb,h0]
   | some b =>
    have:(loadCells b 0).run P w=.ok #[] w:=by simpa using run_loadCells_list (P:=P) w b [] (by simp)
    simp [Builtin.append_,run_underlying hu,sizeOf,typeInfo,hi,Builtin.lenOf,Builtin.firstCells,this,hb,h0]
  ·cases h
 ·rename_i m'
  have hones:=(bif_of h).1
  replace h:=(bif_of h).2
  have h1:=hn.ones hones
  have hnl:=hn.len
  split at h
  ·
   have hb:=(bif_of h).1
   replace h:=(bif_of h).2
   obtain ⟨hb1,hb2⟩:=by rw [Bool.and_eq_true] at hb;exact hb
   have hb1:=Nat.ble_eq.mp hb1
   have hb2:=Nat.ble_eq.mp hb2
   simp only [newK_eq,natK_eq,Option.some.injEq,Prod.mk.injEq] at h
   obtain ⟨e1,e2⟩:=h
   have hne:ρ st.nx=none:=hf _ (Nat.le_refl _) (by rw [← e2];exact Nat.lt_succ_self _)
   rw [Rel] at hx;subst hx
   obtain ⟨c,w',hc,hr,a1,a2,a3,a4⟩:=run_append_new (P:=P) (ty:=ty) (w:=w) (olds:=[]) (ad:=none) (n:=0) (k:=0) hu hi hzv rfl (fun _=>⟨rfl,rfl⟩) (fun {w'} _=>by simp [Builtin.firstCells]) hz (Nat.succ_pos _) (by omega) (by omega) (by rw [Nat.zero_add];exact hb1)
   simp only [List.nil_append,Nat.zero_add] at hr a4 hc
   refine Did.new (n:=(0,c*i.size)) hs hf e2.symm hr ⟨[],nv,(Builtin.zeroCells zv.cells (c-(m'+1))).toList,rfl,rfl,hn.mono (Ren.put_le hne),(fun h=>by cases h),?_⟩ a1 a2 a3 a4 ?_
   ·rw [hzl,zeroCells_len,hzs,← Nat.add_mul];congr 1;omega
   ·rw [← e1,Rel];exact ⟨_,_,c,Ren.put_at,by simp [CapR],rfl⟩
  ·rename_i b o n k
   have hx0:=hx
   rw [Rel] at hx
   obtain ⟨B,s,cap,hB,hc,rfl⟩:=hx
   simp only [CapR] at hc
   subst hc
   cases hb:Nat.ble (n+(m'+1)) cap with
   | true =>
    rw [hb,cond_true] at h
    have hb:=Nat.ble_eq.mp hb
    obtain ⟨l,e',op,hg,h⟩:=rdK_some h
    obtain ⟨hl,h⟩:=wrK_some h
    rw [wtK_eq] at h
    simp only [natK_eq,Option.some.injEq,Prod.mk.injEq] at h
    obtain ⟨e1,e2⟩:=h
    have hdx:D b:=hD b (by rw [← e2];rcases ins_has st.base b st.R with q | q;exact .inl (ins_sub _ _ _ _ q);exact .inr q)
    obtain ⟨b',s',pre,us,vs,q1,q2,qz,q3,q4,q5⟩:=hs.row hdx hg
    rw [hB] at q1;cases q1
    have hul:=q3.len
    obtain ⟨w',hr,a1,a2,a3,a4,a5,a6⟩:=run_append_in (P:=P) (ty:=ty) (w:=w) (b:=B) (o:=s.1+o) (n:=n) (k:=cap) hu hi q2 hz h1 hb (by rw [← qz];simp;omega)
    refine ⟨_,w',ρ,hr,by rw [← e1,Rel];exact ⟨B,s,cap,hB,rfl,rfl⟩,?_⟩
    rw [← e2]
    have e3:s.1+o+n*i.size=pre.length+(o+n*i.size):=by rw [qz];omega
    rw [e3,wrl_pre (by simp;omega),wrl_mid (by omega)] at a5
    refine Step.upd hs hdx (by rw [hg];simp) hB (o:=.cells (l.take (o+n*i.size)++news++l.drop (o+n*i.size+news.length)) e' op) (ob:=_) ⟨pre,us.take (o+n*i.size)++nv++us.drop (o+n*i.size+nv.length),vs,rfl,qz,?_,q4,?_⟩ (fun y hy=>ins_sub _ _ _ _ (ins_sub _ _ _ _ hy)) (ins_sub _ _ _) (ins_has _ _ _) a1 a2 a3 a4 a5 a6
    ·rw [hnl];exact ((q3.take _).app hn).app (q3.drop _)
    ·simp;omega
   | false =>
    rw [hb,cond_false] at h
    have hb:¬ (n+(m'+1)≤cap):=fun q=>by rw [Nat.ble_eq.mpr q] at hb;cases hb
    have hc:=(bif_of h).1
    replace h:=(bif_of h).2
    obtain ⟨hc1,hc2⟩:=by rw [Bool.and_eq_true] at hc;exact hc
    have hc1:=Nat.ble_eq.mp hc1
    have hc2:=Nat.ble_eq.mp hc2
    obtain ⟨l,e',op,hg,h⟩:=rdK_some h
    obtain ⟨hl,h⟩:=subK_some h
    simp only [appK_eq,newK_eq,natK_eq,Option.some.injEq,Prod.mk.injEq] at h
    obtain ⟨e1,e2⟩:=h
    have hdx:D b:=hD b (by rw [← e2];exact ins_has _ _ _)
    obtain ⟨b',s',pre,us,vs,q1,q2,qz,q3,q4,q5⟩:=hs.row hdx hg
    rw [hB] at q1;cases q1
    have hul:=q3.len
    have hsrc:Src P w i.size (.slice (some ⟨B,s.1+o,none⟩) n cap) n ((us.drop o).take (n*i.size)):=⟨⟨_,_,rfl,fun _=>⟨_,_,rfl,cells_of q2 qz⟩⟩,by simp;omega⟩
    have hne:ρ st.nx=none:=hf _ (Nat.le_refl _) (by rw [← e2];exact Nat.lt_succ_self _)
    obtain ⟨c,w',hc,hr,a1,a2,a3,a4⟩:=run_append_new (P:=P) (ty:=ty) (w:=w) (olds:=(us.drop o).take (n*i.size)) (n:=n) (k:=cap) hu hi hzv rfl (fun q=>by cases q) (fun {w'} hw=>run_firstCells_src hsrc hw) hz (Nat.succ_pos _) (by omega) hc2 hc1
    refine Did.after hs (ins_sub st.base b st.R) ?_
    have hs':Sim ρ D ⟨st.h,st.nx,st.base,ins st.base b st.R,st.W⟩ w:=⟨hs.live,hs.inj,hs.lt⟩
    refine Did.new (n:=(0,c*i.size)) hs' hf e2.symm hr ⟨[],(us.drop o).take (n*i.size)++nv,(Builtin.zeroCells zv.cells (c-(n+(m'+1)))).toList,rfl,rfl,(((q3.drop o).take _).app hn).mono (Ren.put_le hne),(fun h=>by cases h),?_⟩ a1 a2 a3 a4 ?_
    ·rw [List.length_append,hsrc.len,hzl,zeroCells_len,hzs,← Nat.add_mul,← Nat.add_mul];congr 1;omega
    ·rw [← e1,Rel];exact ⟨_,_,c,Ren.put_at,by simp [CapR],rfl⟩
  ·rename_i b o n sz'
   have hx0:=hx
   rw [Rel] at hx
   obtain ⟨B,s,cap,hB,hc,rfl⟩:=hx
   simp only [CapR] at hc
   have hq:=(bif_of h).1
   replace h:=(bif_of h).2
   obtain ⟨hq1,hq2⟩:=by rw [Bool.and_eq_true] at hq;exact hq
   have hq1:=Nat.eq_of_beq_eq_true hq1
   have hq2:=Nat.blt_eq.mp hq2
   subst hq1
   have hcc:=(bif_of h).1
   replace h:=(bif_of h).2
   obtain ⟨hc1,hc2⟩:=by rw [Bool.and_eq_true] at hcc;exact hcc
   have hc1:=Nat.ble_eq.mp hc1
   have hc2:=Nat.ble_eq.mp hc2
   obtain ⟨l,e',op,hg,h⟩:=rdK_some h
   have ho:=(bif_of h).1
   replace h:=(bif_of h).2
   obtain ⟨ho1,ho2⟩:=by rw [Bool.and_eq_true] at ho;exact ho
   have ho2:=Nat.eq_of_beq_eq_true ho2
   subst ho2
   cases hb:Nat.ble (o+(n+(m'+1))*i.size) (llen l) with
   | true=>rw [hb] at h;cases h
   | false =>
    rw [hb,cond_false] at h
    have hb:¬ (o+(n+(m'+1))*i.size≤l.length):=fun q=>by rw [← llen_eq] at q;rw [Nat.ble_eq.mpr q] at hb;cases hb
    obtain ⟨hl,h⟩:=subK_some h
    simp only [appK_eq,Tr.setK_eq,natK_eq,insK_eq,Option.some.injEq,Prod.mk.injEq] at h
    obtain ⟨e1,e2⟩:=h
    have hdx:D b:=hD b (by rw [← e2];exact ins_has _ _ _)
    obtain ⟨b',s',pre,us,vs,q1,q2,qz,q3,q4,q5⟩:=hs.row hdx hg
    rw [hB] at q1;cases q1
    have hul:=q3.len
    have hne:ρ st.nx=none:=hf _ (Nat.le_refl _) (by rw [← e2];exact Nat.lt_succ_self _)
    have hsrc:Src P w i.size (.slice (some ⟨B,s.1+o,none⟩) n cap) n ((us.drop o).take (n*i.size)):=⟨⟨_,_,rfl,fun _=>⟨_,_,rfl,cells_of q2 qz⟩⟩,by simp;omega⟩
    have hk1:∀ y,y∈st.W→y∈ins st.base b st.W:=ins_sub _ _ _
    by_cases hroom:n+(m'+1)≤cap
    ·
     have hm1:(n+(m'+1))*i.size≤cap*i.size:=Nat.mul_le_mul_right _ hroom
     have hzl2:nv.length=(m'+1)*i.size:=hzl
     have hm2:(n+(m'+1))*i.size=n*i.size+(m'+1)*i.size:=Nat.add_mul ..
     obtain ⟨w',hr,a1,a2,a3,a4,a5,a6⟩:=run_append_in (P:=P) (ty:=ty) (w:=w) (b:=B) (o:=s.1+o) (n:=n) (k:=cap) hu hi q2 hz h1 hroom (by rw [← qz];simp;omega)
     have e3:s.1+o+n*i.size=pre.length+(o+n*i.size):=by rw [qz];omega
     rw [e3,wrl_pre (by simp;omega)] at a5
     have e4:wrl (us++vs) (o+n*i.size) nv=us.take o++(((us.drop o).take (n*i.size)++nv)++(us++vs).drop (o+n*i.size+nv.length)):=by
      have e5:us++vs=us.take (o+n*i.size)++(us++vs).drop (o+n*i.size):=by
       conv=>lhs;rw [← List.take_append_drop (o+n*i.size) (us++vs)]
       rw [List.take_append_of_le_length (by omega)]
      have e6:(us.take (o+n*i.size)).length=o+n*i.size:=by simp;omega
      have e7:=wrl_eq nv (us.take (o+n*i.size)) ((us++vs).drop (o+n*i.size)) (by simp;omega)
      rw [e6,← e5] at e7
      rw [e7,List.drop_drop]
      have e8:us.take (o+n*i.size)=us.take o++(us.drop o).take (n*i.size):=by rw [List.take_add]
      rw [e8]
      simp [List.append_assoc]
     rw [e4,← List.append_assoc] at a5
     refine ⟨_,w',ρ.put st.nx B (s.1+o,s.2-o),hr,?_,?_⟩
     ·rw [← e1,Rel];exact ⟨B,(s.1+o,s.2-o),cap,Ren.put_at,by simp only [CapR];omega,rfl⟩
     ·rw [← e2]
      refine Step.move hs hne hdx (by rw [hg];simp) hB (s1:=(s.1+o,s.2-o)) (o:=.cells ((l.drop o).take (n*i.size)++news) e' true) (ob:=_) ⟨pre++us.take o,(us.drop o).take (n*i.size)++nv,(us++vs).drop (o+n*i.size+nv.length),rfl,?_,(((q3.drop o).take _).app hn).mono (Ren.put_le hne),(fun h=>by cases h),?_⟩ (ins_sub _ _ _) hk1 (ins_has _ _ _) a1 a2 a3 a4 a5 a6
      ·simp;omega
      ·simp;omega
    ·obtain ⟨c,w',hc',hr,a1,a2,a3,a4⟩:=run_append_new (P:=P) (ty:=ty) (w:=w) (olds:=(us.drop o).take (n*i.size)) (n:=n) (k:=cap) hu hi hzv rfl (fun q=>by cases q) (fun {w'} hw=>run_firstCells_src hsrc hw) hz (Nat.succ_pos _) (by omega) hc2 hc1
     have hkill:=Step.kill (x:=b) (R:=ins st.base b st.R) (W:=ins st.base b st.W) hs (ins_sub _ _ _) hk1 (ins_has _ _ _)
     have hrel:RelL ρ ((l.drop o).take (n*i.size)++news) ((us.drop o).take (n*i.size)++nv):=((q3.drop o).take _).app hn
     refine ⟨_,w',ρ.put st.nx w.heap.size (0,c*i.size),hr,?_,?_⟩
     ·rw [← e1,Rel];exact ⟨_,_,c,Ren.put_at,by simp [CapR],rfl⟩
     ·have hnew:=Step.new (o:=.cells ((l.drop o).take (n*i.size)++news) e' true) (s:=(0,c*i.size)) (ob:=_) hkill.sim hne ⟨[],(us.drop o).take (n*i.size)++nv,(Builtin.zeroCells zv.cells (c-(n+(m'+1)))).toList,rfl,rfl,hrel.mono (Ren.put_le hne),(fun h=>by cases h),(by
      rw [List.length_append,hsrc.len,hzl,zeroCells_len,hzs,← Nat.add_mul,← Nat.add_mul];congr 1;omega)⟩ a1 a2 a3 a4
      rw [← e2]
      exact hkill.trans hnew
  ·cases h
theorem apS_ok {T T' ty:TypeId} {x y v:SV} {u z:Value} (hx:Rel ρ x u) (hy:Rel ρ y z) (h:apS P T T' x y st=some (v,st')) (hs:Sim ρ D st w) (hD:∀ x,x∈st'.R∨st.base≤x→D x) (hf:Free ρ st.nx st'.nx) :
 Did P ρ D st st' w v (Builtin.append_ #[T,T'] ty #[u,z]):=by
 unfold apS at h
 have hT:=(bif_of h).1
 replace h:=(bif_of h).2
 have hT:=Nat.eq_of_beq_eq_true hT
 subst hT
 split at h
 ·rename_i e sz by' zz hT
  obtain ⟨hu,i,zv,hi,rfl,rfl,hz,rfl,hzc,hzl⟩:=slT_ok hT
  obtain ⟨n,vs,us,R',h,hR,hr,hsrc⟩:=srcK_ok hy h hs fun n vs st1 h1 x hx=>hD x (by
   rcases hx with q | q
   ·exact .inl (apC_R h1 x q)
   ·exact .inr q)
  refine Did.after hs hR ?_
  exact apC_ok hu hi hz (by rw [hzc];simpa using hzl) hx hsrc hr h ⟨hs.live,hs.inj,hs.lt⟩ hD hf
 ·cases h
end
end Go.TX
