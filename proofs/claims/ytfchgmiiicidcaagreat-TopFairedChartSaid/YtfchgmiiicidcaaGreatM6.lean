/-
  What is proved here: the reference's test of charts answers 0 only if the chart is valid. Conditions: none; each contract states its own.
-/
import Derived.Test.YtfchgmiiicidcaaGreatM5
import Derived.Test.YtfchgmiiicidcaaGreatM2
import Derived.Test.YtfchgmiiicidcaaGreatM4
import Derived.Test.YtfchgmiiicidcaaGreatM3
set_option linter.unusedVariables false
set_option linter.unusedSimpArgs false
namespace Go.Proofs.YtfchgmiiicidcaaGreat
open Go Go.TH
attribute [local irreducible] W WO pt
set_option maxRecDepth 10000
set_option maxHeartbeats 4000000
def rgX (x:Int × Int):Prop:=0≤x.1∧x.1≤x.2∧x.2≤100000
def flR (r:List (Int × Int)) (n:Nat):Prop:=∀ k,k<n→0<k→(r.getD k (0,0)).1≤(r.getD (k-1) (0,0)).1∧(r.getD k (0,0)).2≤(r.getD (k-1) (0,0)).2
theorem flR.next {r:List (Int × Int)} {n:Nat} (h:flR r n) (g:(r.getD n (0,0)).1≤(r.getD ((n:Int)-1).toNat (0,0)).1∧(r.getD n (0,0)).2≤(r.getD ((n:Int)-1).toNat (0,0)).2):flR r (n+1):=fun k hk h0=>by
 rcases Nat.lt_or_ge k n with q | q
 ·exact h k q h0
 ·obtain rfl:k=n:=by omega
  rw [show k-1=((k:Int)-1).toNat by omega];exact g
theorem ref_CheckChart (w:World) (vp va o:Value) (rv:List Value) (P A:List Int) (R:Ch.Rws) (hP:RdF encI 1 w.heap.size w vp P) (hA:RdF encI 1 w.heap.size w va A) (hR:RdR encP 2 w.heap.size w o rv R):RetE Tryz.prog 31 [.agg #[vp,va,o]].toArray w (fun r=>∃ e:Int,r=.int .i64 e∧(e=0→Ch.OkC P A R)):=by
 refine RetE.of mixed tyTab Tryz.func31 rfl rfl ?_
 replace hR:RdR encP 2 (fnCx mixed tyTab Tryz.f31.ntmps w).B (fnCx mixed tyTab Tryz.f31.ntmps w).w0 o rv R:=hR
 replace hP:RdF encI 1 (fnCx mixed tyTab Tryz.f31.ntmps w).B (fnCx mixed tyTab Tryz.f31.ntmps w).w0 vp P:=hP
 replace hA:RdF encI 1 (fnCx mixed tyTab Tryz.f31.ntmps w).B (fnCx mixed tyTab Tryz.f31.ntmps w).w0 va A:=hA
 have hle:=hR.sl.le
 have hrl:∀ j,j<R.length→(R.getD j []).length≤9223372036854775807:=fun j hj=>(hR.row j hj).sl.le
 refine W.sreg (WO.boxA rfl rfl (fun b1 hb1=>(WO.p rfl rfl (WO.nil (W.seq (W.sreg (WO.field0 rfl rfl rfl (WO.load rfl rfl (Cell.own Pick.head rfl) rfl ?_))))))))
 refine' WO.len (n:=_) rfl rfl ?hs rfl ?_
 case hs=>(first | exact hP.sl)
 refine WO.p rfl rfl (WO.p rfl rfl ?_)
 refine WO.guard_bl rfl rfl (fun c1=>?_) (fun c1=>?_)
 ·refine WO.no rfl rfl (WO.no rfl rfl (WO.no rfl rfl (WO.no rfl rfl (WO.p rfl rfl (WO.p rfl rfl (WO.no rfl rfl (WO.no rfl rfl (WO.no rfl rfl (WO.no rfl rfl (WO.p rfl rfl (WO.p rfl rfl (WO.no rfl rfl (WO.no rfl rfl (WO.no rfl rfl (WO.no rfl rfl (WO.p rfl rfl (WO.nil (W.cond_t rfl (W.sreg (WO.p rfl rfl (WO.nil (W.ret ?_))))))))))))))))))))))
  refine fin.ret (Res.one rfl (RV.tmp rfl)) ⟨_,rfl,fun he=>?_⟩
  (exfalso;omega)
 ·refine WO.go' rfl (WO.field0 rfl rfl rfl (WO.go' rfl (WO.load rfl rfl (Cell.own Pick.head rfl) rfl (WO.go' rfl ?_))))
  refine' WO.len (n:=_) rfl rfl ?hs rfl ?_
  case hs=>(first | exact hP.sl)
  refine WO.pg rfl rfl rfl (WO.p rfl rfl (WO.p rfl rfl ?_))
  refine WO.guard_bl rfl rfl (fun c2=>?_) (fun c2=>?_)
  ·refine WO.no rfl rfl (WO.no rfl rfl (WO.no rfl rfl (WO.no rfl rfl (WO.p rfl rfl (WO.p rfl rfl (WO.no rfl rfl (WO.no rfl rfl (WO.no rfl rfl (WO.no rfl rfl (WO.p rfl rfl (WO.nil (W.cond_t rfl (W.sreg (WO.p rfl rfl (WO.nil (W.ret ?_))))))))))))))))
   refine fin.ret (Res.one rfl (RV.tmp rfl)) ⟨_,rfl,fun he=>?_⟩
   (exfalso;omega)
  ·refine WO.go' rfl (WO.fieldL rfl rfl rfl (WO.go' rfl (WO.load rfl rfl (Cell.own Pick.head rfl) rfl (WO.go' rfl ?_))))
   refine' WO.len (n:=_) rfl rfl ?hs rfl ?_
   case hs=>(first | exact hA.sl)
   refine WO.pg rfl rfl rfl (WO.p rfl rfl (WO.p rfl rfl ?_))
   refine WO.guard_bl rfl rfl (fun c3=>?_) (fun c3=>?_)
   ·refine WO.no rfl rfl (WO.no rfl rfl (WO.no rfl rfl (WO.no rfl rfl (WO.p rfl rfl (WO.nil (W.cond_t rfl (W.sreg (WO.p rfl rfl (WO.nil (W.ret ?_))))))))))
    refine fin.ret (Res.one rfl (RV.tmp rfl)) ⟨_,rfl,fun he=>?_⟩
    (exfalso;omega)
   ·refine WO.go' rfl (WO.fieldL rfl rfl rfl (WO.go' rfl (WO.load rfl rfl (Cell.own Pick.head rfl) rfl (WO.go' rfl ?_))))
    refine' WO.len (n:=_) rfl rfl ?hs rfl ?_
    case hs=>(first | exact hA.sl)
    refine WO.pg rfl rfl rfl (WO.p rfl rfl (WO.nil ?_))
    refine W.cond_bl rfl (fun c4=>?_) (fun c4=>?_)
    ·refine W.sreg (WO.p rfl rfl (WO.nil (W.ret ?_)))
     refine fin.ret (Res.one rfl (RV.tmp rfl)) ⟨_,rfl,fun he=>?_⟩
     (exfalso;omega)
    ·refine W.skip (W.seq (W.sreg (WO.fieldL rfl rfl rfl (WO.load rfl rfl (Cell.own Pick.head rfl) rfl ?_))))
     refine' WO.len (n:=_) rfl rfl ?hs rfl ?_
     case hs=>(first | exact hR.sl)
     refine WO.field0 rfl rfl rfl (WO.load rfl rfl (Cell.own Pick.head rfl) rfl ?_)
     refine' WO.len (n:=_) rfl rfl ?hs rfl ?_
     case hs=>(first | exact hP.sl)
     refine WO.p rfl rfl (WO.nil ?_)
     refine W.cond_bl rfl (fun c5=>?_) (fun c5=>?_)
     ·refine W.sreg (WO.p rfl rfl (WO.nil (W.ret ?_)))
      refine fin.ret (Res.one rfl (RV.tmp rfl)) ⟨_,rfl,fun he=>?_⟩
      (exfalso;omega)
     ·refine W.skip (W.seq (W.sreg (WO.p rfl rfl (WO.nil (W.block ?_)))))
      refine W.loop (fun (i:Nat)=>i≤R.length∧∀ r∈R.take i,r.length=A.length)
       (fun (i:Nat)=>[(3,.int .i64 (i:Int)),(1,.pointer (some ⟨b1,0,none⟩))])
       (fun (i:Nat)=>[pt b1 (.cells #[vp,va,o] 25 (0,0))])
       (fun (i:Nat)=>R.length-i) 0
       (by exact ⟨by omega,by simp⟩) ⟨rfl,rfl,trivial⟩ (by repeat (first | exact Sub.nil | refine Sub.cons (by repeat exact .head) ?_)) ?_
      rintro i ⟨hi0,hl0⟩
      refine W.seq (W.sreg (WO.p rfl rfl (WO.fieldL rfl rfl rfl (WO.load rfl rfl (Cell.own Pick.head rfl) rfl ?_))))
      refine' WO.len (n:=_) rfl rfl ?hs rfl ?_
      case hs=>(first | exact hR.sl)
      refine WO.p rfl rfl (WO.nil ?_)
      refine W.cond_bl rfl (fun c6=>?_) (fun c6=>?_)
      ·refine W.skip (W.seq (W.block (W.seq ?_)))
       have hq0:=hrl i (by omega)
       refine W.drawD 9 [.r 0 [],.b 1 [],.r 2 [],.r 3 [],.b 4 [],.r 5 [],.r 6 [],.b 7 [],.r 8 []] [] (A0:=[]) (Sub.refl _) (by kernel_rfl) ?_ ?_
       ·repeat constructor
       refine DT.r rfl rfl rfl (WO.fieldL rfl rfl rfl (WO.nil ⟨rfl,rfl⟩)) (DT.b rfl rfl rfl (WO.load rfl rfl (Cell.own Pick.head rfl) rfl (WO.nil ⟨rfl,rfl⟩)) (DT.r rfl rfl rfl (WO.p rfl rfl (WO.nil ⟨rfl,rfl⟩)) ?_))
       refine' DT.r rfl rfl rfl ?hq ?_
       case hq =>
        refine' WO.indexAddr (n:=_) (i:=_) rfl rfl rfl ?hs ?h1 rfl ?_
        case hs=>(first | exact hR.sl)
        case h1=>(omega)
        exact WO.nil ⟨rfl,rfl⟩
       refine' DT.b rfl rfl rfl ?hq ?_
       case hq =>
        refine' WO.load (v:=_) rfl rfl ?hc rfl ?_
        case hc=>(first | first | (refine hR.cellV ?_;omega) | (refine (hR.row i ?_).cell0 (i:=k) ?_ (0,0) ?_ <;> first | rfl | omega) | (refine (hR.row i ?_).cell0 (i:=((k:Int)-1).toNat) ?_ (0,0) ?_ <;> first | rfl | omega) | (refine (hR.row i ?_).cellAt (i:=k) (j:=1) ?_ (0,0) ?_ <;> first | rfl | omega) | (refine (hR.row i ?_).cellAt (i:=((k:Int)-1).toNat) (j:=1) ?_ (0,0) ?_ <;> first | rfl | omega))
        exact WO.nil ⟨rfl,rfl⟩
       refine' DT.r rfl rfl rfl ?hq ?_
       case hq =>
        refine' WO.len (n:=_) rfl rfl ?hs rfl ?_
        case hs=>(first | (refine (hR.row i ?_).sl;omega))
        exact WO.nil ⟨rfl,rfl⟩
       refine DT.r rfl rfl rfl (WO.fieldL rfl rfl rfl (WO.nil ⟨rfl,rfl⟩)) (DT.b rfl rfl rfl (WO.load rfl rfl (Cell.own Pick.head rfl) rfl (WO.nil ⟨rfl,rfl⟩)) ?_)
       refine' DT.r rfl rfl rfl ?hq ?_
       case hq =>
        refine' WO.len (n:=_) rfl rfl ?hs rfl ?_
        case hs=>(first | exact hA.sl)
        exact WO.nil ⟨rfl,rfl⟩
       refine DT.nil [_] rfl (WO.p rfl rfl (WO.nil ?_))
       refine W.cond_bl rfl (fun c7=>?_) (fun c7=>?_)
       ·refine W.sreg (WO.p rfl rfl (WO.nil (W.ret ?_)))
        refine fin.ret (Res.one rfl (RV.tmp rfl)) ⟨_,rfl,fun he=>?_⟩
        (exfalso;omega)
       ·refine W.skip (W.region (WO.p rfl rfl (WO.ar rfl rfl rfl (by unfold in64;omega) rfl (WO.p rfl rfl (WO.nil ?_)))))
        refine' ⟨i+1,?hp,?hmu,⟨rfl,rfl,trivial⟩,?hS⟩
        case hS=>repeat (first | exact Sub.nil | refine Sub.cons (by repeat exact .head) ?_)
        case hp=>exact ⟨by omega,all_succ (by omega) [] hl0 (by omega)⟩
        case hmu=>omega
      ·refine W.exit (blk_same (W.seq ?_))
       obtain rfl:R.length=i:=by omega
       rw [List.take_length] at hl0
       refine W.sreg (WO.field0 rfl rfl rfl (WO.load rfl rfl (Cell.own Pick.head rfl) rfl (WO.callR rfl Tryz.call79 (fun L w hi=>ref_rising w vp P (hP.later hi)) rfl (WO.p rfl rfl (WO.p rfl rfl ?_)))))
       refine WO.guard_nbl rfl rfl (fun c8=>?_) (fun c8=>?_)
       ·refine WO.no rfl rfl (WO.no rfl rfl (WO.no rfl rfl (WO.no rfl rfl (WO.p rfl rfl (WO.nil (W.cond_t rfl (W.sreg (WO.p rfl rfl (WO.nil (W.ret ?_))))))))))
        refine fin.ret (Res.one rfl (RV.tmp rfl)) ⟨_,rfl,fun he=>?_⟩
        (exfalso;omega)
       ·refine WO.go' rfl (WO.fieldL rfl rfl rfl (WO.go' rfl (WO.load rfl rfl (Cell.own Pick.head rfl) rfl (WO.go' rfl (WO.callR rfl Tryz.call79 (fun L w hi=>ref_rising w va A (hA.later hi)) rfl (WO.pg rfl rfl rfl (WO.p rfl rfl (WO.nil ?_))))))))
        refine W.cond_nbl rfl (fun c9=>?_) (fun c9=>?_)
        ·refine W.sreg (WO.p rfl rfl (WO.nil (W.ret ?_)))
         refine fin.ret (Res.one rfl (RV.tmp rfl)) ⟨_,rfl,fun he=>?_⟩
         (exfalso;omega)
        ·refine W.skip (W.seq (W.sreg (WO.p rfl rfl (WO.nil (W.block ?_)))))
         refine W.loop (fun (i:Nat)=>i≤R.length∧∀ r∈R.take i,∀ x∈r,rgX x)
          (fun (i:Nat)=>[(4,.int .i64 (i:Int)),(1,.pointer (some ⟨b1,0,none⟩))])
          (fun (i:Nat)=>[pt b1 (.cells #[vp,va,o] 25 (0,0))])
          (fun (i:Nat)=>R.length-i) 0
          (by exact ⟨by omega,by simp⟩) ⟨rfl,rfl,trivial⟩ (by repeat (first | exact Sub.nil | refine Sub.cons (by repeat exact .head) ?_)) ?_
         rintro i ⟨hi1,hg0⟩
         refine W.seq (W.sreg (WO.p rfl rfl (WO.fieldL rfl rfl rfl (WO.load rfl rfl (Cell.own Pick.head rfl) rfl ?_))))
         refine' WO.len (n:=_) rfl rfl ?hs rfl ?_
         case hs=>(first | exact hR.sl)
         refine WO.p rfl rfl (WO.nil ?_)
         refine W.cond_bl rfl (fun c10=>?_) (fun c10=>?_)
         ·refine W.skip (W.seq (W.block (W.sreg (WO.p rfl rfl (WO.nil (W.block ?_))))))
          refine W.loop (fun (k:Nat)=>k≤(R.getD i []).length∧∀ x∈(R.getD i []).take k,rgX x)
           (fun (k:Nat)=>[(5,.int .i64 (k:Int)),(4,.int .i64 (i:Int)),(1,.pointer (some ⟨b1,0,none⟩))])
           (fun (k:Nat)=>[pt b1 (.cells #[vp,va,o] 25 (0,0))])
           (fun (k:Nat)=>(R.getD i []).length-k) 0
           (by exact ⟨by omega,by simp⟩) ⟨rfl,rfl,rfl,trivial⟩ (by repeat (first | exact Sub.nil | refine Sub.cons (by repeat exact .head) ?_)) ?_
          rintro k ⟨hk0,hk1⟩
          refine W.seq ?_
          have hq0:=hrl i (by omega)
          refine W.sreg (WO.p rfl rfl (WO.fieldL rfl rfl rfl (WO.load rfl rfl (Cell.own Pick.head rfl) rfl (WO.p rfl rfl ?_))))
          refine' WO.indexAddr (n:=_) (i:=_) rfl rfl rfl ?hs ?h1 rfl ?_
          case hs=>(first | exact hR.sl)
          case h1=>(omega)
          refine' WO.load (v:=_) rfl rfl ?hc rfl ?_
          case hc=>(first | first | (refine hR.cellV ?_;omega) | (refine (hR.row i ?_).cell0 (i:=k) ?_ (0,0) ?_ <;> first | rfl | omega) | (refine (hR.row i ?_).cell0 (i:=((k:Int)-1).toNat) ?_ (0,0) ?_ <;> first | rfl | omega) | (refine (hR.row i ?_).cellAt (i:=k) (j:=1) ?_ (0,0) ?_ <;> first | rfl | omega) | (refine (hR.row i ?_).cellAt (i:=((k:Int)-1).toNat) (j:=1) ?_ (0,0) ?_ <;> first | rfl | omega))
          refine' WO.len (n:=_) rfl rfl ?hs rfl ?_
          case hs=>(first | (refine (hR.row i ?_).sl;omega))
          refine WO.p rfl rfl (WO.nil ?_)
          refine W.cond_bl rfl (fun c11=>?_) (fun c11=>?_)
          ·refine W.skip (W.seq (W.block (W.sreg (WO.fieldL rfl rfl rfl (WO.load rfl rfl (Cell.own Pick.head rfl) rfl (WO.p rfl rfl ?_))))))
           refine' WO.indexAddr (n:=_) (i:=_) rfl rfl rfl ?hs ?h1 rfl ?_
           case hs=>(first | exact hR.sl)
           case h1=>(omega)
           refine' WO.load (v:=_) rfl rfl ?hc rfl ?_
           case hc=>(first | first | (refine hR.cellV ?_;omega) | (refine (hR.row i ?_).cell0 (i:=k) ?_ (0,0) ?_ <;> first | rfl | omega) | (refine (hR.row i ?_).cell0 (i:=((k:Int)-1).toNat) ?_ (0,0) ?_ <;> first | rfl | omega) | (refine (hR.row i ?_).cellAt (i:=k) (j:=1) ?_ (0,0) ?_ <;> first | rfl | omega) | (refine (hR.row i ?_).cellAt (i:=((k:Int)-1).toNat) (j:=1) ?_ (0,0) ?_ <;> first | rfl | omega))
           refine WO.p rfl rfl ?_
           refine' WO.indexAddr (n:=_) (i:=_) rfl rfl rfl ?hs ?h1 rfl ?_
           case hs=>(first | (refine (hR.row i ?_).sl;omega))
           case h1=>(omega)
           refine' WO.loadA (vs:=_) rfl rfl ?hc ?hl rfl ?_
           case hc=>((refine (hR.row i ?_).cells ?_ (0,0) <;> omega))
           case hl=>rfl
           refine WO.alloc rfl rfl rfl (fun b2 hb2=>(WO.storeA rfl rfl rfl rfl Pick.head rfl rfl (WO.nil (W.sreg (WO.field0 rfl rfl rfl (WO.load rfl rfl (Cell.own Pick.head rfl) rfl (WO.p rfl rfl (WO.p rfl rfl ?_))))))))
           refine WO.guard_bl rfl rfl (fun c12=>?_) (fun c12=>?_)
           ·refine WO.no rfl rfl (WO.no rfl rfl (WO.no rfl rfl (WO.no rfl rfl (WO.no rfl rfl (WO.p rfl rfl (WO.p rfl rfl (WO.no rfl rfl (WO.no rfl rfl (WO.no rfl rfl (WO.p rfl rfl (WO.nil (W.cond_t rfl (W.sreg (WO.p rfl rfl (WO.nil (W.ret ?_))))))))))))))))
            refine fin.ret (Res.one rfl (RV.tmp rfl)) ⟨_,rfl,fun he=>?_⟩
            (exfalso;omega)
           ·refine WO.go' rfl (WO.field0 rfl rfl rfl (WO.go' rfl (WO.load rfl rfl (Cell.own Pick.head rfl) rfl (WO.go' rfl (WO.fieldL rfl rfl rfl (WO.go' rfl (WO.load rfl rfl (Cell.own Pick.head rfl) rfl (WO.pg rfl rfl rfl (WO.p rfl rfl (WO.p rfl rfl ?_))))))))))
            refine WO.guard_bl rfl rfl (fun c13=>?_) (fun c13=>?_)
            ·refine WO.no rfl rfl (WO.no rfl rfl (WO.no rfl rfl (WO.p rfl rfl (WO.nil (W.cond_t rfl (W.sreg (WO.p rfl rfl (WO.nil (W.ret ?_)))))))))
             refine fin.ret (Res.one rfl (RV.tmp rfl)) ⟨_,rfl,fun he=>?_⟩
             (exfalso;omega)
            ·refine WO.go' rfl (WO.fieldL rfl rfl rfl (WO.go' rfl (WO.load rfl rfl (Cell.own Pick.head rfl) rfl (WO.pg rfl rfl rfl (WO.p rfl rfl (WO.nil ?_))))))
             refine W.cond_bl rfl (fun c14=>?_) (fun c14=>?_)
             ·refine W.sreg (WO.p rfl rfl (WO.nil (W.ret ?_)))
              refine fin.ret (Res.one rfl (RV.tmp rfl)) ⟨_,rfl,fun he=>?_⟩
              (exfalso;omega)
             ·refine W.skip (W.region (WO.p rfl rfl (WO.ar rfl rfl rfl (by unfold in64;omega) rfl (WO.p rfl rfl (WO.nil ?_)))))
              refine' ⟨k+1,?hp,?hmu,⟨rfl,rfl,rfl,trivial⟩,?hS⟩
              case hS=>repeat (first | exact Sub.nil | refine Sub.cons (by repeat first | exact .head | apply Pick.tail) ?_)
              case hp=>exact ⟨by omega,all_succ (by omega) (0,0) hk1 (by unfold rgX;omega)⟩
              case hmu=>omega
          ·refine W.exit (blk_same (W.region (WO.p rfl rfl (WO.ar rfl rfl rfl (by unfold in64;omega) rfl (WO.p rfl rfl (WO.nil ?_))))))
           refine' ⟨i+1,?hp,?hmu,⟨rfl,rfl,trivial⟩,?hS⟩
           case hS=>repeat (first | exact Sub.nil | refine Sub.cons (by repeat exact .head) ?_)
           case hp=>exact ⟨by omega,all_succ (by omega) [] hg0 (all_len (by omega) hk1)⟩
           case hmu=>omega
         ·refine W.exit (blk_same (W.seq ?_))
          obtain rfl:R.length=i:=by omega
          rw [List.take_length] at hg0
          refine W.sreg (WO.p rfl rfl (WO.nil (W.block ?_)))
          refine W.loop (fun (i:Nat)=>i≤R.length∧∀ r∈R.take i,flR r r.length)
           (fun (i:Nat)=>[(7,.int .i64 (i:Int)),(1,.pointer (some ⟨b1,0,none⟩))])
           (fun (i:Nat)=>[pt b1 (.cells #[vp,va,o] 25 (0,0))])
           (fun (i:Nat)=>R.length-i) 0
           (by exact ⟨by omega,by simp⟩) ⟨rfl,rfl,trivial⟩ (by repeat (first | exact Sub.nil | refine Sub.cons (by repeat exact .head) ?_)) ?_
          rintro i ⟨hi2,hf0⟩
          refine W.seq (W.sreg (WO.p rfl rfl (WO.fieldL rfl rfl rfl (WO.load rfl rfl (Cell.own Pick.head rfl) rfl ?_))))
          refine' WO.len (n:=_) rfl rfl ?hs rfl ?_
          case hs=>(first | exact hR.sl)
          refine WO.p rfl rfl (WO.nil ?_)
          refine W.cond_bl rfl (fun c15=>?_) (fun c15=>?_)
          ·refine W.skip (W.seq (W.block (W.sreg (WO.p rfl rfl (WO.nil (W.block ?_))))))
           refine W.loop (fun (k:Nat)=>(1≤k∧k≤(R.getD i []).length+1)∧flR (R.getD i []) k)
            (fun (k:Nat)=>[(8,.int .i64 (k:Int)),(7,.int .i64 (i:Int)),(1,.pointer (some ⟨b1,0,none⟩))])
            (fun (k:Nat)=>[pt b1 (.cells #[vp,va,o] 25 (0,0))])
            (fun (k:Nat)=>(R.getD i []).length+1-k) 1
            (by exact ⟨by omega,fun m h1 h2=>by omega⟩) ⟨rfl,rfl,rfl,trivial⟩ (by repeat (first | exact Sub.nil | refine Sub.cons (by repeat exact .head) ?_)) ?_
           rintro k ⟨hk2,hk3⟩
           refine W.seq ?_
           have hq0:=hrl i (by omega)
           refine W.sreg (WO.p rfl rfl (WO.fieldL rfl rfl rfl (WO.load rfl rfl (Cell.own Pick.head rfl) rfl (WO.p rfl rfl ?_))))
           refine' WO.indexAddr (n:=_) (i:=_) rfl rfl rfl ?hs ?h1 rfl ?_
           case hs=>(first | exact hR.sl)
           case h1=>(omega)
           refine' WO.load (v:=_) rfl rfl ?hc rfl ?_
           case hc=>(first | first | (refine hR.cellV ?_;omega) | (refine (hR.row i ?_).cell0 (i:=k) ?_ (0,0) ?_ <;> first | rfl | omega) | (refine (hR.row i ?_).cell0 (i:=((k:Int)-1).toNat) ?_ (0,0) ?_ <;> first | rfl | omega) | (refine (hR.row i ?_).cellAt (i:=k) (j:=1) ?_ (0,0) ?_ <;> first | rfl | omega) | (refine (hR.row i ?_).cellAt (i:=((k:Int)-1).toNat) (j:=1) ?_ (0,0) ?_ <;> first | rfl | omega))
           refine' WO.len (n:=_) rfl rfl ?hs rfl ?_
           case hs=>(first | (refine (hR.row i ?_).sl;omega))
           refine WO.p rfl rfl (WO.nil ?_)
           refine W.cond_bl rfl (fun c16=>?_) (fun c16=>?_)
           ·refine W.skip (W.seq (W.block (W.seq ?_)))
            refine W.drawD 40 [.r 0 [],.b 1 [],.r 2 [],.r 3 [],.b 4 [],.r 5 [],.r 6 [],.r 7 [],.b 8 [],.r 9 [],.b 10 [],.r 11 [],.r 12 [],.b 13 [],.r 14 [],.r 15 [],.r 16 [],.r 17 [],.b 18 [],.r 19 [],.r 20 [],.r 21 [],.b 22 [],.r 23 [],.r 24 [],.b 25 [],.r 26 [],.r 27 [],.r 28 [],.b 29 [],.r 30 [],.b 31 [],.r 32 [],.r 33 [],.b 34 [],.r 35 [],.r 36 [],.r 37 [],.r 38 [],.b 39 []] [] (A0:=[]) (Sub.refl _) (by kernel_rfl) ?_ ?_
            ·repeat constructor
            refine DT.r rfl rfl rfl (WO.fieldL rfl rfl rfl (WO.nil ⟨rfl,rfl⟩)) (DT.b rfl rfl rfl (WO.load rfl rfl (Cell.own Pick.head rfl) rfl (WO.nil ⟨rfl,rfl⟩)) (DT.r rfl rfl rfl (WO.p rfl rfl (WO.nil ⟨rfl,rfl⟩)) ?_))
            refine' DT.r rfl rfl rfl ?hq ?_
            case hq =>
             refine' WO.indexAddr (n:=_) (i:=_) rfl rfl rfl ?hs ?h1 rfl ?_
             case hs=>(first | exact hR.sl)
             case h1=>(omega)
             exact WO.nil ⟨rfl,rfl⟩
            refine' DT.b rfl rfl rfl ?hq ?_
            case hq =>
             refine' WO.load (v:=_) rfl rfl ?hc rfl ?_
             case hc=>(first | first | (refine hR.cellV ?_;omega) | (refine (hR.row i ?_).cell0 (i:=k) ?_ (0,0) ?_ <;> first | rfl | omega) | (refine (hR.row i ?_).cell0 (i:=((k:Int)-1).toNat) ?_ (0,0) ?_ <;> first | rfl | omega) | (refine (hR.row i ?_).cellAt (i:=k) (j:=1) ?_ (0,0) ?_ <;> first | rfl | omega) | (refine (hR.row i ?_).cellAt (i:=((k:Int)-1).toNat) (j:=1) ?_ (0,0) ?_ <;> first | rfl | omega))
             exact WO.nil ⟨rfl,rfl⟩
            refine DT.r rfl rfl rfl (WO.p rfl rfl (WO.nil ⟨rfl,rfl⟩)) ?_
            refine' DT.r rfl rfl rfl ?hq ?_
            case hq =>
             refine' WO.indexAddr (n:=_) (i:=_) rfl rfl rfl ?hs ?h1 rfl ?_
             case hs=>(first | (refine (hR.row i ?_).sl;omega))
             case h1=>(omega)
             exact WO.nil ⟨rfl,rfl⟩
            refine DT.r rfl rfl rfl (WO.field0 rfl rfl rfl (WO.nil ⟨rfl,rfl⟩)) ?_
            refine' DT.b rfl rfl rfl ?hq ?_
            case hq =>
             refine' WO.load (v:=_) rfl rfl ?hc rfl ?_
             case hc=>(first | first | (refine hR.cellV ?_;omega) | (refine (hR.row i ?_).cell0 (i:=k) ?_ (0,0) ?_ <;> first | rfl | omega) | (refine (hR.row i ?_).cell0 (i:=((k:Int)-1).toNat) ?_ (0,0) ?_ <;> first | rfl | omega) | (refine (hR.row i ?_).cellAt (i:=k) (j:=1) ?_ (0,0) ?_ <;> first | rfl | omega) | (refine (hR.row i ?_).cellAt (i:=((k:Int)-1).toNat) (j:=1) ?_ (0,0) ?_ <;> first | rfl | omega))
             exact WO.nil ⟨rfl,rfl⟩
            refine DT.r rfl rfl rfl (WO.fieldL rfl rfl rfl (WO.nil ⟨rfl,rfl⟩)) (DT.b rfl rfl rfl (WO.load rfl rfl (Cell.own Pick.head rfl) rfl (WO.nil ⟨rfl,rfl⟩)) (DT.r rfl rfl rfl (WO.p rfl rfl (WO.nil ⟨rfl,rfl⟩)) ?_))
            refine' DT.r rfl rfl rfl ?hq ?_
            case hq =>
             refine' WO.indexAddr (n:=_) (i:=_) rfl rfl rfl ?hs ?h1 rfl ?_
             case hs=>(first | exact hR.sl)
             case h1=>(omega)
             exact WO.nil ⟨rfl,rfl⟩
            refine' DT.b rfl rfl rfl ?hq ?_
            case hq =>
             refine' WO.load (v:=_) rfl rfl ?hc rfl ?_
             case hc=>(first | first | (refine hR.cellV ?_;omega) | (refine (hR.row i ?_).cell0 (i:=k) ?_ (0,0) ?_ <;> first | rfl | omega) | (refine (hR.row i ?_).cell0 (i:=((k:Int)-1).toNat) ?_ (0,0) ?_ <;> first | rfl | omega) | (refine (hR.row i ?_).cellAt (i:=k) (j:=1) ?_ (0,0) ?_ <;> first | rfl | omega) | (refine (hR.row i ?_).cellAt (i:=((k:Int)-1).toNat) (j:=1) ?_ (0,0) ?_ <;> first | rfl | omega))
             exact WO.nil ⟨rfl,rfl⟩
            refine DT.r rfl rfl rfl (WO.p rfl rfl (WO.nil ⟨rfl,rfl⟩)) (DT.r rfl rfl rfl (WO.ar rfl rfl rfl (by unfold in64;omega) rfl (WO.nil ⟨rfl,rfl⟩)) ?_)
            refine' DT.r rfl rfl rfl ?hq ?_
            case hq =>
             refine' WO.indexAddrZ (n:=_) rfl rfl rfl ?hs ?h00 ?h1 rfl ?_
             case hs=>(first | (refine (hR.row i ?_).sl;omega))
             case h00=>omega
             case h1=>(omega)
             exact WO.nil ⟨rfl,rfl⟩
            refine DT.r rfl rfl rfl (WO.field0 rfl rfl rfl (WO.nil ⟨rfl,rfl⟩)) ?_
            refine' DT.b rfl rfl rfl ?hq ?_
            case hq =>
             refine' WO.load (v:=_) rfl rfl ?hc rfl ?_
             case hc=>(first | first | (refine hR.cellV ?_;omega) | (refine (hR.row i ?_).cell0 (i:=k) ?_ (0,0) ?_ <;> first | rfl | omega) | (refine (hR.row i ?_).cell0 (i:=((k:Int)-1).toNat) ?_ (0,0) ?_ <;> first | rfl | omega) | (refine (hR.row i ?_).cellAt (i:=k) (j:=1) ?_ (0,0) ?_ <;> first | rfl | omega) | (refine (hR.row i ?_).cellAt (i:=((k:Int)-1).toNat) (j:=1) ?_ (0,0) ?_ <;> first | rfl | omega))
             exact WO.nil ⟨rfl,rfl⟩
            refine DT.r rfl rfl rfl (WO.p rfl rfl (WO.nil ⟨rfl,rfl⟩)) ?_
            refine DT.rB rfl rfl rfl (WO.p rfl rfl (WO.nil ⟨rfl,rfl⟩)) (fun c17=>?_) (fun c17=>?_)
            ·refine DT.r rfl rfl rfl (WO.no rfl rfl (WO.nil ⟨rfl,rfl⟩)) (DT.b rfl rfl rfl (WO.no rfl rfl (WO.nil ⟨rfl,rfl⟩)) (DT.r rfl rfl rfl (WO.no rfl rfl (WO.nil ⟨rfl,rfl⟩)) (DT.r rfl rfl rfl (WO.no rfl rfl (WO.nil ⟨rfl,rfl⟩)) (DT.b rfl rfl rfl (WO.no rfl rfl (WO.nil ⟨rfl,rfl⟩)) (DT.r rfl rfl rfl (WO.no rfl rfl (WO.nil ⟨rfl,rfl⟩)) (DT.r rfl rfl rfl (WO.no rfl rfl (WO.nil ⟨rfl,rfl⟩)) (DT.r rfl rfl rfl (WO.no rfl rfl (WO.nil ⟨rfl,rfl⟩)) (DT.b rfl rfl rfl (WO.no rfl rfl (WO.nil ⟨rfl,rfl⟩)) (DT.r rfl rfl rfl (WO.no rfl rfl (WO.nil ⟨rfl,rfl⟩)) (DT.b rfl rfl rfl (WO.no rfl rfl (WO.nil ⟨rfl,rfl⟩)) ?_))))))))))
             refine DT.r rfl rfl rfl (WO.no rfl rfl (WO.nil ⟨rfl,rfl⟩)) (DT.r rfl rfl rfl (WO.no rfl rfl (WO.nil ⟨rfl,rfl⟩)) (DT.b rfl rfl rfl (WO.no rfl rfl (WO.nil ⟨rfl,rfl⟩)) (DT.r rfl rfl rfl (WO.no rfl rfl (WO.nil ⟨rfl,rfl⟩)) (DT.r rfl rfl rfl (WO.no rfl rfl (WO.nil ⟨rfl,rfl⟩)) (DT.r rfl rfl rfl (WO.no rfl rfl (WO.nil ⟨rfl,rfl⟩)) (DT.r rfl rfl rfl (WO.no rfl rfl (WO.nil ⟨rfl,rfl⟩)) (DT.b rfl rfl rfl (WO.no rfl rfl (WO.nil ⟨rfl,rfl⟩)) (DT.nil [_] rfl (WO.no rfl rfl (WO.p rfl rfl (WO.nil (W.cond_t rfl (W.sreg (WO.p rfl rfl (WO.nil (W.ret ?_))))))))))))))))
             refine fin.ret (Res.one rfl (RV.tmp rfl)) ⟨_,rfl,fun he=>?_⟩
             (exfalso;omega)
            ·refine DT.r rfl rfl rfl (WO.go' rfl (WO.fieldL rfl rfl rfl (WO.nil ⟨rfl,rfl⟩))) (DT.b rfl rfl rfl (WO.go' rfl (WO.load rfl rfl (Cell.own Pick.head rfl) rfl (WO.nil ⟨rfl,rfl⟩))) (DT.r rfl rfl rfl (WO.pg rfl rfl rfl (WO.nil ⟨rfl,rfl⟩)) ?_))
             refine' DT.r rfl rfl rfl ?hq ?_
             case hq =>
              refine WO.go' rfl ?_
              refine' WO.indexAddr (n:=_) (i:=_) rfl rfl rfl ?hs ?h1 rfl ?_
              case hs=>(first | exact hR.sl)
              case h1=>(omega)
              exact WO.nil ⟨rfl,rfl⟩
             refine' DT.b rfl rfl rfl ?hq ?_
             case hq =>
              refine WO.go' rfl ?_
              refine' WO.load (v:=_) rfl rfl ?hc rfl ?_
              case hc=>(first | first | (refine hR.cellV ?_;omega) | (refine (hR.row i ?_).cell0 (i:=k) ?_ (0,0) ?_ <;> first | rfl | omega) | (refine (hR.row i ?_).cell0 (i:=((k:Int)-1).toNat) ?_ (0,0) ?_ <;> first | rfl | omega) | (refine (hR.row i ?_).cellAt (i:=k) (j:=1) ?_ (0,0) ?_ <;> first | rfl | omega) | (refine (hR.row i ?_).cellAt (i:=((k:Int)-1).toNat) (j:=1) ?_ (0,0) ?_ <;> first | rfl | omega))
              exact WO.nil ⟨rfl,rfl⟩
             refine DT.r rfl rfl rfl (WO.pg rfl rfl rfl (WO.nil ⟨rfl,rfl⟩)) ?_
             refine' DT.r rfl rfl rfl ?hq ?_
             case hq =>
              refine WO.go' rfl ?_
              refine' WO.indexAddr (n:=_) (i:=_) rfl rfl rfl ?hs ?h1 rfl ?_
              case hs=>(first | (refine (hR.row i ?_).sl;omega))
              case h1=>(omega)
              exact WO.nil ⟨rfl,rfl⟩
             refine DT.r rfl rfl rfl (WO.go' rfl (WO.field rfl rfl rfl (WO.nil ⟨rfl,rfl⟩))) ?_
             refine' DT.b rfl rfl rfl ?hq ?_
             case hq =>
              refine WO.go' rfl ?_
              refine' WO.load (v:=_) rfl rfl ?hc rfl ?_
              case hc=>(first | first | (refine hR.cellV ?_;omega) | (refine (hR.row i ?_).cell0 (i:=k) ?_ (0,0) ?_ <;> first | rfl | omega) | (refine (hR.row i ?_).cell0 (i:=((k:Int)-1).toNat) ?_ (0,0) ?_ <;> first | rfl | omega) | (refine (hR.row i ?_).cellAt (i:=k) (j:=1) ?_ (0,0) ?_ <;> first | rfl | omega) | (refine (hR.row i ?_).cellAt (i:=((k:Int)-1).toNat) (j:=1) ?_ (0,0) ?_ <;> first | rfl | omega))
              exact WO.nil ⟨rfl,rfl⟩
             refine DT.r rfl rfl rfl (WO.go' rfl (WO.fieldL rfl rfl rfl (WO.nil ⟨rfl,rfl⟩))) (DT.b rfl rfl rfl (WO.go' rfl (WO.load rfl rfl (Cell.own Pick.head rfl) rfl (WO.nil ⟨rfl,rfl⟩))) (DT.r rfl rfl rfl (WO.pg rfl rfl rfl (WO.nil ⟨rfl,rfl⟩)) ?_))
             refine' DT.r rfl rfl rfl ?hq ?_
             case hq =>
              refine WO.go' rfl ?_
              refine' WO.indexAddr (n:=_) (i:=_) rfl rfl rfl ?hs ?h1 rfl ?_
              case hs=>(first | exact hR.sl)
              case h1=>(omega)
              exact WO.nil ⟨rfl,rfl⟩
             refine' DT.b rfl rfl rfl ?hq ?_
             case hq =>
              refine WO.go' rfl ?_
              refine' WO.load (v:=_) rfl rfl ?hc rfl ?_
              case hc=>(first | first | (refine hR.cellV ?_;omega) | (refine (hR.row i ?_).cell0 (i:=k) ?_ (0,0) ?_ <;> first | rfl | omega) | (refine (hR.row i ?_).cell0 (i:=((k:Int)-1).toNat) ?_ (0,0) ?_ <;> first | rfl | omega) | (refine (hR.row i ?_).cellAt (i:=k) (j:=1) ?_ (0,0) ?_ <;> first | rfl | omega) | (refine (hR.row i ?_).cellAt (i:=((k:Int)-1).toNat) (j:=1) ?_ (0,0) ?_ <;> first | rfl | omega))
              exact WO.nil ⟨rfl,rfl⟩
             refine DT.r rfl rfl rfl (WO.pg rfl rfl rfl (WO.nil ⟨rfl,rfl⟩)) (DT.r rfl rfl rfl (WO.go' rfl (WO.ar rfl rfl rfl (by unfold in64;omega) rfl (WO.nil ⟨rfl,rfl⟩))) ?_)
             refine' DT.r rfl rfl rfl ?hq ?_
             case hq =>
              refine WO.go' rfl ?_
              refine' WO.indexAddrZ (n:=_) rfl rfl rfl ?hs ?h00 ?h1 rfl ?_
              case hs=>(first | (refine (hR.row i ?_).sl;omega))
              case h00=>omega
              case h1=>(omega)
              exact WO.nil ⟨rfl,rfl⟩
             refine DT.r rfl rfl rfl (WO.go' rfl (WO.field rfl rfl rfl (WO.nil ⟨rfl,rfl⟩))) ?_
             refine' DT.b rfl rfl rfl ?hq ?_
             case hq =>
              refine WO.go' rfl ?_
              refine' WO.load (v:=_) rfl rfl ?hc rfl ?_
              case hc=>(first | first | (refine hR.cellV ?_;omega) | (refine (hR.row i ?_).cell0 (i:=k) ?_ (0,0) ?_ <;> first | rfl | omega) | (refine (hR.row i ?_).cell0 (i:=((k:Int)-1).toNat) ?_ (0,0) ?_ <;> first | rfl | omega) | (refine (hR.row i ?_).cellAt (i:=k) (j:=1) ?_ (0,0) ?_ <;> first | rfl | omega) | (refine (hR.row i ?_).cellAt (i:=((k:Int)-1).toNat) (j:=1) ?_ (0,0) ?_ <;> first | rfl | omega))
              exact WO.nil ⟨rfl,rfl⟩
             refine DT.nil [_] rfl (WO.pg rfl rfl rfl (WO.p rfl rfl (WO.nil ?_)))
             refine W.cond_bl rfl (fun c18=>?_) (fun c18=>?_)
             ·refine W.sreg (WO.p rfl rfl (WO.nil (W.ret ?_)))
              refine fin.ret (Res.one rfl (RV.tmp rfl)) ⟨_,rfl,fun he=>?_⟩
              (exfalso;omega)
             ·refine W.skip (W.region (WO.p rfl rfl (WO.ar rfl rfl rfl (by unfold in64;omega) rfl (WO.p rfl rfl (WO.nil ?_)))))
              refine' ⟨k+1,?hp,?hmu,⟨rfl,rfl,rfl,trivial⟩,?hS⟩
              case hS=>repeat (first | exact Sub.nil | refine Sub.cons (by repeat exact .head) ?_)
              case hp=>exact ⟨by omega,hk3.next (by omega)⟩
              case hmu=>omega
           ·refine W.exit (blk_same (W.region (WO.p rfl rfl (WO.ar rfl rfl rfl (by unfold in64;omega) rfl (WO.p rfl rfl (WO.nil ?_))))))
            refine' ⟨i+1,?hp,?hmu,⟨rfl,rfl,trivial⟩,?hS⟩
            case hS=>repeat (first | exact Sub.nil | refine Sub.cons (by repeat exact .head) ?_)
            case hp=>exact ⟨by omega,all_succ (by omega) [] hf0 (fun m hm h0=>hk3 m (by omega) h0)⟩
            case hmu=>omega
          ·refine W.exit (blk_same (W.sreg (WO.p rfl rfl (WO.nil (W.ret ?_)))))
           refine fin.ret (Res.one rfl (RV.tmp rfl)) ⟨_,rfl,fun he=>?_⟩
           (have hl9:R.length=i:=(by omega);subst hl9;rw [List.take_length] at hf0;exact ⟨by omega,by omega,by omega,hl0,by assumption,by assumption,hg0,hf0⟩)
end Go.Proofs.YtfchgmiiicidcaaGreat
namespace Go.Proofs.YtfchgmiiicidcaaGreat
open Go Go.TH
attribute [local irreducible] W WO pt
set_option maxRecDepth 10000
set_option maxHeartbeats 4000000
theorem c_chart08 (w:World) (vp va o:Value) (rv:List Value) (P A:List Int) (R:Ch.Rws) (hP:RdF encI 1 w.heap.size w vp P) (hA:RdF encI 1 w.heap.size w va A) (hR:RdR encP 2 w.heap.size w o rv R):RetE Tryz.prog 7 [.agg #[vp,va,o]].toArray w (fun r=>∃ b:Bool,r=.bool b∧(b=true→Ch.OkC P A R)):=by
 refine RetE.of mixed tyTab Tryz.func7 rfl rfl ?_
 replace hR:RdR encP 2 (fnCx mixed tyTab Tryz.f7.ntmps w).B (fnCx mixed tyTab Tryz.f7.ntmps w).w0 o rv R:=hR
 replace hP:RdF encI 1 (fnCx mixed tyTab Tryz.f7.ntmps w).B (fnCx mixed tyTab Tryz.f7.ntmps w).w0 vp P:=hP
 replace hA:RdF encI 1 (fnCx mixed tyTab Tryz.f7.ntmps w).B (fnCx mixed tyTab Tryz.f7.ntmps w).w0 va A:=hA
 have hle:=hR.sl.le
 refine W.sreg (WO.boxA rfl rfl (fun b1 hb1=>(WO.p rfl rfl (WO.nil (W.seq (W.sreg (WO.fieldL rfl rfl rfl (WO.load rfl rfl (Cell.own Pick.head rfl) rfl ?_))))))))
 refine' WO.len (n:=_) rfl rfl ?hs rfl ?_
 case hs=>(first | exact hR.sl)
 refine WO.p rfl rfl (WO.nil ?_)
 refine W.cond_bl rfl (fun c1=>?_) (fun c1=>?_)
 ·refine W.sreg (WO.p rfl rfl (WO.nil (W.ret ?_)))
  refine fin.ret (Res.one rfl (RV.tmp rfl)) ⟨_,rfl,fun h9=>?_⟩
  (exfalso;cases h9)
 ·refine W.skip (W.seq (W.sreg (WO.p rfl rfl (WO.nil (W.block ?_)))))
  refine W.loop (fun (i:Nat)=>i≤R.length)
   (fun (i:Nat)=>[(3,.int .i64 (i:Int)),(1,.pointer (some ⟨b1,0,none⟩))])
   (fun (i:Nat)=>[pt b1 (.cells #[vp,va,o] 25 (0,0))])
   (fun (i:Nat)=>R.length-i) 0
   (by omega) ⟨rfl,rfl,trivial⟩ (by repeat (first | exact Sub.nil | refine Sub.cons (by repeat exact .head) ?_)) ?_
  rintro i hi0
  refine W.seq (W.sreg (WO.p rfl rfl (WO.fieldL rfl rfl rfl (WO.load rfl rfl (Cell.own Pick.head rfl) rfl ?_))))
  refine' WO.len (n:=_) rfl rfl ?hs rfl ?_
  case hs=>(first | exact hR.sl)
  refine WO.p rfl rfl (WO.nil ?_)
  refine W.cond_bl rfl (fun c2=>?_) (fun c2=>?_)
  ·refine W.skip (W.seq (W.block (W.sreg (WO.fieldL rfl rfl rfl (WO.load rfl rfl (Cell.own Pick.head rfl) rfl (WO.p rfl rfl ?_))))))
   refine' WO.indexAddr (n:=_) (i:=_) rfl rfl rfl ?hs ?h1 rfl ?_
   case hs=>(first | exact hR.sl)
   case h1=>(omega)
   refine' WO.load (v:=_) rfl rfl ?hc rfl ?_
   case hc=>((refine hR.cellV ?_;omega))
   refine' WO.len (n:=_) rfl rfl ?hs rfl ?_
   case hs=>(first | (refine (hR.row i ?_).sl;omega))
   refine WO.p rfl rfl (WO.nil ?_)
   refine W.cond_bl rfl (fun c3=>?_) (fun c3=>?_)
   ·refine W.sreg (WO.p rfl rfl (WO.nil (W.ret ?_)))
    refine fin.ret (Res.one rfl (RV.tmp rfl)) ⟨_,rfl,fun h9=>?_⟩
    (exfalso;cases h9)
   ·refine W.skip (W.region (WO.p rfl rfl (WO.ar rfl rfl rfl (by unfold in64;omega) rfl (WO.p rfl rfl (WO.nil ?_)))))
    refine' ⟨i+1,?hp,?hmu,⟨rfl,rfl,trivial⟩,?hS⟩
    case hS=>repeat (first | exact Sub.nil | refine Sub.cons (by repeat exact .head) ?_)
    case hp=>omega
    case hmu=>omega
  ·refine W.exit (blk_same (W.sreg (WO.loadA rfl rfl (Cells.own Pick.head) rfl rfl (WO.callE rfl Tryz.call31 (fun L w hi=>ref_CheckChart w vp va o rv P A R (hP.later hi) (hA.later hi) (hR.later hi)) rfl ?_))))
   rintro _ ⟨e,rfl,he⟩
   refine WO.p rfl rfl (WO.p rfl rfl (WO.nil (W.ret ?_)))
   refine fin.ret (Res.one rfl (RV.tmp rfl)) ⟨_,rfl,fun h9=>?_⟩
   exact he (bl_t.1 h9)
end Go.Proofs.YtfchgmiiicidcaaGreat
namespace Go.Proofs.YtfchgmiiicidcaaGreat
open Go Go.TH
attribute [local irreducible] W WO pt
set_option maxRecDepth 10000
set_option maxHeartbeats 4000000
theorem ref_CheckChart0 (w:World) (vp va o:Value) (rv:List Value) (P A:List Int) (R:Ch.Rws) (hc:Ch.OkC P A R) (hP:RdF encI 1 w.heap.size w vp P) (hA:RdF encI 1 w.heap.size w va A) (hR:RdR encP 2 w.heap.size w o rv R):Ret Tryz.prog 31 [.agg #[vp,va,o]].toArray w (.int .i64 0):=by
 refine Ret.of mixed tyTab Tryz.func31 rfl rfl ?_
 replace hR:RdR encP 2 (fnCx mixed tyTab Tryz.f31.ntmps w).B (fnCx mixed tyTab Tryz.f31.ntmps w).w0 o rv R:=hR
 replace hP:RdF encI 1 (fnCx mixed tyTab Tryz.f31.ntmps w).B (fnCx mixed tyTab Tryz.f31.ntmps w).w0 vp P:=hP
 replace hA:RdF encI 1 (fnCx mixed tyTab Tryz.f31.ntmps w).B (fnCx mixed tyTab Tryz.f31.ntmps w).w0 va A:=hA
 have hle:=hR.sl.le
 have hnp:=hc.np
 have hna:=hc.na
 have hnr:=hc.nr
 have hrl:∀ j,j<R.length→(R.getD j []).length≤9223372036854775807:=fun j hj=>(hR.row j hj).sl.le
 refine W.sreg (WO.boxA rfl rfl (fun b1 hb1=>(WO.p rfl rfl (WO.nil (W.seq (W.sreg (WO.field0 rfl rfl rfl (WO.load rfl rfl (Cell.own Pick.head rfl) rfl ?_))))))))
 refine' WO.len (n:=_) rfl rfl ?hs rfl ?_
 case hs=>(first | exact hP.sl)
 refine WO.p rfl rfl (WO.p rfl rfl ?_)
 refine WO.guard_bl rfl rfl (fun c1=>?_) (fun c1=>?_)
 ·exfalso;omega
 ·refine WO.go' rfl (WO.field0 rfl rfl rfl (WO.go' rfl (WO.load rfl rfl (Cell.own Pick.head rfl) rfl (WO.go' rfl ?_))))
  refine' WO.len (n:=_) rfl rfl ?hs rfl ?_
  case hs=>(first | exact hP.sl)
  refine WO.pg rfl rfl rfl (WO.p rfl rfl (WO.p rfl rfl ?_))
  refine WO.guard_bl rfl rfl (fun c2=>?_) (fun c2=>?_)
  ·exfalso;omega
  ·refine WO.go' rfl (WO.fieldL rfl rfl rfl (WO.go' rfl (WO.load rfl rfl (Cell.own Pick.head rfl) rfl (WO.go' rfl ?_))))
   refine' WO.len (n:=_) rfl rfl ?hs rfl ?_
   case hs=>(first | exact hA.sl)
   refine WO.pg rfl rfl rfl (WO.p rfl rfl (WO.p rfl rfl ?_))
   refine WO.guard_bl rfl rfl (fun c3=>?_) (fun c3=>?_)
   ·exfalso;omega
   ·refine WO.go' rfl (WO.fieldL rfl rfl rfl (WO.go' rfl (WO.load rfl rfl (Cell.own Pick.head rfl) rfl (WO.go' rfl ?_))))
    refine' WO.len (n:=_) rfl rfl ?hs rfl ?_
    case hs=>(first | exact hA.sl)
    refine WO.pg rfl rfl rfl (WO.p rfl rfl (WO.nil ?_))
    refine W.cond_bl rfl (fun c4=>?_) (fun c4=>?_)
    ·exfalso;omega
    ·refine W.skip (W.seq (W.sreg (WO.fieldL rfl rfl rfl (WO.load rfl rfl (Cell.own Pick.head rfl) rfl ?_))))
     refine' WO.len (n:=_) rfl rfl ?hs rfl ?_
     case hs=>(first | exact hR.sl)
     refine WO.field0 rfl rfl rfl (WO.load rfl rfl (Cell.own Pick.head rfl) rfl ?_)
     refine' WO.len (n:=_) rfl rfl ?hs rfl ?_
     case hs=>(first | exact hP.sl)
     refine WO.p rfl rfl (WO.nil ?_)
     refine W.cond_bl rfl (fun c5=>?_) (fun c5=>?_)
     ·exfalso;omega
     ·refine W.skip (W.seq (W.sreg (WO.p rfl rfl (WO.nil (W.block ?_)))))
      refine W.loop (fun (i:Nat)=>i≤R.length)
       (fun (i:Nat)=>[(3,.int .i64 (i:Int)),(1,.pointer (some ⟨b1,0,none⟩))])
       (fun (i:Nat)=>[pt b1 (.cells #[vp,va,o] 25 (0,0))])
       (fun (i:Nat)=>R.length-i) 0
       (by omega) ⟨rfl,rfl,trivial⟩ (by repeat (first | exact Sub.nil | refine Sub.cons (by repeat exact .head) ?_)) ?_
      rintro i hi0
      refine W.seq (W.sreg (WO.p rfl rfl (WO.fieldL rfl rfl rfl (WO.load rfl rfl (Cell.own Pick.head rfl) rfl ?_))))
      refine' WO.len (n:=_) rfl rfl ?hs rfl ?_
      case hs=>(first | exact hR.sl)
      refine WO.p rfl rfl (WO.nil ?_)
      refine W.cond_bl rfl (fun c6=>?_) (fun c6=>?_)
      ·refine W.skip (W.seq (W.block (W.seq ?_)))
       have hq0:=hc.row (show i<R.length by omega)
       refine W.drawD 9 [.r 0 [],.b 1 [],.r 2 [],.r 3 [],.b 4 [],.r 5 [],.r 6 [],.b 7 [],.r 8 []] [] (A0:=[]) (Sub.refl _) (by kernel_rfl) ?_ ?_
       ·repeat constructor
       refine DT.r rfl rfl rfl (WO.fieldL rfl rfl rfl (WO.nil ⟨rfl,rfl⟩)) (DT.b rfl rfl rfl (WO.load rfl rfl (Cell.own Pick.head rfl) rfl (WO.nil ⟨rfl,rfl⟩)) (DT.r rfl rfl rfl (WO.p rfl rfl (WO.nil ⟨rfl,rfl⟩)) ?_))
       refine' DT.r rfl rfl rfl ?hq ?_
       case hq =>
        refine' WO.indexAddr (n:=_) (i:=_) rfl rfl rfl ?hs ?h1 rfl ?_
        case hs=>(first | exact hR.sl)
        case h1=>(omega)
        exact WO.nil ⟨rfl,rfl⟩
       refine' DT.b rfl rfl rfl ?hq ?_
       case hq =>
        refine' WO.load (v:=_) rfl rfl ?hc rfl ?_
        case hc=>(first | first | (refine hR.cellV ?_;omega) | (refine (hR.row i ?_).cell0 (i:=k) ?_ (0,0) ?_ <;> first | rfl | omega) | (refine (hR.row i ?_).cell0 (i:=((k:Int)-1).toNat) ?_ (0,0) ?_ <;> first | rfl | omega) | (refine (hR.row i ?_).cellAt (i:=k) (j:=1) ?_ (0,0) ?_ <;> first | rfl | omega) | (refine (hR.row i ?_).cellAt (i:=((k:Int)-1).toNat) (j:=1) ?_ (0,0) ?_ <;> first | rfl | omega))
        exact WO.nil ⟨rfl,rfl⟩
       refine' DT.r rfl rfl rfl ?hq ?_
       case hq =>
        refine' WO.len (n:=_) rfl rfl ?hs rfl ?_
        case hs=>(first | (refine (hR.row i ?_).sl;omega))
        exact WO.nil ⟨rfl,rfl⟩
       refine DT.r rfl rfl rfl (WO.fieldL rfl rfl rfl (WO.nil ⟨rfl,rfl⟩)) (DT.b rfl rfl rfl (WO.load rfl rfl (Cell.own Pick.head rfl) rfl (WO.nil ⟨rfl,rfl⟩)) ?_)
       refine' DT.r rfl rfl rfl ?hq ?_
       case hq =>
        refine' WO.len (n:=_) rfl rfl ?hs rfl ?_
        case hs=>(first | exact hA.sl)
        exact WO.nil ⟨rfl,rfl⟩
       refine DT.nil [_] rfl (WO.p rfl rfl (WO.nil ?_))
       refine W.cond_bl rfl (fun c7=>?_) (fun c7=>?_)
       ·exfalso;omega
       ·refine W.skip (W.region (WO.p rfl rfl (WO.ar rfl rfl rfl (by unfold in64;omega) rfl (WO.p rfl rfl (WO.nil ?_)))))
        refine' ⟨i+1,?hp,?hmu,⟨rfl,rfl,trivial⟩,?hS⟩
        case hS=>repeat (first | exact Sub.nil | refine Sub.cons (by repeat exact .head) ?_)
        case hp=>omega
        case hmu=>omega
      ·refine W.exit (blk_same (W.seq (W.sreg (WO.field0 rfl rfl rfl (WO.load rfl rfl (Cell.own Pick.head rfl) rfl (WO.callR (r:=.bool true) rfl Tryz.call79 (fun L w hi=>by have h:=ref_rising w vp P (hP.later hi);rw [bl_t.2 hc.up] at h;exact h) rfl (WO.p rfl rfl (WO.p rfl rfl (WO.go' rfl (WO.fieldL rfl rfl rfl (WO.go' rfl (WO.load rfl rfl (Cell.own Pick.head rfl) rfl (WO.go' rfl (WO.callR (r:=.bool true) rfl Tryz.call79 (fun L w hi=>by have h:=ref_rising w va A (hA.later hi);rw [bl_t.2 hc.ua] at h;exact h) rfl (WO.pg rfl rfl rfl (WO.p rfl rfl (WO.nil (W.cond_f rfl (W.skip (W.seq (W.sreg (WO.p rfl rfl (WO.nil (W.block ?_))))))))))))))))))))))))
       refine W.loop (fun (i:Nat)=>i≤R.length)
        (fun (i:Nat)=>[(4,.int .i64 (i:Int)),(1,.pointer (some ⟨b1,0,none⟩))])
        (fun (i:Nat)=>[pt b1 (.cells #[vp,va,o] 25 (0,0))])
        (fun (i:Nat)=>R.length-i) 0
        (by omega) ⟨rfl,rfl,trivial⟩ (by repeat (first | exact Sub.nil | refine Sub.cons (by repeat exact .head) ?_)) ?_
       rintro i hi1
       refine W.seq (W.sreg (WO.p rfl rfl (WO.fieldL rfl rfl rfl (WO.load rfl rfl (Cell.own Pick.head rfl) rfl ?_))))
       refine' WO.len (n:=_) rfl rfl ?hs rfl ?_
       case hs=>(first | exact hR.sl)
       refine WO.p rfl rfl (WO.nil ?_)
       refine W.cond_bl rfl (fun c8=>?_) (fun c8=>?_)
       ·refine W.skip (W.seq (W.block (W.sreg (WO.p rfl rfl (WO.nil (W.block ?_))))))
        refine W.loop (fun (k:Nat)=>k≤(R.getD i []).length)
         (fun (k:Nat)=>[(5,.int .i64 (k:Int)),(4,.int .i64 (i:Int)),(1,.pointer (some ⟨b1,0,none⟩))])
         (fun (k:Nat)=>[pt b1 (.cells #[vp,va,o] 25 (0,0))])
         (fun (k:Nat)=>(R.getD i []).length-k) 0
         (by omega) ⟨rfl,rfl,rfl,trivial⟩ (by repeat (first | exact Sub.nil | refine Sub.cons (by repeat exact .head) ?_)) ?_
        rintro k hk0
        refine W.seq ?_
        have hq0:=hrl i (by omega)
        refine W.sreg (WO.p rfl rfl (WO.fieldL rfl rfl rfl (WO.load rfl rfl (Cell.own Pick.head rfl) rfl (WO.p rfl rfl ?_))))
        refine' WO.indexAddr (n:=_) (i:=_) rfl rfl rfl ?hs ?h1 rfl ?_
        case hs=>(first | exact hR.sl)
        case h1=>(omega)
        refine' WO.load (v:=_) rfl rfl ?hc rfl ?_
        case hc=>(first | first | (refine hR.cellV ?_;omega) | (refine (hR.row i ?_).cell0 (i:=k) ?_ (0,0) ?_ <;> first | rfl | omega) | (refine (hR.row i ?_).cell0 (i:=((k:Int)-1).toNat) ?_ (0,0) ?_ <;> first | rfl | omega) | (refine (hR.row i ?_).cellAt (i:=k) (j:=1) ?_ (0,0) ?_ <;> first | rfl | omega) | (refine (hR.row i ?_).cellAt (i:=((k:Int)-1).toNat) (j:=1) ?_ (0,0) ?_ <;> first | rfl | omega))
        refine' WO.len (n:=_) rfl rfl ?hs rfl ?_
        case hs=>(first | (refine (hR.row i ?_).sl;omega))
        refine WO.p rfl rfl (WO.nil ?_)
        refine W.cond_bl rfl (fun c9=>?_) (fun c9=>?_)
        ·refine W.skip (W.seq (W.block (W.sreg (WO.fieldL rfl rfl rfl (WO.load rfl rfl (Cell.own Pick.head rfl) rfl (WO.p rfl rfl ?_))))))
         refine' WO.indexAddr (n:=_) (i:=_) rfl rfl rfl ?hs ?h1 rfl ?_
         case hs=>(first | exact hR.sl)
         case h1=>(omega)
         refine' WO.load (v:=_) rfl rfl ?hc rfl ?_
         case hc=>(first | first | (refine hR.cellV ?_;omega) | (refine (hR.row i ?_).cell0 (i:=k) ?_ (0,0) ?_ <;> first | rfl | omega) | (refine (hR.row i ?_).cell0 (i:=((k:Int)-1).toNat) ?_ (0,0) ?_ <;> first | rfl | omega) | (refine (hR.row i ?_).cellAt (i:=k) (j:=1) ?_ (0,0) ?_ <;> first | rfl | omega) | (refine (hR.row i ?_).cellAt (i:=((k:Int)-1).toNat) (j:=1) ?_ (0,0) ?_ <;> first | rfl | omega))
         refine WO.p rfl rfl ?_
         refine' WO.indexAddr (n:=_) (i:=_) rfl rfl rfl ?hs ?h1 rfl ?_
         case hs=>(first | (refine (hR.row i ?_).sl;omega))
         case h1=>(omega)
         refine' WO.loadA (vs:=_) rfl rfl ?hc ?hl rfl ?_
         case hc=>((refine (hR.row i ?_).cells ?_ (0,0) <;> omega))
         case hl=>rfl
         refine WO.alloc rfl rfl rfl (fun b2 hb2=>(WO.storeA rfl rfl rfl rfl Pick.head rfl rfl (WO.nil ?_)))
         have hx:=hc.at_ (show i<R.length by omega) (show k<(R.getD i []).length by omega)
         refine W.sreg (WO.field0 rfl rfl rfl (WO.load rfl rfl (Cell.own Pick.head rfl) rfl (WO.p rfl rfl (WO.p rfl rfl ?_))))
         refine WO.guard_bl rfl rfl (fun c10=>?_) (fun c10=>?_)
         ·exfalso;omega
         ·refine WO.go' rfl (WO.field0 rfl rfl rfl (WO.go' rfl (WO.load rfl rfl (Cell.own Pick.head rfl) rfl (WO.go' rfl (WO.fieldL rfl rfl rfl (WO.go' rfl (WO.load rfl rfl (Cell.own Pick.head rfl) rfl (WO.pg rfl rfl rfl (WO.p rfl rfl (WO.p rfl rfl ?_))))))))))
          refine WO.guard_bl rfl rfl (fun c11=>?_) (fun c11=>?_)
          ·exfalso;omega
          ·refine WO.go' rfl (WO.fieldL rfl rfl rfl (WO.go' rfl (WO.load rfl rfl (Cell.own Pick.head rfl) rfl (WO.pg rfl rfl rfl (WO.p rfl rfl (WO.nil ?_))))))
           refine W.cond_bl rfl (fun c12=>?_) (fun c12=>?_)
           ·exfalso;omega
           ·refine W.skip (W.region (WO.p rfl rfl (WO.ar rfl rfl rfl (by unfold in64;omega) rfl (WO.p rfl rfl (WO.nil ?_)))))
            refine' ⟨k+1,?hp,?hmu,⟨rfl,rfl,rfl,trivial⟩,?hS⟩
            case hS=>repeat (first | exact Sub.nil | refine Sub.cons (by repeat first | exact .head | apply Pick.tail) ?_)
            case hp=>omega
            case hmu=>omega
        ·refine W.exit (blk_same (W.region (WO.p rfl rfl (WO.ar rfl rfl rfl (by unfold in64;omega) rfl (WO.p rfl rfl (WO.nil ?_))))))
         refine' ⟨i+1,?hp,?hmu,⟨rfl,rfl,trivial⟩,?hS⟩
         case hS=>repeat (first | exact Sub.nil | refine Sub.cons (by repeat exact .head) ?_)
         case hp=>omega
         case hmu=>omega
       ·refine W.exit (blk_same (W.seq (W.sreg (WO.p rfl rfl (WO.nil (W.block ?_))))))
        refine W.loop (fun (i:Nat)=>i≤R.length)
         (fun (i:Nat)=>[(7,.int .i64 (i:Int)),(1,.pointer (some ⟨b1,0,none⟩))])
         (fun (i:Nat)=>[pt b1 (.cells #[vp,va,o] 25 (0,0))])
         (fun (i:Nat)=>R.length-i) 0
         (by omega) ⟨rfl,rfl,trivial⟩ (by repeat (first | exact Sub.nil | refine Sub.cons (by repeat exact .head) ?_)) ?_
        rintro i hi2
        refine W.seq (W.sreg (WO.p rfl rfl (WO.fieldL rfl rfl rfl (WO.load rfl rfl (Cell.own Pick.head rfl) rfl ?_))))
        refine' WO.len (n:=_) rfl rfl ?hs rfl ?_
        case hs=>(first | exact hR.sl)
        refine WO.p rfl rfl (WO.nil ?_)
        refine W.cond_bl rfl (fun c13=>?_) (fun c13=>?_)
        ·refine W.skip (W.seq (W.block (W.sreg (WO.p rfl rfl (WO.nil (W.block ?_))))))
         refine W.loop (fun (k:Nat)=>1≤k∧k≤(R.getD i []).length+1)
          (fun (k:Nat)=>[(8,.int .i64 (k:Int)),(7,.int .i64 (i:Int)),(1,.pointer (some ⟨b1,0,none⟩))])
          (fun (k:Nat)=>[pt b1 (.cells #[vp,va,o] 25 (0,0))])
          (fun (k:Nat)=>(R.getD i []).length+1-k) 1
          (by omega) ⟨rfl,rfl,rfl,trivial⟩ (by repeat (first | exact Sub.nil | refine Sub.cons (by repeat exact .head) ?_)) ?_
         rintro k hk2
         refine W.seq ?_
         have hq0:=hrl i (by omega)
         refine W.sreg (WO.p rfl rfl (WO.fieldL rfl rfl rfl (WO.load rfl rfl (Cell.own Pick.head rfl) rfl (WO.p rfl rfl ?_))))
         refine' WO.indexAddr (n:=_) (i:=_) rfl rfl rfl ?hs ?h1 rfl ?_
         case hs=>(first | exact hR.sl)
         case h1=>(omega)
         refine' WO.load (v:=_) rfl rfl ?hc rfl ?_
         case hc=>(first | first | (refine hR.cellV ?_;omega) | (refine (hR.row i ?_).cell0 (i:=k) ?_ (0,0) ?_ <;> first | rfl | omega) | (refine (hR.row i ?_).cell0 (i:=((k:Int)-1).toNat) ?_ (0,0) ?_ <;> first | rfl | omega) | (refine (hR.row i ?_).cellAt (i:=k) (j:=1) ?_ (0,0) ?_ <;> first | rfl | omega) | (refine (hR.row i ?_).cellAt (i:=((k:Int)-1).toNat) (j:=1) ?_ (0,0) ?_ <;> first | rfl | omega))
         refine' WO.len (n:=_) rfl rfl ?hs rfl ?_
         case hs=>(first | (refine (hR.row i ?_).sl;omega))
         refine WO.p rfl rfl (WO.nil ?_)
         refine W.cond_bl rfl (fun c14=>?_) (fun c14=>?_)
         ·refine W.skip (W.seq (W.block (W.seq ?_)))
          have hx:=hc.fl _ (getD_mem (show i<R.length by omega) []) k (by omega) (by omega)
          rw [show k-1=((k:Int)-1).toNat by omega] at hx
          refine W.drawD 40 [.r 0 [],.b 1 [],.r 2 [],.r 3 [],.b 4 [],.r 5 [],.r 6 [],.r 7 [],.b 8 [],.r 9 [],.b 10 [],.r 11 [],.r 12 [],.b 13 [],.r 14 [],.r 15 [],.r 16 [],.r 17 [],.b 18 [],.r 19 [],.r 20 [],.r 21 [],.b 22 [],.r 23 [],.r 24 [],.b 25 [],.r 26 [],.r 27 [],.r 28 [],.b 29 [],.r 30 [],.b 31 [],.r 32 [],.r 33 [],.b 34 [],.r 35 [],.r 36 [],.r 37 [],.r 38 [],.b 39 []] [] (A0:=[]) (Sub.refl _) (by kernel_rfl) ?_ ?_
          ·repeat constructor
          refine DT.r rfl rfl rfl (WO.fieldL rfl rfl rfl (WO.nil ⟨rfl,rfl⟩)) (DT.b rfl rfl rfl (WO.load rfl rfl (Cell.own Pick.head rfl) rfl (WO.nil ⟨rfl,rfl⟩)) (DT.r rfl rfl rfl (WO.p rfl rfl (WO.nil ⟨rfl,rfl⟩)) ?_))
          refine' DT.r rfl rfl rfl ?hq ?_
          case hq =>
           refine' WO.indexAddr (n:=_) (i:=_) rfl rfl rfl ?hs ?h1 rfl ?_
           case hs=>(first | exact hR.sl)
           case h1=>(omega)
           exact WO.nil ⟨rfl,rfl⟩
          refine' DT.b rfl rfl rfl ?hq ?_
          case hq =>
           refine' WO.load (v:=_) rfl rfl ?hc rfl ?_
           case hc=>(first | first | (refine hR.cellV ?_;omega) | (refine (hR.row i ?_).cell0 (i:=k) ?_ (0,0) ?_ <;> first | rfl | omega) | (refine (hR.row i ?_).cell0 (i:=((k:Int)-1).toNat) ?_ (0,0) ?_ <;> first | rfl | omega) | (refine (hR.row i ?_).cellAt (i:=k) (j:=1) ?_ (0,0) ?_ <;> first | rfl | omega) | (refine (hR.row i ?_).cellAt (i:=((k:Int)-1).toNat) (j:=1) ?_ (0,0) ?_ <;> first | rfl | omega))
           exact WO.nil ⟨rfl,rfl⟩
          refine DT.r rfl rfl rfl (WO.p rfl rfl (WO.nil ⟨rfl,rfl⟩)) ?_
          refine' DT.r rfl rfl rfl ?hq ?_
          case hq =>
           refine' WO.indexAddr (n:=_) (i:=_) rfl rfl rfl ?hs ?h1 rfl ?_
           case hs=>(first | (refine (hR.row i ?_).sl;omega))
           case h1=>(omega)
           exact WO.nil ⟨rfl,rfl⟩
          refine DT.r rfl rfl rfl (WO.field0 rfl rfl rfl (WO.nil ⟨rfl,rfl⟩)) ?_
          refine' DT.b rfl rfl rfl ?hq ?_
          case hq =>
           refine' WO.load (v:=_) rfl rfl ?hc rfl ?_
           case hc=>(first | first | (refine hR.cellV ?_;omega) | (refine (hR.row i ?_).cell0 (i:=k) ?_ (0,0) ?_ <;> first | rfl | omega) | (refine (hR.row i ?_).cell0 (i:=((k:Int)-1).toNat) ?_ (0,0) ?_ <;> first | rfl | omega) | (refine (hR.row i ?_).cellAt (i:=k) (j:=1) ?_ (0,0) ?_ <;> first | rfl | omega) | (refine (hR.row i ?_).cellAt (i:=((k:Int)-1).toNat) (j:=1) ?_ (0,0) ?_ <;> first | rfl | omega))
           exact WO.nil ⟨rfl,rfl⟩
          refine DT.r rfl rfl rfl (WO.fieldL rfl rfl rfl (WO.nil ⟨rfl,rfl⟩)) (DT.b rfl rfl rfl (WO.load rfl rfl (Cell.own Pick.head rfl) rfl (WO.nil ⟨rfl,rfl⟩)) (DT.r rfl rfl rfl (WO.p rfl rfl (WO.nil ⟨rfl,rfl⟩)) ?_))
          refine' DT.r rfl rfl rfl ?hq ?_
          case hq =>
           refine' WO.indexAddr (n:=_) (i:=_) rfl rfl rfl ?hs ?h1 rfl ?_
           case hs=>(first | exact hR.sl)
           case h1=>(omega)
           exact WO.nil ⟨rfl,rfl⟩
          refine' DT.b rfl rfl rfl ?hq ?_
          case hq =>
           refine' WO.load (v:=_) rfl rfl ?hc rfl ?_
           case hc=>(first | first | (refine hR.cellV ?_;omega) | (refine (hR.row i ?_).cell0 (i:=k) ?_ (0,0) ?_ <;> first | rfl | omega) | (refine (hR.row i ?_).cell0 (i:=((k:Int)-1).toNat) ?_ (0,0) ?_ <;> first | rfl | omega) | (refine (hR.row i ?_).cellAt (i:=k) (j:=1) ?_ (0,0) ?_ <;> first | rfl | omega) | (refine (hR.row i ?_).cellAt (i:=((k:Int)-1).toNat) (j:=1) ?_ (0,0) ?_ <;> first | rfl | omega))
           exact WO.nil ⟨rfl,rfl⟩
          refine DT.r rfl rfl rfl (WO.p rfl rfl (WO.nil ⟨rfl,rfl⟩)) (DT.r rfl rfl rfl (WO.ar rfl rfl rfl (by unfold in64;omega) rfl (WO.nil ⟨rfl,rfl⟩)) ?_)
          refine' DT.r rfl rfl rfl ?hq ?_
          case hq =>
           refine' WO.indexAddrZ (n:=_) rfl rfl rfl ?hs ?h00 ?h1 rfl ?_
           case hs=>(first | (refine (hR.row i ?_).sl;omega))
           case h00=>omega
           case h1=>(omega)
           exact WO.nil ⟨rfl,rfl⟩
          refine DT.r rfl rfl rfl (WO.field0 rfl rfl rfl (WO.nil ⟨rfl,rfl⟩)) ?_
          refine' DT.b rfl rfl rfl ?hq ?_
          case hq =>
           refine' WO.load (v:=_) rfl rfl ?hc rfl ?_
           case hc=>(first | first | (refine hR.cellV ?_;omega) | (refine (hR.row i ?_).cell0 (i:=k) ?_ (0,0) ?_ <;> first | rfl | omega) | (refine (hR.row i ?_).cell0 (i:=((k:Int)-1).toNat) ?_ (0,0) ?_ <;> first | rfl | omega) | (refine (hR.row i ?_).cellAt (i:=k) (j:=1) ?_ (0,0) ?_ <;> first | rfl | omega) | (refine (hR.row i ?_).cellAt (i:=((k:Int)-1).toNat) (j:=1) ?_ (0,0) ?_ <;> first | rfl | omega))
           exact WO.nil ⟨rfl,rfl⟩
          refine DT.r rfl rfl rfl (WO.p rfl rfl (WO.nil ⟨rfl,rfl⟩)) ?_
          refine DT.rB rfl rfl rfl (WO.p rfl rfl (WO.nil ⟨rfl,rfl⟩)) (fun c15=>?_) (fun c15=>?_)
          ·exfalso;omega
          ·refine DT.r rfl rfl rfl (WO.go' rfl (WO.fieldL rfl rfl rfl (WO.nil ⟨rfl,rfl⟩))) (DT.b rfl rfl rfl (WO.go' rfl (WO.load rfl rfl (Cell.own Pick.head rfl) rfl (WO.nil ⟨rfl,rfl⟩))) (DT.r rfl rfl rfl (WO.pg rfl rfl rfl (WO.nil ⟨rfl,rfl⟩)) ?_))
           refine' DT.r rfl rfl rfl ?hq ?_
           case hq =>
            refine WO.go' rfl ?_
            refine' WO.indexAddr (n:=_) (i:=_) rfl rfl rfl ?hs ?h1 rfl ?_
            case hs=>(first | exact hR.sl)
            case h1=>(omega)
            exact WO.nil ⟨rfl,rfl⟩
           refine' DT.b rfl rfl rfl ?hq ?_
           case hq =>
            refine WO.go' rfl ?_
            refine' WO.load (v:=_) rfl rfl ?hc rfl ?_
            case hc=>(first | first | (refine hR.cellV ?_;omega) | (refine (hR.row i ?_).cell0 (i:=k) ?_ (0,0) ?_ <;> first | rfl | omega) | (refine (hR.row i ?_).cell0 (i:=((k:Int)-1).toNat) ?_ (0,0) ?_ <;> first | rfl | omega) | (refine (hR.row i ?_).cellAt (i:=k) (j:=1) ?_ (0,0) ?_ <;> first | rfl | omega) | (refine (hR.row i ?_).cellAt (i:=((k:Int)-1).toNat) (j:=1) ?_ (0,0) ?_ <;> first | rfl | omega))
            exact WO.nil ⟨rfl,rfl⟩
           refine DT.r rfl rfl rfl (WO.pg rfl rfl rfl (WO.nil ⟨rfl,rfl⟩)) ?_
           refine' DT.r rfl rfl rfl ?hq ?_
           case hq =>
            refine WO.go' rfl ?_
            refine' WO.indexAddr (n:=_) (i:=_) rfl rfl rfl ?hs ?h1 rfl ?_
            case hs=>(first | (refine (hR.row i ?_).sl;omega))
            case h1=>(omega)
            exact WO.nil ⟨rfl,rfl⟩
           refine DT.r rfl rfl rfl (WO.go' rfl (WO.field rfl rfl rfl (WO.nil ⟨rfl,rfl⟩))) ?_
           refine' DT.b rfl rfl rfl ?hq ?_
           case hq =>
            refine WO.go' rfl ?_
            refine' WO.load (v:=_) rfl rfl ?hc rfl ?_
            case hc=>(first | first | (refine hR.cellV ?_;omega) | (refine (hR.row i ?_).cell0 (i:=k) ?_ (0,0) ?_ <;> first | rfl | omega) | (refine (hR.row i ?_).cell0 (i:=((k:Int)-1).toNat) ?_ (0,0) ?_ <;> first | rfl | omega) | (refine (hR.row i ?_).cellAt (i:=k) (j:=1) ?_ (0,0) ?_ <;> first | rfl | omega) | (refine (hR.row i ?_).cellAt (i:=((k:Int)-1).toNat) (j:=1) ?_ (0,0) ?_ <;> first | rfl | omega))
            exact WO.nil ⟨rfl,rfl⟩
           refine DT.r rfl rfl rfl (WO.go' rfl (WO.fieldL rfl rfl rfl (WO.nil ⟨rfl,rfl⟩))) (DT.b rfl rfl rfl (WO.go' rfl (WO.load rfl rfl (Cell.own Pick.head rfl) rfl (WO.nil ⟨rfl,rfl⟩))) (DT.r rfl rfl rfl (WO.pg rfl rfl rfl (WO.nil ⟨rfl,rfl⟩)) ?_))
           refine' DT.r rfl rfl rfl ?hq ?_
           case hq =>
            refine WO.go' rfl ?_
            refine' WO.indexAddr (n:=_) (i:=_) rfl rfl rfl ?hs ?h1 rfl ?_
            case hs=>(first | exact hR.sl)
            case h1=>(omega)
            exact WO.nil ⟨rfl,rfl⟩
           refine' DT.b rfl rfl rfl ?hq ?_
           case hq =>
            refine WO.go' rfl ?_
            refine' WO.load (v:=_) rfl rfl ?hc rfl ?_
            case hc=>(first | first | (refine hR.cellV ?_;omega) | (refine (hR.row i ?_).cell0 (i:=k) ?_ (0,0) ?_ <;> first | rfl | omega) | (refine (hR.row i ?_).cell0 (i:=((k:Int)-1).toNat) ?_ (0,0) ?_ <;> first | rfl | omega) | (refine (hR.row i ?_).cellAt (i:=k) (j:=1) ?_ (0,0) ?_ <;> first | rfl | omega) | (refine (hR.row i ?_).cellAt (i:=((k:Int)-1).toNat) (j:=1) ?_ (0,0) ?_ <;> first | rfl | omega))
            exact WO.nil ⟨rfl,rfl⟩
           refine DT.r rfl rfl rfl (WO.pg rfl rfl rfl (WO.nil ⟨rfl,rfl⟩)) (DT.r rfl rfl rfl (WO.go' rfl (WO.ar rfl rfl rfl (by unfold in64;omega) rfl (WO.nil ⟨rfl,rfl⟩))) ?_)
           refine' DT.r rfl rfl rfl ?hq ?_
           case hq =>
            refine WO.go' rfl ?_
            refine' WO.indexAddrZ (n:=_) rfl rfl rfl ?hs ?h00 ?h1 rfl ?_
            case hs=>(first | (refine (hR.row i ?_).sl;omega))
            case h00=>omega
            case h1=>(omega)
            exact WO.nil ⟨rfl,rfl⟩
           refine DT.r rfl rfl rfl (WO.go' rfl (WO.field rfl rfl rfl (WO.nil ⟨rfl,rfl⟩))) ?_
           refine' DT.b rfl rfl rfl ?hq ?_
           case hq =>
            refine WO.go' rfl ?_
            refine' WO.load (v:=_) rfl rfl ?hc rfl ?_
            case hc=>(first | first | (refine hR.cellV ?_;omega) | (refine (hR.row i ?_).cell0 (i:=k) ?_ (0,0) ?_ <;> first | rfl | omega) | (refine (hR.row i ?_).cell0 (i:=((k:Int)-1).toNat) ?_ (0,0) ?_ <;> first | rfl | omega) | (refine (hR.row i ?_).cellAt (i:=k) (j:=1) ?_ (0,0) ?_ <;> first | rfl | omega) | (refine (hR.row i ?_).cellAt (i:=((k:Int)-1).toNat) (j:=1) ?_ (0,0) ?_ <;> first | rfl | omega))
            exact WO.nil ⟨rfl,rfl⟩
           refine DT.nil [_] rfl (WO.pg rfl rfl rfl (WO.p rfl rfl (WO.nil ?_)))
           refine W.cond_bl rfl (fun c16=>?_) (fun c16=>?_)
           ·exfalso;omega
           ·refine W.skip (W.region (WO.p rfl rfl (WO.ar rfl rfl rfl (by unfold in64;omega) rfl (WO.p rfl rfl (WO.nil ?_)))))
            refine' ⟨k+1,?hp,?hmu,⟨rfl,rfl,rfl,trivial⟩,?hS⟩
            case hS=>repeat (first | exact Sub.nil | refine Sub.cons (by repeat exact .head) ?_)
            case hp=>omega
            case hmu=>omega
         ·refine W.exit (blk_same (W.region (WO.p rfl rfl (WO.ar rfl rfl rfl (by unfold in64;omega) rfl (WO.p rfl rfl (WO.nil ?_))))))
          refine' ⟨i+1,?hp,?hmu,⟨rfl,rfl,trivial⟩,?hS⟩
          case hS=>repeat (first | exact Sub.nil | refine Sub.cons (by repeat exact .head) ?_)
          case hp=>omega
          case hmu=>omega
        ·refine W.exit (blk_same (W.sreg (WO.p rfl rfl (WO.nil (W.ret ?_)))))
         exact fin.ret (Res.one rfl (RV.tmp rfl)) rfl
end Go.Proofs.YtfchgmiiicidcaaGreat
namespace Go.Proofs.YtfchgmiiicidcaaGreat
open Go Go.TH
attribute [local irreducible] W WO pt
set_option maxRecDepth 10000
set_option maxHeartbeats 4000000
theorem ref_CheckTrue0 (w:World) (vp va o u:Value) (rv tv:List Value) (P A:List Int) (R:Ch.Rws) (T:List (List Int)) (hc:Ch.OkC P A R) (ht:Ch.OkTr R T) (hP:RdF encI 1 w.heap.size w vp P) (hA:RdF encI 1 w.heap.size w va A) (hR:RdR encP 2 w.heap.size w o rv R) (hT:RdR encI 1 w.heap.size w u tv T):Ret Tryz.prog 25 [.agg #[vp,va,o],u].toArray w (.int .i64 0):=by
 refine Ret.of mixed tyTab Tryz.func25 rfl rfl ?_
 replace hR:RdR encP 2 (fnCx mixed tyTab Tryz.f25.ntmps w).B (fnCx mixed tyTab Tryz.f25.ntmps w).w0 o rv R:=hR
 replace hT:RdR encI 1 (fnCx mixed tyTab Tryz.f25.ntmps w).B (fnCx mixed tyTab Tryz.f25.ntmps w).w0 u tv T:=hT
 replace hP:RdF encI 1 (fnCx mixed tyTab Tryz.f25.ntmps w).B (fnCx mixed tyTab Tryz.f25.ntmps w).w0 vp P:=hP
 replace hA:RdF encI 1 (fnCx mixed tyTab Tryz.f25.ntmps w).B (fnCx mixed tyTab Tryz.f25.ntmps w).w0 va A:=hA
 have hle:=hR.sl.le
 have hlt:=hT.sl.le
 have hn:=ht.n
 have hnp:=hc.np
 have hna:=hc.na
 have hnr:=hc.nr
 refine W.sreg (WO.boxA rfl rfl (fun b1 hb1=>(WO.p rfl rfl (WO.nil (W.seq (W.sreg (WO.loadA rfl rfl (Cells.own Pick.head) rfl rfl (WO.callR rfl Tryz.call31 (fun L w hi=>ref_CheckChart0 w vp va o rv P A R hc (hP.later hi) (hA.later hi) (hR.later hi)) rfl (WO.p rfl rfl (WO.nil ?_))))))))))
 refine W.cond_bl rfl (fun c1=>?_) (fun c1=>?_)
 ·exfalso;omega
 ·refine W.skip (W.seq (W.sreg (WO.p rfl rfl ?_)))
  refine' WO.len (n:=_) rfl rfl ?hs rfl ?_
  case hs=>(first | exact hT.sl)
  refine WO.fieldL rfl rfl rfl (WO.load rfl rfl (Cell.own Pick.head rfl) rfl ?_)
  refine' WO.len (n:=_) rfl rfl ?hs rfl ?_
  case hs=>(first | exact hR.sl)
  refine WO.p rfl rfl (WO.nil ?_)
  refine W.cond_bl rfl (fun c2=>?_) (fun c2=>?_)
  ·exfalso;omega
  ·refine W.skip (W.seq (W.sreg (WO.p rfl rfl (WO.nil (W.block ?_)))))
   refine W.loop (fun (i:Nat)=>i≤T.length)
    (fun (i:Nat)=>[(5,.int .i64 (i:Int)),(2,.pointer (some ⟨b1,0,none⟩)),(1,u)])
    (fun (i:Nat)=>[pt b1 (.cells #[vp,va,o] 25 (0,0))])
    (fun (i:Nat)=>T.length-i) 0
    (by omega) ⟨rfl,rfl,rfl,trivial⟩ (by repeat (first | exact Sub.nil | refine Sub.cons (by repeat exact .head) ?_)) ?_
   rintro i hi0
   refine W.seq (W.sreg (WO.p rfl rfl (WO.p rfl rfl ?_)))
   refine' WO.len (n:=_) rfl rfl ?hs rfl ?_
   case hs=>(first | exact hT.sl)
   refine WO.p rfl rfl (WO.nil ?_)
   refine W.cond_bl rfl (fun c3=>?_) (fun c3=>?_)
   ·refine W.skip (W.seq (W.block (W.seq ?_)))
    have hm:=ht.m i (by omega)
    have hrw:=hc.row (show i<R.length by omega)
    refine W.drawD 11 [.r 0 [],.r 1 [],.r 2 [],.b 3 [],.r 4 [],.r 5 [],.b 6 [],.r 7 [],.r 8 [],.b 9 [],.r 10 []] [] (A0:=[]) (Sub.refl _) (by kernel_rfl) ?_ ?_
    ·repeat constructor
    refine DT.r rfl rfl rfl (WO.p rfl rfl (WO.nil ⟨rfl,rfl⟩)) (DT.r rfl rfl rfl (WO.p rfl rfl (WO.nil ⟨rfl,rfl⟩)) ?_)
    refine' DT.r rfl rfl rfl ?hq ?_
    case hq =>
     refine' WO.indexAddr (n:=_) (i:=_) rfl rfl rfl ?hs ?h1 rfl ?_
     case hs=>(first | exact hT.sl)
     case h1=>(omega)
     exact WO.nil ⟨rfl,rfl⟩
    refine' DT.b rfl rfl rfl ?hq ?_
    case hq =>
     refine' WO.load (v:=_) rfl rfl ?hc rfl ?_
     case hc=>(first | first | (refine hT.cellV ?_;omega) | (refine hR.cellV ?_;omega) | (refine (hT.row i ?_).cell0 (i:=k) ?_ 0 ?_ <;> first | rfl | omega) | (refine (hR.row i ?_).cell0 (i:=k) ?_ (0,0) ?_ <;> first | rfl | omega) | (refine (hR.row i ?_).cellAt (i:=k) (j:=1) ?_ (0,0) ?_ <;> first | rfl | omega))
     exact WO.nil ⟨rfl,rfl⟩
    refine' DT.r rfl rfl rfl ?hq ?_
    case hq =>
     refine' WO.len (n:=_) rfl rfl ?hs rfl ?_
     case hs=>(first | (refine (hT.row i ?_).sl;omega))
     exact WO.nil ⟨rfl,rfl⟩
    refine DT.r rfl rfl rfl (WO.fieldL rfl rfl rfl (WO.nil ⟨rfl,rfl⟩)) (DT.b rfl rfl rfl (WO.load rfl rfl (Cell.own Pick.head rfl) rfl (WO.nil ⟨rfl,rfl⟩)) (DT.r rfl rfl rfl (WO.p rfl rfl (WO.nil ⟨rfl,rfl⟩)) ?_))
    refine' DT.r rfl rfl rfl ?hq ?_
    case hq =>
     refine' WO.indexAddr (n:=_) (i:=_) rfl rfl rfl ?hs ?h1 rfl ?_
     case hs=>(first | exact hR.sl)
     case h1=>(omega)
     exact WO.nil ⟨rfl,rfl⟩
    refine' DT.b rfl rfl rfl ?hq ?_
    case hq =>
     refine' WO.load (v:=_) rfl rfl ?hc rfl ?_
     case hc=>(first | first | (refine hT.cellV ?_;omega) | (refine hR.cellV ?_;omega) | (refine (hT.row i ?_).cell0 (i:=k) ?_ 0 ?_ <;> first | rfl | omega) | (refine (hR.row i ?_).cell0 (i:=k) ?_ (0,0) ?_ <;> first | rfl | omega) | (refine (hR.row i ?_).cellAt (i:=k) (j:=1) ?_ (0,0) ?_ <;> first | rfl | omega))
     exact WO.nil ⟨rfl,rfl⟩
    refine' DT.r rfl rfl rfl ?hq ?_
    case hq =>
     refine' WO.len (n:=_) rfl rfl ?hs rfl ?_
     case hs=>(first | (refine (hR.row i ?_).sl;omega))
     exact WO.nil ⟨rfl,rfl⟩
    refine DT.nil [_] rfl (WO.p rfl rfl (WO.nil ?_))
    refine W.cond_bl rfl (fun c4=>?_) (fun c4=>?_)
    ·exfalso;omega
    ·refine W.skip (W.region (WO.p rfl rfl (WO.ar rfl rfl rfl (by unfold in64;omega) rfl (WO.p rfl rfl (WO.nil ?_)))))
     refine' ⟨i+1,?hp,?hmu,⟨rfl,rfl,rfl,trivial⟩,?hS⟩
     case hS=>repeat (first | exact Sub.nil | refine Sub.cons (by repeat exact .head) ?_)
     case hp=>omega
     case hmu=>omega
   ·refine W.exit (blk_same (W.seq (W.sreg (WO.p rfl rfl (WO.nil (W.block ?_))))))
    refine W.loop (fun (i:Nat)=>i≤T.length)
     (fun (i:Nat)=>[(6,.int .i64 (i:Int)),(2,.pointer (some ⟨b1,0,none⟩)),(1,u)])
     (fun (i:Nat)=>[pt b1 (.cells #[vp,va,o] 25 (0,0))])
     (fun (i:Nat)=>T.length-i) 0
     (by omega) ⟨rfl,rfl,rfl,trivial⟩ (by repeat (first | exact Sub.nil | refine Sub.cons (by repeat exact .head) ?_)) ?_
    rintro i hi1
    refine W.seq (W.sreg (WO.p rfl rfl (WO.p rfl rfl ?_)))
    refine' WO.len (n:=_) rfl rfl ?hs rfl ?_
    case hs=>(first | exact hT.sl)
    refine WO.p rfl rfl (WO.nil ?_)
    refine W.cond_bl rfl (fun c5=>?_) (fun c5=>?_)
    ·refine W.skip (W.seq (W.block (W.sreg (WO.p rfl rfl (WO.nil (W.block ?_))))))
     refine W.loop (fun (k:Nat)=>k≤(T.getD i []).length)
      (fun (k:Nat)=>[(7,.int .i64 (k:Int)),(6,.int .i64 (i:Int)),(2,.pointer (some ⟨b1,0,none⟩)),(1,u)])
      (fun (k:Nat)=>[pt b1 (.cells #[vp,va,o] 25 (0,0))])
      (fun (k:Nat)=>(T.getD i []).length-k) 0
      (by omega) ⟨rfl,rfl,rfl,rfl,trivial⟩ (by repeat (first | exact Sub.nil | refine Sub.cons (by repeat exact .head) ?_)) ?_
     rintro k hk0
     refine W.seq ?_
     have hm:=ht.m i (by omega)
     have hrw:=hc.row (show i<R.length by omega)
     refine W.sreg (WO.p rfl rfl (WO.p rfl rfl (WO.p rfl rfl ?_)))
     refine' WO.indexAddr (n:=_) (i:=_) rfl rfl rfl ?hs ?h1 rfl ?_
     case hs=>(first | exact hT.sl)
     case h1=>(omega)
     refine' WO.load (v:=_) rfl rfl ?hc rfl ?_
     case hc=>(first | first | (refine hT.cellV ?_;omega) | (refine hR.cellV ?_;omega) | (refine (hT.row i ?_).cell0 (i:=k) ?_ 0 ?_ <;> first | rfl | omega) | (refine (hR.row i ?_).cell0 (i:=k) ?_ (0,0) ?_ <;> first | rfl | omega) | (refine (hR.row i ?_).cellAt (i:=k) (j:=1) ?_ (0,0) ?_ <;> first | rfl | omega))
     refine' WO.len (n:=_) rfl rfl ?hs rfl ?_
     case hs=>(first | (refine (hT.row i ?_).sl;omega))
     refine WO.p rfl rfl (WO.nil ?_)
     refine W.cond_bl rfl (fun c6=>?_) (fun c6=>?_)
     ·refine W.skip (W.seq (W.block (W.seq ?_)))
      have hv:=ht.v i (by omega) k (by omega)
      refine W.drawD 34 [.r 0 [],.r 1 [],.r 2 [],.b 3 [],.r 4 [],.r 5 [],.b 6 [],.r 7 [],.b 8 [],.r 9 [],.r 10 [],.b 11 [],.r 12 [],.r 13 [],.r 14 [],.b 15 [],.r 16 [],.r 17 [],.r 18 [],.r 19 [],.r 20 [],.b 21 [],.r 22 [],.r 23 [],.b 24 [],.r 25 [],.b 26 [],.r 27 [],.r 28 [],.b 29 [],.r 30 [],.r 31 [],.r 32 [],.b 33 []] [] (A0:=[]) (Sub.refl _) (by kernel_rfl) ?_ ?_
      ·repeat constructor
      refine DT.r rfl rfl rfl (WO.p rfl rfl (WO.nil ⟨rfl,rfl⟩)) (DT.r rfl rfl rfl (WO.p rfl rfl (WO.nil ⟨rfl,rfl⟩)) ?_)
      refine' DT.r rfl rfl rfl ?hq ?_
      case hq =>
       refine' WO.indexAddr (n:=_) (i:=_) rfl rfl rfl ?hs ?h1 rfl ?_
       case hs=>(first | exact hT.sl)
       case h1=>(omega)
       exact WO.nil ⟨rfl,rfl⟩
      refine' DT.b rfl rfl rfl ?hq ?_
      case hq =>
       refine' WO.load (v:=_) rfl rfl ?hc rfl ?_
       case hc=>(first | first | (refine hT.cellV ?_;omega) | (refine hR.cellV ?_;omega) | (refine (hT.row i ?_).cell0 (i:=k) ?_ 0 ?_ <;> first | rfl | omega) | (refine (hR.row i ?_).cell0 (i:=k) ?_ (0,0) ?_ <;> first | rfl | omega) | (refine (hR.row i ?_).cellAt (i:=k) (j:=1) ?_ (0,0) ?_ <;> first | rfl | omega))
       exact WO.nil ⟨rfl,rfl⟩
      refine DT.r rfl rfl rfl (WO.p rfl rfl (WO.nil ⟨rfl,rfl⟩)) ?_
      refine' DT.r rfl rfl rfl ?hq ?_
      case hq =>
       refine' WO.indexAddr (n:=_) (i:=_) rfl rfl rfl ?hs ?h1 rfl ?_
       case hs=>(first | (refine (hT.row i ?_).sl;omega))
       case h1=>(omega)
       exact WO.nil ⟨rfl,rfl⟩
      refine' DT.b rfl rfl rfl ?hq ?_
      case hq =>
       refine' WO.load (v:=_) rfl rfl ?hc rfl ?_
       case hc=>(first | first | (refine hT.cellV ?_;omega) | (refine hR.cellV ?_;omega) | (refine (hT.row i ?_).cell0 (i:=k) ?_ 0 ?_ <;> first | rfl | omega) | (refine (hR.row i ?_).cell0 (i:=k) ?_ (0,0) ?_ <;> first | rfl | omega) | (refine (hR.row i ?_).cellAt (i:=k) (j:=1) ?_ (0,0) ?_ <;> first | rfl | omega))
       exact WO.nil ⟨rfl,rfl⟩
      refine DT.r rfl rfl rfl (WO.fieldL rfl rfl rfl (WO.nil ⟨rfl,rfl⟩)) (DT.b rfl rfl rfl (WO.load rfl rfl (Cell.own Pick.head rfl) rfl (WO.nil ⟨rfl,rfl⟩)) (DT.r rfl rfl rfl (WO.p rfl rfl (WO.nil ⟨rfl,rfl⟩)) ?_))
      refine' DT.r rfl rfl rfl ?hq ?_
      case hq =>
       refine' WO.indexAddr (n:=_) (i:=_) rfl rfl rfl ?hs ?h1 rfl ?_
       case hs=>(first | exact hR.sl)
       case h1=>(omega)
       exact WO.nil ⟨rfl,rfl⟩
      refine' DT.b rfl rfl rfl ?hq ?_
      case hq =>
       refine' WO.load (v:=_) rfl rfl ?hc rfl ?_
       case hc=>(first | first | (refine hT.cellV ?_;omega) | (refine hR.cellV ?_;omega) | (refine (hT.row i ?_).cell0 (i:=k) ?_ 0 ?_ <;> first | rfl | omega) | (refine (hR.row i ?_).cell0 (i:=k) ?_ (0,0) ?_ <;> first | rfl | omega) | (refine (hR.row i ?_).cellAt (i:=k) (j:=1) ?_ (0,0) ?_ <;> first | rfl | omega))
       exact WO.nil ⟨rfl,rfl⟩
      refine DT.r rfl rfl rfl (WO.p rfl rfl (WO.nil ⟨rfl,rfl⟩)) ?_
      refine' DT.r rfl rfl rfl ?hq ?_
      case hq =>
       refine' WO.indexAddr (n:=_) (i:=_) rfl rfl rfl ?hs ?h1 rfl ?_
       case hs=>(first | (refine (hR.row i ?_).sl;omega))
       case h1=>(omega)
       exact WO.nil ⟨rfl,rfl⟩
      refine DT.r rfl rfl rfl (WO.field0 rfl rfl rfl (WO.nil ⟨rfl,rfl⟩)) ?_
      refine' DT.b rfl rfl rfl ?hq ?_
      case hq =>
       refine' WO.load (v:=_) rfl rfl ?hc rfl ?_
       case hc=>(first | first | (refine hT.cellV ?_;omega) | (refine hR.cellV ?_;omega) | (refine (hT.row i ?_).cell0 (i:=k) ?_ 0 ?_ <;> first | rfl | omega) | (refine (hR.row i ?_).cell0 (i:=k) ?_ (0,0) ?_ <;> first | rfl | omega) | (refine (hR.row i ?_).cellAt (i:=k) (j:=1) ?_ (0,0) ?_ <;> first | rfl | omega))
       exact WO.nil ⟨rfl,rfl⟩
      refine DT.r rfl rfl rfl (WO.p rfl rfl (WO.nil ⟨rfl,rfl⟩)) ?_
      refine DT.rB rfl rfl rfl (WO.p rfl rfl (WO.nil ⟨rfl,rfl⟩)) (fun c7=>?_) (fun c7=>?_)
      ·exfalso;omega
      ·refine DT.r rfl rfl rfl (WO.pg rfl rfl rfl (WO.nil ⟨rfl,rfl⟩)) (DT.r rfl rfl rfl (WO.pg rfl rfl rfl (WO.nil ⟨rfl,rfl⟩)) ?_)
       refine' DT.r rfl rfl rfl ?hq ?_
       case hq =>
        refine WO.go' rfl ?_
        refine' WO.indexAddr (n:=_) (i:=_) rfl rfl rfl ?hs ?h1 rfl ?_
        case hs=>(first | exact hT.sl)
        case h1=>(omega)
        exact WO.nil ⟨rfl,rfl⟩
       refine' DT.b rfl rfl rfl ?hq ?_
       case hq =>
        refine WO.go' rfl ?_
        refine' WO.load (v:=_) rfl rfl ?hc rfl ?_
        case hc=>(first | first | (refine hT.cellV ?_;omega) | (refine hR.cellV ?_;omega) | (refine (hT.row i ?_).cell0 (i:=k) ?_ 0 ?_ <;> first | rfl | omega) | (refine (hR.row i ?_).cell0 (i:=k) ?_ (0,0) ?_ <;> first | rfl | omega) | (refine (hR.row i ?_).cellAt (i:=k) (j:=1) ?_ (0,0) ?_ <;> first | rfl | omega))
        exact WO.nil ⟨rfl,rfl⟩
       refine DT.r rfl rfl rfl (WO.pg rfl rfl rfl (WO.nil ⟨rfl,rfl⟩)) ?_
       refine' DT.r rfl rfl rfl ?hq ?_
       case hq =>
        refine WO.go' rfl ?_
        refine' WO.indexAddr (n:=_) (i:=_) rfl rfl rfl ?hs ?h1 rfl ?_
        case hs=>(first | (refine (hT.row i ?_).sl;omega))
        case h1=>(omega)
        exact WO.nil ⟨rfl,rfl⟩
       refine' DT.b rfl rfl rfl ?hq ?_
       case hq =>
        refine WO.go' rfl ?_
        refine' WO.load (v:=_) rfl rfl ?hc rfl ?_
        case hc=>(first | first | (refine hT.cellV ?_;omega) | (refine hR.cellV ?_;omega) | (refine (hT.row i ?_).cell0 (i:=k) ?_ 0 ?_ <;> first | rfl | omega) | (refine (hR.row i ?_).cell0 (i:=k) ?_ (0,0) ?_ <;> first | rfl | omega) | (refine (hR.row i ?_).cellAt (i:=k) (j:=1) ?_ (0,0) ?_ <;> first | rfl | omega))
        exact WO.nil ⟨rfl,rfl⟩
       refine DT.r rfl rfl rfl (WO.go' rfl (WO.fieldL rfl rfl rfl (WO.nil ⟨rfl,rfl⟩))) (DT.b rfl rfl rfl (WO.go' rfl (WO.load rfl rfl (Cell.own Pick.head rfl) rfl (WO.nil ⟨rfl,rfl⟩))) (DT.r rfl rfl rfl (WO.pg rfl rfl rfl (WO.nil ⟨rfl,rfl⟩)) ?_))
       refine' DT.r rfl rfl rfl ?hq ?_
       case hq =>
        refine WO.go' rfl ?_
        refine' WO.indexAddr (n:=_) (i:=_) rfl rfl rfl ?hs ?h1 rfl ?_
        case hs=>(first | exact hR.sl)
        case h1=>(omega)
        exact WO.nil ⟨rfl,rfl⟩
       refine' DT.b rfl rfl rfl ?hq ?_
       case hq =>
        refine WO.go' rfl ?_
        refine' WO.load (v:=_) rfl rfl ?hc rfl ?_
        case hc=>(first | first | (refine hT.cellV ?_;omega) | (refine hR.cellV ?_;omega) | (refine (hT.row i ?_).cell0 (i:=k) ?_ 0 ?_ <;> first | rfl | omega) | (refine (hR.row i ?_).cell0 (i:=k) ?_ (0,0) ?_ <;> first | rfl | omega) | (refine (hR.row i ?_).cellAt (i:=k) (j:=1) ?_ (0,0) ?_ <;> first | rfl | omega))
        exact WO.nil ⟨rfl,rfl⟩
       refine DT.r rfl rfl rfl (WO.pg rfl rfl rfl (WO.nil ⟨rfl,rfl⟩)) ?_
       refine' DT.r rfl rfl rfl ?hq ?_
       case hq =>
        refine WO.go' rfl ?_
        refine' WO.indexAddr (n:=_) (i:=_) rfl rfl rfl ?hs ?h1 rfl ?_
        case hs=>(first | (refine (hR.row i ?_).sl;omega))
        case h1=>(omega)
        exact WO.nil ⟨rfl,rfl⟩
       refine DT.r rfl rfl rfl (WO.go' rfl (WO.field rfl rfl rfl (WO.nil ⟨rfl,rfl⟩))) ?_
       refine' DT.b rfl rfl rfl ?hq ?_
       case hq =>
        refine WO.go' rfl ?_
        refine' WO.load (v:=_) rfl rfl ?hc rfl ?_
        case hc=>(first | first | (refine hT.cellV ?_;omega) | (refine hR.cellV ?_;omega) | (refine (hT.row i ?_).cell0 (i:=k) ?_ 0 ?_ <;> first | rfl | omega) | (refine (hR.row i ?_).cell0 (i:=k) ?_ (0,0) ?_ <;> first | rfl | omega) | (refine (hR.row i ?_).cellAt (i:=k) (j:=1) ?_ (0,0) ?_ <;> first | rfl | omega))
        exact WO.nil ⟨rfl,rfl⟩
       refine DT.nil [_] rfl (WO.pg rfl rfl rfl (WO.p rfl rfl (WO.nil ?_)))
       refine W.cond_bl rfl (fun c8=>?_) (fun c8=>?_)
       ·exfalso;omega
       ·refine W.skip (W.region (WO.p rfl rfl (WO.ar rfl rfl rfl (by unfold in64;omega) rfl (WO.p rfl rfl (WO.nil ?_)))))
        refine' ⟨k+1,?hp,?hmu,⟨rfl,rfl,rfl,rfl,trivial⟩,?hS⟩
        case hS=>repeat (first | exact Sub.nil | refine Sub.cons (by repeat exact .head) ?_)
        case hp=>omega
        case hmu=>omega
     ·refine W.exit (blk_same (W.region (WO.p rfl rfl (WO.ar rfl rfl rfl (by unfold in64;omega) rfl (WO.p rfl rfl (WO.nil ?_))))))
      refine' ⟨i+1,?hp,?hmu,⟨rfl,rfl,rfl,trivial⟩,?hS⟩
      case hS=>repeat (first | exact Sub.nil | refine Sub.cons (by repeat exact .head) ?_)
      case hp=>omega
      case hmu=>omega
    ·refine W.exit (blk_same (W.sreg (WO.p rfl rfl (WO.nil (W.ret ?_)))))
     exact fin.ret (Res.one rfl (RV.tmp rfl)) rfl
end Go.Proofs.YtfchgmiiicidcaaGreat
namespace Go.TX
open Go Go.TH
noncomputable section
variable {ρ:Ren} {N:Nat} {env:Tr SV} {a:Act} {P:Program} {D:Nat→Prop} {st st':St} {w:World}

/-! ### Parts of values -/
def ptS (P:Program) (T:TypeId) (l:List SV) (o:Nat):Option SV:=match isAggB P T with
  | some true=>match szv P T with
    | some n=>subK l o n fun vs=>some (.agg vs)
    | none=>none
  | some false=>nth l o
  | none=>none
theorem ptS_ok {T:Nat} {l:List SV} {us:List Value} {o:Nat} {v:SV} (hl:RelL ρ l us) (h:ptS P T l o=some v):∃ u,(part T us.toArray o).run P w=.ok u w∧Rel ρ v u:=by
  unfold ptS at h
  split at h
  · rename_i hagg
    split at h
    · rename_i n hn
      obtain ⟨h1,h2⟩:=subK_some h
      simp only [Option.some.injEq] at h2
      subst h2
      refine ⟨.agg ((us.drop o).take n).toArray,?_,by rw [Rel];exact ⟨_,(hl.drop o).take n,rfl⟩⟩
      simp only [part,Sem.run_bind,run_isAgg hagg,Result.andThen_ok,if_true,TH.run_sizeOf hn]
      simp [List.extract_eq_take_drop]
    · cases h
  · rename_i hagg
    rw [nth_eq] at h
    obtain ⟨u,hu,hr⟩:=hl.at h
    refine ⟨u,?_,hr⟩
    simp only [part,Sem.run_bind,run_isAgg hagg,Result.andThen_ok]
    simp [hu]
  · cases h
def fdS (P:Program) (T f:Nat) (x:SV):Option SV:=match x with
  | .agg l=>match P.underlying T with
    | some (.struct fs)=>match fs[f]? with
      | some fd=>ptS P fd.type l fd.offset
      | none=>none
    | _=>none
  | _=>none
theorem fdS_ok {T f:Nat} {x v:SV} {u:Value} (hx:Rel ρ x u) (h:fdS P T f x=some v):∃ z,(Instr.field T u f).run P w=.ok z w∧Rel ρ v z:=by
  cases x <;> simp only [fdS] at h <;> try (cases h;done)
  rename_i l
  rw [Rel] at hx
  obtain ⟨us,hl,rfl⟩:=hx
  split at h
  · rename_i fs hu
    split at h
    · rename_i fd hf
      obtain ⟨z,h1,h2⟩:=ptS_ok (w:=w) hl h
      refine ⟨z,?_,h2⟩
      simp [Instr.field,run_underlying hu,hf,asAgg,h1]
    · cases h
  · cases h
def ixS (P:Program) (T:Nat) (x i:SV):Option SV:=match x with
  | .agg l=>match i with
    | .raw (.int _ (.ofNat i))=>match arT P T with
      | some (len,e,sz)=>bif Nat.blt i len then ptS P e l (i*sz) else none
      | none=>none
    | _=>none
  | .raw u=>match i with
    | .raw z=>match pv P (Instr.index T u z) with
      | some (.int k n)=>some (.raw (.int k n))
      | _=>none
    | _=>none
  | _=>none
theorem ixS_ok {T:Nat} {x i v:SV} {u z:Value} (hx:Rel ρ x u) (hi:Rel ρ i z) (h:ixS P T x i=some v):∃ q,(Instr.index T u z).run P w=.ok q w∧Rel ρ v q:=by
  unfold ixS at h
  split at h
  · rename_i l
    rw [Rel] at hx
    obtain ⟨us,hl,rfl⟩:=hx
    split at h
    · rename_i k i'
      rw [Rel] at hi
      subst hi
      split at h
      · rename_i len e sz har
        have hA:=arT_ok har
        cases h1:Nat.blt i' len with
        | false=>rw [h1] at h;cases h
        | true =>
          rw [h1,cond_true] at h
          have h1:=Nat.blt_eq.mp h1
          obtain ⟨q,h2,h3⟩:=ptS_ok (w:=w) hl h
          refine ⟨q,?_,h3⟩
          have g1:(i':Int)<(len:Int):=by omega
          simp [Instr.index,asIntOf,run_underlying hA.u,g1,h1,TH.run_sizeOf hA.size,h2]
      · cases h
    · cases h
  · rename_i u0
    rw [Rel] at hx
    subst hx
    split at h
    · rename_i z0
      rw [Rel] at hi
      subst hi
      split at h
      · rename_i k n hp
        simp only [Option.some.injEq] at h
        exact ⟨_,pv_run hp w,by rw [← h,Rel]⟩
      · cases h
    · cases h
  · cases h
def exS (x:SV) (i:Nat):Option SV:=match x with
  | .tup l=>nth l i
  | _=>none
theorem exS_ok {x v:SV} {i:Nat} {u:Value} (hx:Rel ρ x u) (h:exS x i=some v):∃ z,(Instr.extract u i).run P w=.ok z w∧Rel ρ v z:=by
  cases x <;> simp only [exS] at h <;> try (cases h;done)
  rename_i l
  rw [Rel] at hx
  obtain ⟨us,hl,rfl⟩:=hx
  rw [nth_eq] at h
  obtain ⟨z,hz,hr⟩:=hl.at h
  exact ⟨z,by simp [Instr.extract,hz],hr⟩

/-! ### Lengths -/
def lnS (P:Program) (T:Nat) (x:SV) (st:St):Option (SV × St):=match P.underlying T with
  | some (.slice _)=>match x with
    | .sl _ _ n _=>some (.raw (.int .i64 (.ofNat n)),st)
    | .sl0=>some (.raw (.int .i64 0),st)
    | .raw (.slice _ n _)=>some (.raw (.int .i64 (.ofNat n)),st)
    | _=>none
  | some (.map _ _)=>match x with
    | .raw (.map none)=>some (.raw (.int .i64 0),st)
    | .map b=>match st with
      | ⟨h,nx,bs,R,W⟩=>match h.get b with
        | some (.map es _)=>insK bs b R fun R'=>natK (llen es) fun n=>some (.raw (.int .i64 (.ofNat n)),⟨h,nx,bs,R',W⟩)
        | _=>none
    | _=>none
  | _=>none
theorem MRel.len {es:List SEnt}:∀ {ms:List MapEntry},MRel ρ es ms→ms.length=es.length:=by
  induction es with
  | nil=>intro ms h;rw [MRel] at h;rw [h];rfl
  | cons e es ih=>intro ms h;rw [MRel] at h;obtain ⟨m,r,rfl,_,_,_,h5⟩:=h;simp [ih h5]
theorem lnS_ok {T ty:Nat} {x v:SV} {u:Value} (hx:Rel ρ x u) (h:lnS P T x st=some (v,st')) (hs:Sim ρ D st w) (hD:∀ x,x∈st'.R∨st.base≤x→D x):Did P ρ D st st' w v (Builtin.len_ #[T] ty #[u]):=by
  unfold lnS at h
  split at h
  · rename_i e hu
    split at h <;> try (cases h;done)
    · simp only [Option.some.injEq,Prod.mk.injEq] at h
      obtain ⟨e1,e2⟩:=h
      subst e2
      rw [Rel] at hx
      obtain ⟨_,_,_,_,_,rfl⟩:=hx
      exact Did.pure hs (by simp [Builtin.len_,run_underlying hu,goInt];rfl) (by rw [← e1,Rel];first | done | rfl)
    · simp only [Option.some.injEq,Prod.mk.injEq] at h
      obtain ⟨e1,e2⟩:=h
      subst e2
      rw [Rel] at hx
      obtain ⟨_,_,rfl⟩:=hx
      exact Did.pure hs (by simp [Builtin.len_,run_underlying hu,goInt];rfl) (by rw [← e1,Rel];first | done | rfl)
    · simp only [Option.some.injEq,Prod.mk.injEq] at h
      obtain ⟨e1,e2⟩:=h
      subst e2
      rw [Rel] at hx
      subst hx
      exact Did.pure hs (by simp [Builtin.len_,run_underlying hu,goInt];rfl) (by rw [← e1,Rel];first | done | rfl)
  · rename_i kt et hu
    split at h <;> try (cases h;done)
    · simp only [Option.some.injEq,Prod.mk.injEq] at h
      obtain ⟨e1,e2⟩:=h
      subst e2
      rw [Rel] at hx
      subst hx
      exact Did.pure hs (by simp [Builtin.len_,run_underlying hu,goInt];rfl) (by rw [← e1,Rel];first | done | rfl)
    · rename_i b
      cases st with
      | mk hh nx bs R W =>
        simp only at h
        split at h
        · rename_i es c hg
          rw [insK_eq,natK_eq] at h
          simp only [Option.some.injEq,Prod.mk.injEq] at h
          obtain ⟨e1,e2⟩:=h
          rw [Rel] at hx
          obtain ⟨B,s,hb,rfl⟩:=hx
          have hd:D b:=hD b (by rw [← e2];exact ins_has _ _ _)
          obtain ⟨b',s',ob,q1,q2,ms,rfl,q4⟩:=hs.live b _ hd hg
          rw [hb] at q1;cases q1
          refine ⟨.int .i64 (ms.length:Int),w,ρ,?_,?_,by rw [← e2];exact Step.touch hs (ins_sub _ _ _) fun _ h=>h⟩
          · simp [Builtin.len_,run_underlying hu,goInt,getObj,Sem.run,q2]
          · rw [← e1,Rel,q4.len,llen_eq];rfl
        · cases h
  · cases h

/-! ### Numbers -/
def kEq:IntKind→IntKind→Bool
  | .i8,.i8=>true | .i16,.i16=>true | .i32,.i32=>true | .i64,.i64=>true
  | .u8,.u8=>true | .u16,.u16=>true | .u32,.u32=>true | .u64,.u64=>true
  | _,_=>false
theorem kEq_eq {k k':IntKind} (h:kEq k k'=true):k=k':=by cases k <;> cases k' <;> first | rfl | cases h
def kmax:IntKind→Nat
  | .i8=>127 | .i16=>32767 | .i32=>2147483647 | .i64=>9223372036854775807
  | .u8=>255 | .u16=>65535 | .u32=>4294967295 | .u64=>18446744073709551615
def ksg:IntKind→Bool
  | .i8=>true | .i16=>true | .i32=>true | .i64=>true
  | _=>false
def wrapF (k:IntKind) (n:Int):Int:=match n with
  | .ofNat m=>bif Nat.ble m (kmax k) then .ofNat m else k.wrap n
  | .negSucc m=>bif ksg k&&Nat.ble m (kmax k) then .negSucc m else k.wrap n
theorem fits_of {k:IntKind} {m:Nat} (h:m≤kmax k):Fits k m:=by
  cases k <;> simp only [kmax] at h <;> simp [Fits,room,IntKind.bits,IntKind.signed] <;> omega
theorem wrap_pos {k:IntKind} {m:Nat} (h:m≤kmax k):k.wrap (m:Int)=m:=wrap_nat (fits_of h)
theorem kbits (k:IntKind) (hk:ksg k=true):k.signed=true∧(2 ^ k.bits:Int)=2*2 ^ (k.bits-1)∧((kmax k:Nat):Int)+1=2 ^ (k.bits-1):=by
  cases k <;> first | (cases hk;done) | exact ⟨rfl,rfl,rfl⟩
theorem wrap_neg {k:IntKind} {m:Nat} (hk:ksg k=true) (h:m≤kmax k):k.wrap (Int.negSucc m)=Int.negSucc m:=by
  obtain ⟨h1,h2,h3⟩:=kbits k hk
  unfold IntKind.wrap
  rw [h2]
  generalize (2 ^ (k.bits-1):Int)=H at *
  have e:Int.negSucc m%(2*H)=Int.negSucc m+2*H:=by
    rw [← Int.add_emod_right]
    exact Int.emod_eq_of_lt (by rw [Int.negSucc_eq];omega) (by rw [Int.negSucc_eq];omega)
  simp only [e,h1,Bool.true_and]
  rw [if_pos (by rw [decide_eq_true_eq,Int.negSucc_eq];omega)]
  omega
theorem wrapF_eq (k:IntKind) (n:Int):wrapF k n=k.wrap n:=by
  cases n with
  | ofNat m =>
    simp only [wrapF]
    cases h:Nat.ble m (kmax k) with
    | false=>rfl
    | true=>exact (wrap_pos (Nat.ble_eq.mp h)).symm
  | negSucc m =>
    simp only [wrapF]
    cases h:ksg k&&Nat.ble m (kmax k) with
    | false=>rfl
    | true =>
      rw [Bool.and_eq_true] at h
      exact (wrap_neg h.1 (Nat.ble_eq.mp h.2)).symm
def ilt:Int→Int→Bool
  | .ofNat m,.ofNat n=>Nat.blt m n
  | .ofNat _,.negSucc _=>false
  | .negSucc _,.ofNat _=>true
  | .negSucc m,.negSucc n=>Nat.blt n m
theorem ilt_eq (x y:Int):ilt x y=decide (x<y):=by
  rw [Bool.eq_iff_iff,decide_eq_true_eq]
  cases x <;> cases y <;> simp only [ilt,Nat.blt_eq,Bool.false_eq_true,true_iff,false_iff,Int.ofNat_eq_natCast,Int.negSucc_eq] <;> omega
def ieq:Int→Int→Bool
  | .ofNat m,.ofNat n=>Nat.beq m n
  | .negSucc m,.negSucc n=>Nat.beq m n
  | _,_=>false
theorem ieq_eq (x y:Int):ieq x y=decide (x=y):=by
  rw [Bool.eq_iff_iff,decide_eq_true_eq]
  cases x <;> cases y <;> simp [ieq]
  omega
def intV (k:IntKind) (n:Int):Option SV:=intK n fun n'=>some (.raw (.int k n'))
theorem intV_eq (k:IntKind) (n:Int):intV k n=some (.raw (.int k n)):=by simp only [intV,intK_eq]
def boolV (b:Bool):Option SV:=match b with
  | true=>some (.raw (.bool true))
  | false=>some (.raw (.bool false))
theorem boolV_eq (b:Bool):boolV b=some (.raw (.bool b)):=by cases b <;> rfl
def isZ:Int→Bool
  | .ofNat 0=>true
  | _=>false
theorem isZ_eq {n:Int} (h:isZ n=false):n≠0:=by
  rintro rfl;cases h
/-- two numbers -/
def ibS (op:BinOp) (k:IntKind) (x:Int) (k':IntKind) (y:Int):Option SV:=match op with
  | .add=>bif kEq k k' then intV k (wrapF k (Int.add x y)) else none
  | .sub=>bif kEq k k' then intV k (wrapF k (Int.sub x y)) else none
  | .mul=>bif kEq k k' then intV k (wrapF k (Int.mul x y)) else none
  | .quo=>bif kEq k k' then (bif isZ y then none else intV k (wrapF k (Int.tdiv x y))) else none
  | .rem=>bif kEq k k' then (bif isZ y then none else intV k (Int.tmod x y)) else none
  | .lss=>bif kEq k k' then boolV (ilt x y) else none
  | .gtr=>bif kEq k k' then boolV (ilt y x) else none
  | .leq=>bif kEq k k' then boolV (!ilt y x) else none
  | .geq=>bif kEq k k' then boolV (!ilt x y) else none
  | .eql=>bif kEq k k' then boolV (ieq x y) else none
  | .neq=>bif kEq k k' then boolV (!ieq x y) else none
  | .and=>bif kEq k k' then (match x with
    | .ofNat m=>match y with
      | .ofNat n=>bif Nat.ble m (kmax k)&&Nat.ble n (kmax k) then intV k (.ofNat (Nat.land m n)) else none
      | _=>none
    | _=>none) else none
  | .or=>bif kEq k k' then (match x with
    | .ofNat m=>match y with
      | .ofNat n=>bif Nat.ble m (kmax k)&&Nat.ble n (kmax k) then intV k (.ofNat (Nat.lor m n)) else none
      | _=>none
    | _=>none) else none
  | .xor=>bif kEq k k' then (match x with
    | .ofNat m=>match y with
      | .ofNat n=>bif Nat.ble m (kmax k)&&Nat.ble n (kmax k) then intV k (.ofNat (Nat.xor m n)) else none
      | _=>none
    | _=>none) else none
  | .andNot=>bif kEq k k' then (match x with
    | .ofNat m=>match y with
      | .ofNat n=>bif Nat.ble m (kmax k)&&Nat.ble n (kmax k) then intV k (.ofNat (Nat.xor m (Nat.land m n))) else none
      | _=>none
    | _=>none) else none
  | .shl=>match x with
    | .ofNat m=>match y with
      | .ofNat s=>bif Nat.ble s k.bits then intV k (wrapF k (.ofNat (Nat.shiftLeft m s))) else none
      | _=>none
    | _=>none
  | .shr=>match x with
    | .ofNat m=>match y with
      | .ofNat s=>bif Nat.ble s k.bits then intV k (.ofNat (Nat.shiftRight m s)) else none
      | _=>none
    | _=>none
end
end Go.TX
namespace Go.TH
open Go
section
variable {P:Program} {C:Cx P} {E:Env} {H:List HP}
variable {ops:Array Oper} {K:KP} {rest:List Oper} {d:Nat} {ty:TypeId} {pos:String} {af:Array Edge} {x y:Operand} {T T':TypeId} {k:IntKind} {a b:Nat}
theorem bv_andNot {n:Nat} (x y:BitVec n):x&&&~~~y=x^^^(x&&&y):=by
  apply BitVec.eq_of_getLsbD_eq
  intro i hi
  simp [hi]
  cases x[i] <;> cases y[i] <;> rfl
end
end Go.TH
namespace Go.TX
open Go Go.TH
noncomputable section
variable {ρ:Ren} {N:Nat} {env:Tr SV} {a:Act} {P:Program} {D:Nat→Prop} {st st':St} {w:World}

/-- a test and the operator -/
def opT (op:BinOp) (T:TypeId) (xo yo:Operand) (u z:Value):Sem Value:=do eqGuard op T xo yo u z;binOp op T u z
theorem ble2 {m n k:Nat} (h:(Nat.ble m k&&Nat.ble n k)=true):m≤k∧n≤k:=by
  rw [Bool.and_eq_true] at h
  exact ⟨Nat.ble_eq.mp h.1,Nat.ble_eq.mp h.2⟩
def arF (op:BinOp) (x y:Int):Option Int:=match op with | .add=>some (x+y) | .sub=>some (x-y) | .mul=>some (x*y) | _=>none
def cmF (op:BinOp) (x y:Int):Option Bool:=match op with | .lss=>some (ilt x y) | .gtr=>some (ilt y x) | .leq=>some (!ilt y x) | .geq=>some (!ilt x y) | .eql=>some (ieq x y) | .neq=>some (!ieq x y) | _=>none
def dvF (op:BinOp) (k:IntKind) (x y:Int):Option Int:=match op with | .quo=>some (k.wrap (x.tdiv y)) | .rem=>some (x.tmod y) | _=>none
def btF (op:BinOp) (m n:Nat):Option Nat:=match op with | .and=>some (m&&&n) | .or=>some (m|||n) | .xor=>some (m^^^n) | .andNot=>some (m^^^(m&&&n)) | _=>none
def shF (op:BinOp) (k:IntKind) (m s:Nat):Option Int:=match op with | .shl=>some (k.wrap ((m<<<s:Nat):Int)) | .shr=>some ((m>>>s:Nat):Int) | _=>none
theorem op_arith {op:BinOp} {k:IntKind} {x y n:Int} (h:arF op x y=some n) (T:TypeId) (xo yo:Operand):(opT op T xo yo (.int k x) (.int k y)).run P w=.ok (.int k (k.wrap n)) w:=by
  cases op <;> simp only [arF,Option.some.injEq,reduceCtorEq] at h <;> subst h <;> simp [opT,eqGuard,binOp,Op.intArith]
theorem op_cmp {op:BinOp} {k:IntKind} {x y:Int} {b:Bool} (h:cmF op x y=some b) (T:TypeId) (xo yo:Operand) :
    (opT op T xo yo (.int k x) (.int k y)).run P w=.ok (.bool b) w:=by
  cases op <;> simp only [cmF,Option.some.injEq,reduceCtorEq] at h <;> subst h <;> simp [opT,eqGuard,binOp,Op.intCmp,ilt_eq,ieq_eq]
  · by_cases q:x=y <;> simp [q]
  · by_cases q:x=y <;> simp [q]
  · rw [Bool.eq_iff_iff];simp
  · rw [Bool.eq_iff_iff];simp
theorem op_div {op:BinOp} {k:IntKind} {x y n:Int} (hy:y≠0) (h:dvF op k x y=some n) (T:TypeId) (xo yo:Operand):(opT op T xo yo (.int k x) (.int k y)).run P w=.ok (.int k n) w:=by
  cases op <;> simp only [dvF,Option.some.injEq,reduceCtorEq] at h <;> subst h <;> simp [opT,eqGuard,binOp,Op.intDiv,hy]
theorem op_bits {op:BinOp} {k:IntKind} {m n r:Nat} (hm:m≤kmax k) (hn:n≤kmax k) (h:btF op m n=some r) (T:TypeId) (xo yo:Operand) :
    (opT op T xo yo (.int k (m:Int)) (.int k (n:Int))).run P w=.ok (.int k (r:Int)) w:=by
  have ha:=fits_of hm
  have hb:=fits_of hn
  cases op <;> simp only [btF,Option.some.injEq,reduceCtorEq] at h <;> subst h
  · simp [opT,eqGuard,binOp,Op.intBits,mod_fits ha,mod_fits hb]
    exact_mod_cast wrap_nat (k:=k) (a:=m&&&n) ha.and
  · simp [opT,eqGuard,binOp,Op.intBits,mod_fits ha,mod_fits hb]
    exact_mod_cast wrap_nat (k:=k) (a:=m|||n) (ha.or hb)
  · simp [opT,eqGuard,binOp,Op.intBits,mod_fits ha,mod_fits hb]
    exact_mod_cast wrap_nat (k:=k) (a:=m^^^n) (ha.xor hb)
  · simp [opT,eqGuard,binOp,Op.intBits,bv_andNot,mod_fits ha,mod_fits hb]
    exact_mod_cast wrap_nat (k:=k) (a:=m^^^(m&&&n)) (ha.xor ha.and)
theorem op_shift {op:BinOp} {k k':IntKind} {m s:Nat} {r:Int} (hs:s≤k.bits) (h:shF op k m s=some r) (T:TypeId) (xo yo:Operand) :
    (opT op T xo yo (.int k (m:Int)) (.int k' (s:Int))).run P w=.ok (.int k r) w:=by
  have h0:¬ ((s:Int)<0):=by omega
  cases op <;> simp only [shF,Option.some.injEq,reduceCtorEq] at h <;> subst h
  · simp [opT,eqGuard,binOp,Op.shift,h0,Nat.min_eq_left hs,Nat.shiftLeft_eq]
  · simp [opT,eqGuard,binOp,Op.shift,h0,Nat.min_eq_left hs,Nat.shiftRight_eq_div_pow]
    rw [Int.fdiv_eq_ediv_of_nonneg _ (by exact_mod_cast Nat.zero_le (2 ^ s))]
theorem kEq_of {α:Type} {k k':IntKind} {x:Option α} {v:α} (h:(bif kEq k k' then x else none)=some v):k=k'∧x=some v:=by
  cases hk:kEq k k' with
  | false=>rw [hk] at h;cases h
  | true=>rw [hk] at h;exact ⟨kEq_eq hk,h⟩
theorem bif_of {α:Type} {b:Bool} {x:Option α} {v:α} (h:(bif b then x else none)=some v):b=true∧x=some v:=by
  cases b with
  | false=>cases h
  | true=>exact ⟨rfl,h⟩
theorem bif_no {α:Type} {b:Bool} {x:Option α} {v:α} (h:(bif b then none else x)=some v):b=false∧x=some v:=by
  cases b with
  | true=>cases h
  | false=>exact ⟨rfl,h⟩
theorem two_of {α:Type} {x y:Int} {f:Nat→Nat→Option α} {v:α} (h:(match x with | .ofNat m=>(match y with | .ofNat n=>f m n | _=>none) | _=>none)=some v):∃ m n:Nat,x=(m:Int)∧y=(n:Int)∧f m n=some v:=by
  cases x <;> cases y <;> simp only [reduceCtorEq] at h
  exact ⟨_,_,rfl,rfl,h⟩
theorem ibS_ok {op:BinOp} {k k':IntKind} {x y:Int} {v:SV} (h:ibS op k x k' y=some v) (T:TypeId) (xo yo:Operand):∃ u,(opT op T xo yo (.int k x) (.int k' y)).run P w=.ok u w∧v=.raw u:=by
  have arith:∀ {n:Int},k=k'∧intV k (wrapF k n)=some v→arF op x y=some n→∃ u,(opT op T xo yo (.int k x) (.int k' y)).run P w=.ok u w∧v=.raw u:=by
    rintro n ⟨rfl,g⟩ hn
    rw [intV_eq,wrapF_eq,Option.some.injEq] at g
    exact ⟨_,op_arith hn T xo yo,g.symm⟩
  have cmp:∀ {b:Bool},k=k'∧boolV b=some v→cmF op x y=some b→∃ u,(opT op T xo yo (.int k x) (.int k' y)).run P w=.ok u w∧v=.raw u:=by
    rintro b ⟨rfl,g⟩ hb
    rw [boolV_eq,Option.some.injEq] at g
    exact ⟨_,op_cmp hb T xo yo,g.symm⟩
  have bits:∀ {f:Nat→Nat→Nat},(k=k'∧∃ m n:Nat,x=(m:Int)∧y=(n:Int)∧(bif Nat.ble m (kmax k)&&Nat.ble n (kmax k) then intV k (.ofNat (f m n)) else none)=some v)→(∀ m n,btF op m n=some (f m n)) →
      ∃ u,(opT op T xo yo (.int k x) (.int k' y)).run P w=.ok u w∧v=.raw u:=by
    rintro f ⟨rfl,m,n,rfl,rfl,g⟩ hf
    obtain ⟨hb,g⟩:=bif_of g
    obtain ⟨hm,hn⟩:=ble2 hb
    rw [intV_eq,Option.some.injEq] at g
    exact ⟨_,op_bits hm hn (hf m n) T xo yo,g.symm⟩
  cases op <;> simp only [ibS] at h
  · exact arith (kEq_of h) rfl
  · exact arith (kEq_of h) rfl
  · exact arith (kEq_of h) rfl
  · obtain ⟨rfl,g⟩:=kEq_of h
    obtain ⟨hz,g⟩:=bif_no g
    rw [intV_eq,wrapF_eq,Option.some.injEq] at g
    exact ⟨_,op_div (isZ_eq hz) rfl T xo yo,g.symm⟩
  · obtain ⟨rfl,g⟩:=kEq_of h
    obtain ⟨hz,g⟩:=bif_no g
    rw [intV_eq,Option.some.injEq] at g
    exact ⟨_,op_div (isZ_eq hz) rfl T xo yo,g.symm⟩
  · exact bits ⟨(kEq_of h).1,two_of (kEq_of h).2⟩ fun _ _=>rfl
  · exact bits ⟨(kEq_of h).1,two_of (kEq_of h).2⟩ fun _ _=>rfl
  · exact bits ⟨(kEq_of h).1,two_of (kEq_of h).2⟩ fun _ _=>rfl
  · obtain ⟨m,s,rfl,rfl,g⟩:=two_of h
    obtain ⟨hb,g⟩:=bif_of g
    rw [intV_eq,wrapF_eq,Option.some.injEq] at g
    exact ⟨_,op_shift (Nat.ble_eq.mp hb) rfl T xo yo,g.symm⟩
  · obtain ⟨m,s,rfl,rfl,g⟩:=two_of h
    obtain ⟨hb,g⟩:=bif_of g
    rw [intV_eq,Option.some.injEq] at g
    exact ⟨_,op_shift (Nat.ble_eq.mp hb) rfl T xo yo,g.symm⟩
  · exact bits ⟨(kEq_of h).1,two_of (kEq_of h).2⟩ fun _ _=>rfl
  all_goals exact cmp (kEq_of h) rfl
end
end Go.TX
namespace Go.TX
open Go Go.TH
noncomputable section
variable {ρ:Ren} {N:Nat} {env:Tr SV} {a:Act} {P:Program} {D:Nat→Prop} {st st':St} {w:World}

/-! ### Values without addresses -/
def raws:List SV→Option (List Value)
  | []=>some []
  | .raw v::r=>match raws r with
    | some l=>some (v::l)
    | none=>none
  | _::_=>none
def toV:SV→Option Value
  | .raw v=>some v
  | .agg l=>match raws l with
    | some vs=>some (.agg vs.toArray)
    | none=>none
  | _=>none
theorem raws_rel:∀ {l:List SV} {vs us:List Value},raws l=some vs→RelL ρ l us→us=vs
  | [],vs,us,h,hr=>by
    simp only [raws,Option.some.injEq] at h
    rw [RelL] at hr
    rw [hr,h]
  | s::l,vs,us,h,hr=>by
    rw [RelL] at hr
    obtain ⟨v,r,rfl,h1,h2⟩:=hr
    cases s <;> simp only [raws] at h <;> try (cases h;done)
    rw [Rel] at h1
    subst h1
    split at h
    · rename_i l' hl
      simp only [Option.some.injEq] at h
      subst h
      rw [raws_rel hl h2]
    · cases h
theorem toV_rel {s:SV} {v u:Value} (h:toV s=some v) (hr:Rel ρ s u):u=v:=by
  cases s <;> simp only [toV] at h <;> try (cases h;done)
  · rw [Rel] at hr
    simp only [Option.some.injEq] at h
    rw [hr,h]
  · rw [Rel] at hr
    obtain ⟨us,h1,rfl⟩:=hr
    split at h
    · rename_i vs hv
      simp only [Option.some.injEq] at h
      subst h
      rw [raws_rel hv h1]
    · cases h
/-- a value, reckoned -/
def valV (v:Value):Option SV:=match v with
  | .int k n=>intV k n
  | .bool b=>boolV b
  | .agg cs=>some (.agg (cs.toList.map .raw))
  | v=>some (.raw v)
theorem valV_rel {v:Value} {s:SV} (h:valV v=some s):Rel ρ s v:=by
  cases v <;> simp only [valV,intV_eq,boolV_eq,Option.some.injEq] at h <;> subst h <;> rw [Rel]
  exact ⟨_,RelL.raws _,by simp⟩

/-! ### Operators -/
def isNil:SV→Bool
  | .raw (.pointer none)=>true
  | .raw (.slice none 0 0)=>true
  | .raw (.map none)=>true
  | .raw .nilFunc=>true
  | _=>false
def eqNil (P:Program) (T:TypeId) (x:SV):Option Bool:=match x with
  | .ptr _ _=>match P.underlying T with
    | some (.pointer _)=>some false
    | _=>none
  | .sl _ _ _ _=>match P.underlying T with
    | some (.slice _)=>some false
    | _=>none
  | .map _=>match P.underlying T with
    | some (.map _ _)=>some false
    | _=>none
  | .fn _ _ _=>match P.underlying T with
    | some (.func _ _ _)=>some false
    | _=>none
  | _=>none
def nilT (P:Program) (T:TypeId) (x:SV):Bool:=match x with
  | .raw (.pointer none)=>match P.underlying T with
    | some (.pointer _)=>true
    | _=>false
  | .raw (.slice none 0 0)=>match P.underlying T with
    | some (.slice _)=>true
    | _=>false
  | .raw (.map none)=>match P.underlying T with
    | some (.map _ _)=>true
    | _=>false
  | .raw .nilFunc=>match P.underlying T with
    | some (.func _ _ _)=>true
    | _=>false
  | _=>false
theorem eqNil_ok {T:TypeId} {x y:SV} {u z:Value} {b:Bool} (hx:Rel ρ x u) (hy:Rel ρ y z) (h:eqNil P T x=some b) (hn:nilT P T y=true) :
    (Op.equal T u z).run P w=.ok b w∧(Op.equal T z u).run P w=.ok b w:=by
  cases x <;> simp only [eqNil] at h <;> try (cases h;done)
  all_goals
    split at h <;> try (cases h;done)
    rename_i hu
    simp only [Option.some.injEq] at h
    subst h
    unfold nilT at hn
    split at hn <;> try (cases hn;done)
    all_goals
      split at hn <;> try (cases hn;done)
      rename_i hu'
      rw [hu] at hu'
      first
        | (cases hu';done)
        | (simp only [Rel] at hx hy
           subst hy
           first
             | (obtain ⟨_,_,_,rfl⟩:=hx
                constructor <;> (unfold Op.equal;rw [show Op.maxDepth=9999+1 from rfl,Op.equalIn];simp [run_underlying hu]))
             | (obtain ⟨_,_,_,_,_,rfl⟩:=hx
                constructor <;> (unfold Op.equal;rw [show Op.maxDepth=9999+1 from rfl,Op.equalIn];simp [run_underlying hu]))
             | (obtain ⟨_,_,_,_,rfl⟩:=hx
                constructor <;> (unfold Op.equal;rw [show Op.maxDepth=9999+1 from rfl,Op.equalIn];simp [run_underlying hu])))
def boS (P:Program) (op:BinOp) (T:TypeId) (xo yo:Operand) (x y:SV):Option SV:=match x with
  | .raw (.int k m)=>match y with
    | .raw (.int k' n)=>ibS op k m k' n
    | _=>none
  | x=>match toV x with
    | some u=>match toV y with
      | some z=>match pv P (opT op T xo yo u z) with
        | some v=>valV v
        | none=>none
      | none=>bif isNil x&&nilT P T x then (match eqNil P T y with
        | some b=>match op with
          | .eql=>boolV b
          | .neq=>boolV (!b)
          | _=>none
        | none=>none) else none
    | none=>bif nilT P T y then (match eqNil P T x with
      | some b=>match op with
        | .eql=>boolV b
        | .neq=>boolV (!b)
        | _=>none
      | none=>none) else none
theorem opT_eq {op:BinOp} {T:TypeId} {xo yo:Operand} {u z:Value} {b:Bool} {v:SV} (hq:(Op.equal T u z).run P w=.ok b w)  (hg:∀ op,(eqGuard op T xo yo u z).run P w=.ok () w) (hop:∀ op,op=.eql∨op=.neq→binOp op T u z=(if op=.eql then (do pure (.bool (← Op.equal T u z))) else (do pure (.bool (!(← Op.equal T u z)))))) (h:(match op with | .eql=>boolV b | .neq=>boolV (!b) | _=>none)=some v):∃ r,(opT op T xo yo u z).run P w=.ok r w∧Rel ρ v r:=by
  cases op <;> simp only [reduceCtorEq] at h
  · rw [boolV_eq,Option.some.injEq] at h
    refine ⟨.bool b,?_,by rw [← h,Rel]⟩
    simp only [opT,Sem.run_bind,hg,Result.andThen_ok,hop .eql (.inl rfl),if_true]
    simp [hq]
  · rw [boolV_eq,Option.some.injEq] at h
    refine ⟨.bool !b,?_,by rw [← h,Rel]⟩
    simp only [opT,Sem.run_bind,hg,Result.andThen_ok,hop .neq (.inr rfl)]
    simp [hq]
theorem guard_nil {op:BinOp} {T:TypeId} {xo yo:Operand} {x y:SV} {u z:Value} {b:Bool} (hx:Rel ρ x u) (hy:Rel ρ y z) (h:eqNil P T x=some b) (hn:nilT P T y=true) :
    (eqGuard op T xo yo u z).run P w=.ok () w∧(eqGuard op T yo xo z u).run P w=.ok () w∧(∀ op,op=.eql∨op=.neq→binOp op T u z=(if op=.eql then (do pure (.bool (← Op.equal T u z))) else (do pure (.bool (!(← Op.equal T u z)))))) ∧
      (∀ op,op=.eql∨op=.neq→binOp op T z u=(if op=.eql then (do pure (.bool (← Op.equal T z u))) else (do pure (.bool (!(← Op.equal T z u)))))):=by
  cases x <;> simp only [eqNil] at h <;> try (cases h;done)
  all_goals
    split at h <;> try (cases h;done)
    unfold nilT at hn
    split at hn <;> try (cases hn;done)
    all_goals
      simp only [Rel] at hx hy
      subst hy
      first
        | (obtain ⟨_,_,_,rfl⟩:=hx
           refine ⟨by cases op <;> simp [eqGuard],by cases op <;> simp [eqGuard],?_,?_⟩ <;> (rintro op (rfl | rfl) <;> rfl))
        | (obtain ⟨_,_,_,_,_,rfl⟩:=hx
           refine ⟨by cases op <;> simp [eqGuard],by cases op <;> simp [eqGuard],?_,?_⟩ <;> (rintro op (rfl | rfl) <;> rfl))
        | (obtain ⟨_,_,_,_,rfl⟩:=hx
           refine ⟨by cases op <;> simp [eqGuard],by cases op <;> simp [eqGuard],?_,?_⟩ <;> (rintro op (rfl | rfl) <;> rfl))
theorem boS_ok {op:BinOp} {T:TypeId} {xo yo:Operand} {x y v:SV} {u z:Value} (hx:Rel ρ x u) (hy:Rel ρ y z) (h:boS P op T xo yo x y=some v):∃ r,(opT op T xo yo u z).run P w=.ok r w∧Rel ρ v r:=by
  unfold boS at h
  split at h
  · rename_i k m
    split at h
    · rename_i k' n
      rw [Rel] at hx hy
      subst hx;subst hy
      obtain ⟨r,h1,h2⟩:=ibS_ok (P:=P) (w:=w) h T xo yo
      exact ⟨r,h1,by rw [h2,Rel]⟩
    · cases h
  · split at h
    · rename_i u' hu
      have eu:=toV_rel hu hx
      split at h
      · rename_i z' hz
        have ez:=toV_rel hz hy
        subst eu;subst ez
        split at h
        · rename_i r hp
          exact ⟨r,pv_run hp w,valV_rel h⟩
        · cases h
      · obtain ⟨hb,h⟩:=bif_of h
        rw [Bool.and_eq_true] at hb
        split at h
        · rename_i b hq
          have h1:=eqNil_ok (w:=w) hy hx hq hb.2
          have h2:=fun op=>guard_nil (w:=w) (op:=op) (xo:=yo) (yo:=xo) hy hx hq hb.2
          exact opT_eq h1.2 (fun op=>(h2 op).2.1) (h2 .eql).2.2.2 h
        · cases h
    · obtain ⟨hb,h⟩:=bif_of h
      split at h
      · rename_i b hq
        have h1:=eqNil_ok (w:=w) hx hy hq hb
        have h2:=fun op=>guard_nil (w:=w) (op:=op) (xo:=xo) (yo:=yo) hx hy hq hb
        exact opT_eq h1.1 (fun op=>(h2 op).1) (h2 .eql).2.2.1 h
      · cases h
end
end Go.TX
namespace Go.TX
open Go Go.TH
noncomputable section
variable {ρ:Ren} {N:Nat} {env:Tr SV} {a:Act} {P:Program} {D:Nat→Prop} {st st':St} {w:World}

def unS (P:Program) (op:UnOp) (x:SV):Option SV:=match op,x with
  | .not,.raw (.bool b)=>boolV (!b)
  | op,x=>match toV x with
    | some u=>match pv P (Op.unary op u) with
      | some v=>valV v
      | none=>none
    | none=>none
theorem unS_ok {op:UnOp} {x v:SV} {u:Value} (hx:Rel ρ x u) (h:unS P op x=some v):∃ r,(Op.unary op u).run P w=.ok r w∧Rel ρ v r:=by
  unfold unS at h
  split at h
  · rw [Rel] at hx
    subst hx
    rw [boolV_eq,Option.some.injEq] at h
    exact ⟨_,by simp [Op.unary];rfl,by rw [← h,Rel]⟩
  · split at h
    · rename_i u' hu
      have:=toV_rel hu hx
      subst this
      split at h
      · rename_i r hr
        exact ⟨r,pv_run hr w,valV_rel h⟩
      · cases h
    · cases h
def intK? (P:Program) (T:TypeId):Option IntKind:=match P.underlying T with
  | some (.int k)=>some k
  | _=>none
def cvS (P:Program) (T T':TypeId) (x:SV):Option SV:=match x with
  | .raw (.int _ n)=>match intK? P T' with
    | some k=>bif (P.underlying T).isSome then intV k (wrapF k n) else none
    | none=>none
  | x=>match toV x with
    | some u=>match pv P (convert T T' u) with
      | some v=>valV v
      | none=>none
    | none=>none
theorem cvS_ok {T T':TypeId} {x v:SV} {u:Value} (hx:Rel ρ x u) (h:cvS P T T' x=some v):∃ r,(convert T T' u).run P w=.ok r w∧Rel ρ v r:=by
  unfold cvS at h
  split at h
  · rename_i k n
    rw [Rel] at hx
    subst hx
    split at h
    · rename_i k' hk
      unfold intK? at hk
      split at hk
      · rename_i k2 hu
        simp only [Option.some.injEq] at hk
        subst hk
        obtain ⟨hs,h⟩:=bif_of h
        obtain ⟨ds,hd⟩:=Option.isSome_iff_exists.mp hs
        rw [intV_eq,wrapF_eq,Option.some.injEq] at h
        exact ⟨_,by simp [convert,run_underlying hd,run_underlying hu,Conv.intToInt];rfl,by rw [← h,Rel]⟩
      · cases hk
    · cases h
  · split at h
    · rename_i u' hu
      have:=toV_rel hu hx
      subst this
      split at h
      · rename_i r hr
        exact ⟨r,pv_run hr w,valV_rel h⟩
      · cases h
    · cases h

/-! ### Appending -/
/-- the cells of a slice, and how many elements -/
def srcK {β:Type} (sz:Nat) (y:SV) (st:St) (k:Nat→List SV→St→Option β):Option β:=match y with
  | .raw (.slice none 0 0)=>k 0 [] st
  | .sl0=>k 0 [] st
  | .sl b o n _=>rdK st b fun l _ _ st'=>subK l o (n*sz) fun vs=>k n vs st'
  | _=>none
/-- what is read there -/
structure Src (P:Program) (w:World) (sz:Nat) (z:Value) (n:Nat) (us:List Value):Prop where
  is:∃ ad c,z=.slice ad n c∧(0<n→∃ b o,ad=some ⟨b,o,none⟩∧∀ j u,us[j]?=some u→w.cell? ((⟨b,o,none⟩:Addr).add j)=some u)
  len:us.length=n*sz
theorem srcK_ok {β:Type} {sz:Nat} {y:SV} {z:Value} {k:Nat→List SV→St→Option β} {r:β} (hy:Rel ρ y z) (h:srcK sz y st k=some r) (hs:Sim ρ D st w) (hD:∀ n vs st',k n vs st'=some r→∀ x,x∈st'.R∨st.base≤x→D x) :
    ∃ n vs us R',k n vs ⟨st.h,st.nx,st.base,R',st.W⟩=some r∧(∀ x,x∈st.R→x∈R')∧RelL ρ vs us∧Src P w sz z n us:=by
  unfold srcK at h
  split at h
  · rw [Rel] at hy
    subst hy
    exact ⟨0,[],[],st.R,h,fun _ h=>h,RelL.nil,⟨none,0,rfl,fun h=>absurd h (by omega)⟩,by simp⟩
  · rw [Rel] at hy
    obtain ⟨ad,c,rfl⟩:=hy
    exact ⟨0,[],[],st.R,h,fun _ h=>h,RelL.nil,⟨ad,c,rfl,fun h=>absurd h (by omega)⟩,by simp⟩
  · rename_i b o n c
    rw [Rel] at hy
    obtain ⟨B,s,cap,hb,_,rfl⟩:=hy
    obtain ⟨l,e,op,hg,h⟩:=rdK_some h
    obtain ⟨hl,h⟩:=subK_some h
    have hd:D b:=hD _ _ _ h b (ins_has _ _ _)
    obtain ⟨b',s',pre,us,vs,q1,q2,qz,q3,q4,q5⟩:=hs.row hd hg
    rw [hb] at q1;cases q1
    refine ⟨n,_,(us.drop o).take (n*sz),_,h,ins_sub _ _ _,(q3.drop o).take _,⟨_,_,rfl,fun _=>⟨_,_,rfl,cells_of q2 qz⟩⟩,?_⟩
    have:=q3.len
    simp;omega
  · cases h
theorem run_firstCells_src {sz n:Nat} {z:Value} {us:List Value} (h:Src P w sz z n us) {w':World} (hc:∀ p v,w.cell? p=some v→w'.cell? p=some v):(Builtin.firstCells sz n z).run P w'=.ok us.toArray w':=by
  obtain ⟨⟨ad,c,rfl,ha⟩,hl⟩:=h
  rcases Nat.eq_zero_or_pos n with rfl | hp
  · have:us=[]:=List.eq_nil_of_length_eq_zero (by simpa using hl)
    subst this
    cases ad with
    | none=>simp [Builtin.firstCells]
    | some b =>
      have:=run_loadCells_list (P:=P) w' b [] (by simp)
      simpa [Builtin.firstCells] using this
  · obtain ⟨b,o,rfl,hh⟩:=ha hp
    exact run_firstCells_some (P:=P) w' sz n _ n c us hl (fun j v hv=>hc _ _ (hh j v hv))
/-- appending within the room -/
theorem run_append_in {T e:TypeId} {ty:TypeId} {i:TypeInfo} (hu:P.underlying T=some (.slice e)) (hi:P.info? e=some i) {b o n k:Nat} {cs:List Value} {e':TypeId} (hg:w.heap[b]?=some (.cells cs.toArray e' (0,0))) {z:Value} {m:Nat} {news:List Value}
    (hz:Src P w i.size z m news) (h1:∀ u∈news,u.oneCell'=true) (hroom:n+m≤k) (hfit:o+n*i.size+news.length≤cs.length) :
    ∃ w',(Builtin.append_ #[T,T] ty #[.slice (some ⟨b,o,none⟩) n k,z]).run P w=.ok (.slice (some ⟨b,o,none⟩) (n+m) k) w'∧w'.os=w.os∧w'.tape=w.tape∧w'.output=w.output∧w'.heap.size=w.heap.size ∧
      w'.heap[b]?=some (.cells (wrl cs (o+n*i.size) news).toArray e' (0,0))∧∀ q,q≠b→w'.heap[q]?=w.heap[q]?:=by
  have hf:=run_firstCells_src (P:=P) hz (w':=w) fun _ _ h=>h
  obtain ⟨w',hr,a1,a2,a3,a4,a5,a6⟩:=run_storeCells_own (P:=P) (b:=b) (off:=o+n*i.size) news 0 w cs hg (by simpa using hfit) h1
  refine ⟨w',?_,a1,a2,a3,a4,by simpa using a5,a6⟩
  obtain ⟨ad,c,rfl,_⟩:=hz.is
  simp [Builtin.append_,run_underlying hu,sizeOf,typeInfo,hi,Builtin.lenOf,hroom,hf,Addr.add_lit,hr]
/-- a new row -/
theorem run_append_new {T e:TypeId} {ty:TypeId} {i:TypeInfo} {zv:Value} (hu:P.underlying T=some (.slice e)) (hi:P.info? e=some i) (hzv:i.zero=some zv) {x:Value} {n k:Nat} {olds:List Value} {ad:Option Addr} (hx:x=.slice ad n k) (hx':ad=none→n=0∧k=0) (ho:∀ {w':World},(∀ p v,w.cell? p=some v→w'.cell? p=some v)→(Builtin.firstCells i.size n x).run P w'=.ok olds.toArray w') {z:Value} {m:Nat} {news:List Value}
    (hz:Src P w i.size z m news) (hm:0<m) (hg:k<n+m) (h63:n+m≤9223372036854775807) (hb:(n+m)*i.bytes≤140737488355328) :
    ∃ c w',n+m≤c∧(Builtin.append_ #[T,T] ty #[x,z]).run P w=.ok (.slice (some ⟨w.heap.size,0,none⟩) (n+m) c) w'∧w'.os=w.os∧w'.tape=w.tape∧w'.output=w.output ∧
      w'.heap=w.heap.push (.cells ((olds++news)++(Builtin.zeroCells zv.cells (c-(n+m))).toList).toArray e (0,0)):=by
  obtain ⟨⟨az,cz,rfl,ha⟩,hl⟩:=hz
  obtain ⟨b0,o0,rfl,hh⟩:=ha hm
  have hf:=run_firstCells_some (P:=P) w.drew i.size m ⟨b0,o0,none⟩ m cz news hl (by simpa using hh)
  have ho':=ho (w':=w.drew) fun p v h=>by simpa using h
  have hn:¬ (n+m≤k):=by omega
  have h63':¬ (9223372036854775807<((n:Int)+(m:Int))):=by omega
  have hfit:=growslice_fits (bytes:=i.bytes) hg hb
  have h48':¬ (281474976710656<Builtin.nextslicecap (n+m) k*i.bytes):=by omega
  subst hx
  refine ⟨grownCap w (n+m) k e,w.drew.alloc (.cells ((olds++news)++(Builtin.zeroCells zv.cells (grownCap w (n+m) k e-(n+m))).toList).toArray e),grownCap_ge w (n+m) k e,?_,rfl,rfl,rfl,rfl⟩
  simp [Builtin.append_,run_underlying hu,sizeOf,typeInfo,zeroValue,hi,hzv,Builtin.lenOf,hn,h63',h48',Question.forced,hf,ho',newRow,grownCap]
  congr 2
  apply Array.ext'
  simp [List.append_assoc]

/-- appending news to x, of elements of sz cells -/
def apC (e sz by':Nat) (x:SV) (m:Nat) (news:List SV) (st1:St):Option (SV × St):=match m with
    | 0=>match x with
      | .raw (.slice none 0 0)=>some (x,st1)
      | .sl _ _ n (.kn k)=>bif Nat.ble n k then some (x,st1) else none
      | _=>none
    | m'+1=>bif onesS news then (match x with
      | .raw (.slice none 0 0)=>bif Nat.ble ((m'+1)*by') 140737488355328&&Nat.ble (m'+1) 9223372036854775807 then
          newK st1 (.cells news e true) fun q st'=>natK (m'+1) fun n'=>some (.sl q 0 n' (.rest sz),st')
        else none
      | .sl b o n (.kn k)=>bif Nat.ble (n+(m'+1)) k then
          (rdK st1 b fun l e' op st2=>wrK l (o+n*sz) news fun l'=>wtK st2 b (.cells l' e' op) fun st'=>natK (n+(m'+1)) fun n'=>some (.sl b o n' (.kn k),st'))
        else (bif Nat.ble ((n+(m'+1))*by') 140737488355328&&Nat.ble (n+(m'+1)) 9223372036854775807 then
          rdK st1 b fun l _ _ st2=>subK l o (n*sz) fun olds=>appK olds news fun row=>newK st2 (.cells row e true) fun q st'=>natK (n+(m'+1)) fun n'=>some (.sl q 0 n' (.rest sz),st')
        else none)
      | .sl b o n (.rest sz')=>bif Nat.beq sz sz'&&Nat.blt 0 sz then (bif Nat.ble ((n+(m'+1))*by') 140737488355328&&Nat.ble (n+(m'+1)) 9223372036854775807 then
          rdK st1 b fun l e' op st2=>bif op&&Nat.beq e' e then (bif Nat.ble (o+(n+(m'+1))*sz) (llen l) then none else subK l o (n*sz) fun olds=>appK olds news fun row =>
            match st2 with
            | ⟨h,nx,bs,R,W⟩=>h.setK b none fun h1=>h1.setK nx (some (.cells row e true)) fun h2=>natK (Nat.succ nx) fun nx'=>insK bs b W fun W'=>natK (n+(m'+1)) fun n'=>some (.sl nx 0 n' (.rest sz),⟨h2,nx',bs,R,W'⟩))
          else none else none) else none
      | _=>none) else none
def apS (P:Program) (T T':TypeId) (x y:SV) (st:St):Option (SV × St):=bif Nat.beq T T' then match slT P T with
  | some (e,sz,by',_)=>srcK sz y st fun m news st1=>apC e sz by' x m news st1
  | none=>none else none

theorem apC_R {e sz by' m:Nat} {x v:SV} {news:List SV} (h:apC e sz by' x m news st=some (v,st')):∀ y,y∈st.R→y∈st'.R:=by
  unfold apC at h
  intro y hy
  split at h
  · split at h
    · simp only [Option.some.injEq,Prod.mk.injEq] at h;rw [← h.2];exact hy
    · obtain ⟨_,h⟩:=bif_of h
      simp only [Option.some.injEq,Prod.mk.injEq] at h;rw [← h.2];exact hy
    · cases h
  · rename_i m'
    have hones:=(bif_of h).1
    replace h:=(bif_of h).2
    split at h
    · obtain ⟨_,h⟩:=bif_of h
      simp only [newK_eq,natK_eq,Option.some.injEq,Prod.mk.injEq] at h;rw [← h.2];exact hy
    · rename_i b o n k
      cases hb:Nat.ble (n+(m'+1)) k with
      | true =>
        rw [hb,cond_true] at h
        obtain ⟨l,e',op,hg,h⟩:=rdK_some h
        obtain ⟨hl,h⟩:=wrK_some h
        rw [wtK_eq] at h
        simp only [natK_eq,Option.some.injEq,Prod.mk.injEq] at h;rw [← h.2];exact ins_sub _ _ _ _ (ins_sub _ _ _ _ hy)
      | false =>
        rw [hb,cond_false] at h
        obtain ⟨_,h⟩:=bif_of h
        obtain ⟨l,e',op,hg,h⟩:=rdK_some h
        obtain ⟨hl,h⟩:=subK_some h
        simp only [appK_eq,newK_eq,natK_eq,Option.some.injEq,Prod.mk.injEq] at h;rw [← h.2];exact ins_sub _ _ _ _ hy
    · obtain ⟨_,h⟩:=bif_of h
      obtain ⟨_,h⟩:=bif_of h
      obtain ⟨l,e',op,hg,h⟩:=rdK_some h
      obtain ⟨_,h⟩:=bif_of h
      cases hb:Nat.ble _ (llen l) with
      | true=>rw [hb] at h;cases h
      | false =>
        rw [hb,cond_false] at h
        obtain ⟨hl,h⟩:=subK_some h
        simp only [appK_eq,Tr.setK_eq,natK_eq,insK_eq,Option.some.injEq,Prod.mk.injEq] at h;rw [← h.2];exact ins_sub _ _ _ _ hy
    · cases h
/-- more is known behind a step that only tells what was touched -/
theorem Did.after {R:List Nat} {v:SV} {s:Sem Value} (hs:Sim ρ D st w) (hR:∀ x,x∈st.R→x∈R) (h:Did P ρ D ⟨st.h,st.nx,st.base,R,st.W⟩ st' w v s):Did P ρ D st st' w v s:=by
  obtain ⟨u,w',ρ',h1,h2,h3⟩:=h
  exact ⟨u,w',ρ',h1,h2,⟨h3.os,h3.tape,h3.output,h3.size,h3.nx,h3.base,fun x hx=>h3.sR x (hR x hx),h3.sW,h3.ext,h3.keep,h3.dead,h3.same,h3.fresh,h3.sim⟩⟩
theorem zeroCells_len {z:Array Value} {n:Nat}:(Builtin.zeroCells z n).toList.length=n*z.size:=by simp [Builtin.zeroCells]

theorem apC_ok {T e ty:TypeId} {i:TypeInfo} {zv:Value} {x v:SV} {u z:Value} {m:Nat} {news:List SV} {nv:List Value} (hu:P.underlying T=some (.slice e)) (hi:P.info? e=some i) (hzv:i.zero=some zv) (hzs:zv.cells.size=i.size)
    (hx:Rel ρ x u) (hz:Src P w i.size z m nv) (hn:RelL ρ news nv) (h:apC e i.size i.bytes x m news st=some (v,st')) (hs:Sim ρ D st w) (hD:∀ x,x∈st'.R∨st.base≤x→D x) (hf:Free ρ st.nx st'.nx) :
    Did P ρ D st st' w v (Builtin.append_ #[T,T] ty #[u,z]):=by
  have hzl:=hz.len
  unfold apC at h
  split at h
  · -- nothing is appended
    have hnil:nv=[]:=List.eq_nil_of_length_eq_zero (by simpa using hzl)
    subst hnil
    obtain ⟨⟨az,cz,rfl,_⟩,_⟩:=hz
    split at h
    · simp only [Option.some.injEq,Prod.mk.injEq] at h
      obtain ⟨rfl,rfl⟩:=h
      rw [Rel] at hx;subst hx
      refine Did.pure hs (u:=.slice none 0 0) ?_ (by rw [Rel])
      cases az with
      | none=>simp [Builtin.append_,run_underlying hu,sizeOf,typeInfo,hi,Builtin.lenOf,Builtin.firstCells]
      | some b =>
        have:(loadCells b 0).run P w=.ok #[] w:=by simpa using run_loadCells_list (P:=P) w b [] (by simp)
        simp [Builtin.append_,run_underlying hu,sizeOf,typeInfo,hi,Builtin.lenOf,Builtin.firstCells,this]
    · rename_i b o n k
      have hb:=(bif_of h).1
      replace h:=(bif_of h).2
      have hb:=Nat.ble_eq.mp hb
      simp only [Option.some.injEq,Prod.mk.injEq] at h
      obtain ⟨rfl,rfl⟩:=h
      have hx0:=hx
      rw [Rel] at hx
      obtain ⟨B,s,cap,hB,hc,rfl⟩:=hx
      simp only [CapR] at hc
      subst hc
      refine Did.pure hs (u:=.slice (some ⟨B,s.1+o,none⟩) n cap) ?_ hx0
      have h0:(storeCells ((⟨B,s.1+o,none⟩:Addr).add (n*i.size)) []).run P w=.ok () w:=by simp [storeCells]
      cases az with
      | none=>simp [Builtin.append_,run_underlying hu,sizeOf,typeInfo,hi,Builtin.lenOf,Builtin.firstCells,hb,h0]
      | some b =>
        have:(loadCells b 0).run P w=.ok #[] w:=by simpa using run_loadCells_list (P:=P) w b [] (by simp)
        simp [Builtin.append_,run_underlying hu,sizeOf,typeInfo,hi,Builtin.lenOf,Builtin.firstCells,this,hb,h0]
    · cases h
  · rename_i m'
    have hones:=(bif_of h).1
    replace h:=(bif_of h).2
    have h1:=hn.ones hones
    have hnl:=hn.len
    split at h
    · -- from nothing
      have hb:=(bif_of h).1
      replace h:=(bif_of h).2
      obtain ⟨hb1,hb2⟩:=by rw [Bool.and_eq_true] at hb;exact hb
      have hb1:=Nat.ble_eq.mp hb1
      have hb2:=Nat.ble_eq.mp hb2
      simp only [newK_eq,natK_eq,Option.some.injEq,Prod.mk.injEq] at h
      obtain ⟨e1,e2⟩:=h
      have hne:ρ st.nx=none:=hf _ (Nat.le_refl _) (by rw [← e2];exact Nat.lt_succ_self _)
      rw [Rel] at hx;subst hx
      obtain ⟨c,w',hc,hr,a1,a2,a3,a4⟩:=run_append_new (P:=P) (ty:=ty) (w:=w) (olds:=[]) (ad:=none) (n:=0) (k:=0) hu hi hzv rfl (fun _=>⟨rfl,rfl⟩) (fun {w'} _=>by simp [Builtin.firstCells]) hz (Nat.succ_pos _) (by omega) (by omega) (by rw [Nat.zero_add];exact hb1)
      simp only [List.nil_append,Nat.zero_add] at hr a4 hc
      refine Did.new (n:=(0,c*i.size)) hs hf e2.symm hr ⟨[],nv,(Builtin.zeroCells zv.cells (c-(m'+1))).toList,rfl,rfl,hn.mono (Ren.put_le hne),(fun h=>by cases h),?_⟩ a1 a2 a3 a4 ?_
      · rw [hzl,zeroCells_len,hzs,← Nat.add_mul];congr 1;omega
      · rw [← e1,Rel];exact ⟨_,_,c,Ren.put_at,by simp [CapR],rfl⟩
    · rename_i b o n k
      have hx0:=hx
      rw [Rel] at hx
      obtain ⟨B,s,cap,hB,hc,rfl⟩:=hx
      simp only [CapR] at hc
      subst hc
      cases hb:Nat.ble (n+(m'+1)) cap with
      | true =>
        rw [hb,cond_true] at h
        have hb:=Nat.ble_eq.mp hb
        obtain ⟨l,e',op,hg,h⟩:=rdK_some h
        obtain ⟨hl,h⟩:=wrK_some h
        rw [wtK_eq] at h
        simp only [natK_eq,Option.some.injEq,Prod.mk.injEq] at h
        obtain ⟨e1,e2⟩:=h
        have hdx:D b:=hD b (by rw [← e2];rcases ins_has st.base b st.R with q | q;exact .inl (ins_sub _ _ _ _ q);exact .inr q)
        obtain ⟨b',s',pre,us,vs,q1,q2,qz,q3,q4,q5⟩:=hs.row hdx hg
        rw [hB] at q1;cases q1
        have hul:=q3.len
        obtain ⟨w',hr,a1,a2,a3,a4,a5,a6⟩:=run_append_in (P:=P) (ty:=ty) (w:=w) (b:=B) (o:=s.1+o) (n:=n) (k:=cap) hu hi q2 hz h1 hb (by rw [← qz];simp;omega)
        refine ⟨_,w',ρ,hr,by rw [← e1,Rel];exact ⟨B,s,cap,hB,rfl,rfl⟩,?_⟩
        rw [← e2]
        have e3:s.1+o+n*i.size=pre.length+(o+n*i.size):=by rw [qz];omega
        rw [e3,wrl_pre (by simp;omega),wrl_mid (by omega)] at a5
        refine Step.upd hs hdx (by rw [hg];simp) hB (o:=.cells (l.take (o+n*i.size)++news++l.drop (o+n*i.size+news.length)) e' op) (ob:=_) ⟨pre,us.take (o+n*i.size)++nv++us.drop (o+n*i.size+nv.length),vs,rfl,qz,?_,q4,?_⟩ (fun y hy=>ins_sub _ _ _ _ (ins_sub _ _ _ _ hy)) (ins_sub _ _ _) (ins_has _ _ _) a1 a2 a3 a4 a5 a6
        · rw [hnl];exact ((q3.take _).app hn).app (q3.drop _)
        · simp;omega
      | false =>
        rw [hb,cond_false] at h
        have hb:¬ (n+(m'+1)≤cap):=fun q=>by rw [Nat.ble_eq.mpr q] at hb;cases hb
        have hc:=(bif_of h).1
        replace h:=(bif_of h).2
        obtain ⟨hc1,hc2⟩:=by rw [Bool.and_eq_true] at hc;exact hc
        have hc1:=Nat.ble_eq.mp hc1
        have hc2:=Nat.ble_eq.mp hc2
        obtain ⟨l,e',op,hg,h⟩:=rdK_some h
        obtain ⟨hl,h⟩:=subK_some h
        simp only [appK_eq,newK_eq,natK_eq,Option.some.injEq,Prod.mk.injEq] at h
        obtain ⟨e1,e2⟩:=h
        have hdx:D b:=hD b (by rw [← e2];exact ins_has _ _ _)
        obtain ⟨b',s',pre,us,vs,q1,q2,qz,q3,q4,q5⟩:=hs.row hdx hg
        rw [hB] at q1;cases q1
        have hul:=q3.len
        have hsrc:Src P w i.size (.slice (some ⟨B,s.1+o,none⟩) n cap) n ((us.drop o).take (n*i.size)):=⟨⟨_,_,rfl,fun _=>⟨_,_,rfl,cells_of q2 qz⟩⟩,by simp;omega⟩
        have hne:ρ st.nx=none:=hf _ (Nat.le_refl _) (by rw [← e2];exact Nat.lt_succ_self _)
        obtain ⟨c,w',hc,hr,a1,a2,a3,a4⟩:=run_append_new (P:=P) (ty:=ty) (w:=w) (olds:=(us.drop o).take (n*i.size)) (n:=n) (k:=cap) hu hi hzv rfl (fun q=>by cases q) (fun {w'} hw=>run_firstCells_src hsrc hw) hz (Nat.succ_pos _) (by omega) hc2 hc1
        refine Did.after hs (ins_sub st.base b st.R) ?_
        have hs':Sim ρ D ⟨st.h,st.nx,st.base,ins st.base b st.R,st.W⟩ w:=⟨hs.live,hs.inj,hs.lt⟩
        refine Did.new (n:=(0,c*i.size)) hs' hf e2.symm hr ⟨[],(us.drop o).take (n*i.size)++nv,(Builtin.zeroCells zv.cells (c-(n+(m'+1)))).toList,rfl,rfl,(((q3.drop o).take _).app hn).mono (Ren.put_le hne),(fun h=>by cases h),?_⟩ a1 a2 a3 a4 ?_
        · rw [List.length_append,hsrc.len,hzl,zeroCells_len,hzs,← Nat.add_mul,← Nat.add_mul];congr 1;omega
        · rw [← e1,Rel];exact ⟨_,_,c,Ren.put_at,by simp [CapR],rfl⟩
    · rename_i b o n sz'
      have hx0:=hx
      rw [Rel] at hx
      obtain ⟨B,s,cap,hB,hc,rfl⟩:=hx
      simp only [CapR] at hc
      have hq:=(bif_of h).1
      replace h:=(bif_of h).2
      obtain ⟨hq1,hq2⟩:=by rw [Bool.and_eq_true] at hq;exact hq
      have hq1:=Nat.eq_of_beq_eq_true hq1
      have hq2:=Nat.blt_eq.mp hq2
      subst hq1
      have hcc:=(bif_of h).1
      replace h:=(bif_of h).2
      obtain ⟨hc1,hc2⟩:=by rw [Bool.and_eq_true] at hcc;exact hcc
      have hc1:=Nat.ble_eq.mp hc1
      have hc2:=Nat.ble_eq.mp hc2
      obtain ⟨l,e',op,hg,h⟩:=rdK_some h
      have ho:=(bif_of h).1
      replace h:=(bif_of h).2
      obtain ⟨ho1,ho2⟩:=by rw [Bool.and_eq_true] at ho;exact ho
      have ho2:=Nat.eq_of_beq_eq_true ho2
      subst ho2
      cases hb:Nat.ble (o+(n+(m'+1))*i.size) (llen l) with
      | true=>rw [hb] at h;cases h
      | false =>
        rw [hb,cond_false] at h
        have hb:¬ (o+(n+(m'+1))*i.size≤l.length):=fun q=>by rw [← llen_eq] at q;rw [Nat.ble_eq.mpr q] at hb;cases hb
        obtain ⟨hl,h⟩:=subK_some h
        simp only [appK_eq,Tr.setK_eq,natK_eq,insK_eq,Option.some.injEq,Prod.mk.injEq] at h
        obtain ⟨e1,e2⟩:=h
        have hdx:D b:=hD b (by rw [← e2];exact ins_has _ _ _)
        obtain ⟨b',s',pre,us,vs,q1,q2,qz,q3,q4,q5⟩:=hs.row hdx hg
        rw [hB] at q1;cases q1
        have hul:=q3.len
        have hne:ρ st.nx=none:=hf _ (Nat.le_refl _) (by rw [← e2];exact Nat.lt_succ_self _)
        have hsrc:Src P w i.size (.slice (some ⟨B,s.1+o,none⟩) n cap) n ((us.drop o).take (n*i.size)):=⟨⟨_,_,rfl,fun _=>⟨_,_,rfl,cells_of q2 qz⟩⟩,by simp;omega⟩
        have hk1:∀ y,y∈st.W→y∈ins st.base b st.W:=ins_sub _ _ _
        by_cases hroom:n+(m'+1)≤cap
        · -- within the room
          have hm1:(n+(m'+1))*i.size≤cap*i.size:=Nat.mul_le_mul_right _ hroom
          have hzl2:nv.length=(m'+1)*i.size:=hzl
          have hm2:(n+(m'+1))*i.size=n*i.size+(m'+1)*i.size:=Nat.add_mul ..
          obtain ⟨w',hr,a1,a2,a3,a4,a5,a6⟩:=run_append_in (P:=P) (ty:=ty) (w:=w) (b:=B) (o:=s.1+o) (n:=n) (k:=cap) hu hi q2 hz h1 hroom (by rw [← qz];simp;omega)
          have e3:s.1+o+n*i.size=pre.length+(o+n*i.size):=by rw [qz];omega
          rw [e3,wrl_pre (by simp;omega)] at a5
          have e4:wrl (us++vs) (o+n*i.size) nv=us.take o++(((us.drop o).take (n*i.size)++nv)++(us++vs).drop (o+n*i.size+nv.length)):=by
            have e5:us++vs=us.take (o+n*i.size)++(us++vs).drop (o+n*i.size):=by
              conv=>lhs;rw [← List.take_append_drop (o+n*i.size) (us++vs)]
              rw [List.take_append_of_le_length (by omega)]
            have e6:(us.take (o+n*i.size)).length=o+n*i.size:=by simp;omega
            have e7:=wrl_eq nv (us.take (o+n*i.size)) ((us++vs).drop (o+n*i.size)) (by simp;omega)
            rw [e6,← e5] at e7
            rw [e7,List.drop_drop]
            have e8:us.take (o+n*i.size)=us.take o++(us.drop o).take (n*i.size):=by rw [List.take_add]
            rw [e8]
            simp [List.append_assoc]
          rw [e4,← List.append_assoc] at a5
          refine ⟨_,w',ρ.put st.nx B (s.1+o,s.2-o),hr,?_,?_⟩
          · rw [← e1,Rel];exact ⟨B,(s.1+o,s.2-o),cap,Ren.put_at,by simp only [CapR];omega,rfl⟩
          · rw [← e2]
            refine Step.move hs hne hdx (by rw [hg];simp) hB (s1:=(s.1+o,s.2-o)) (o:=.cells ((l.drop o).take (n*i.size)++news) e' true) (ob:=_) ⟨pre++us.take o,(us.drop o).take (n*i.size)++nv,(us++vs).drop (o+n*i.size+nv.length),rfl,?_,(((q3.drop o).take _).app hn).mono (Ren.put_le hne),(fun h=>by cases h),?_⟩ (ins_sub _ _ _) hk1 (ins_has _ _ _) a1 a2 a3 a4 a5 a6
            · simp;omega
            · simp;omega
        · obtain ⟨c,w',hc',hr,a1,a2,a3,a4⟩:=run_append_new (P:=P) (ty:=ty) (w:=w) (olds:=(us.drop o).take (n*i.size)) (n:=n) (k:=cap) hu hi hzv rfl (fun q=>by cases q) (fun {w'} hw=>run_firstCells_src hsrc hw) hz (Nat.succ_pos _) (by omega) hc2 hc1
          have hkill:=Step.kill (x:=b) (R:=ins st.base b st.R) (W:=ins st.base b st.W) hs (ins_sub _ _ _) hk1 (ins_has _ _ _)
          have hrel:RelL ρ ((l.drop o).take (n*i.size)++news) ((us.drop o).take (n*i.size)++nv):=((q3.drop o).take _).app hn
          refine ⟨_,w',ρ.put st.nx w.heap.size (0,c*i.size),hr,?_,?_⟩
          · rw [← e1,Rel];exact ⟨_,_,c,Ren.put_at,by simp [CapR],rfl⟩
          · have hnew:=Step.new (o:=.cells ((l.drop o).take (n*i.size)++news) e' true) (s:=(0,c*i.size)) (ob:=_) hkill.sim hne ⟨[],(us.drop o).take (n*i.size)++nv,(Builtin.zeroCells zv.cells (c-(n+(m'+1)))).toList,rfl,rfl,hrel.mono (Ren.put_le hne),(fun h=>by cases h),(by
              rw [List.length_append,hsrc.len,hzl,zeroCells_len,hzs,← Nat.add_mul,← Nat.add_mul];congr 1;omega)⟩ a1 a2 a3 a4
            rw [← e2]
            exact hkill.trans hnew
    · cases h

theorem apS_ok {T T' ty:TypeId} {x y v:SV} {u z:Value} (hx:Rel ρ x u) (hy:Rel ρ y z) (h:apS P T T' x y st=some (v,st')) (hs:Sim ρ D st w) (hD:∀ x,x∈st'.R∨st.base≤x→D x) (hf:Free ρ st.nx st'.nx) :
    Did P ρ D st st' w v (Builtin.append_ #[T,T'] ty #[u,z]):=by
  unfold apS at h
  have hT:=(bif_of h).1
  replace h:=(bif_of h).2
  have hT:=Nat.eq_of_beq_eq_true hT
  subst hT
  split at h
  · rename_i e sz by' zz hT
    obtain ⟨hu,i,zv,hi,rfl,rfl,hz,rfl,hzc,hzl⟩:=slT_ok hT
    obtain ⟨n,vs,us,R',h,hR,hr,hsrc⟩:=srcK_ok hy h hs fun n vs st1 h1 x hx=>hD x (by
      rcases hx with q | q
      · exact .inl (apC_R h1 x q)
      · exact .inr q)
    refine Did.after hs hR ?_
    exact apC_ok hu hi hz (by rw [hzc];simpa using hzl) hx hsrc hr h ⟨hs.live,hs.inj,hs.lt⟩ hD hf
  · cases h
end
end Go.TX
